-- Laid for this claim by a program of the session's own (wip/tool/myprint.py).
import Derived.Test.YtkgekmpnbhomgaaMFnBitsx0
import Derived.Test.YtkgekmpnbhomgaaMFnBitsx3
import Derived.Test.YtkgekmpnbhomgaaMFnBitsx4
namespace Go.Proofs.Ytkgekmpnbhomgaa.PFnBits
open Go.RowKit Go.Proofs.YtkgekmpnbhomgaaW.PrintWords Go.Proofs.YtkgekmpnbhomgaaW.PrintLast Go.Proofs.YtkgekmpnbhomgaaW.PrintMore
attribute [local go_sem] max2_int min2_int max_two min_two max_three min_three max_four min_four
set_option linter.unusedVariables false
set_option linter.unusedSimpArgs false
mutual
def spec_l2Table.j0 : Nat → List Int → Bool → Option (Bool)
 | 0, _, _ => none
 | k + 1, x1, x15 => if x15 = true then (some false) else (spec_l2Table.l0 k x1 0)
def spec_l2Table.l0 : Nat → List Int → Int → Option (Bool)
 | 0, _, _ => none
 | k + 1, x1, x5 => if x5 < (x1.length : Int) then (if 0 ≤ x5 then ((spec_l1In.f (rd x1 x5) 0 1).bind fun t325 => (if t325 = true then (spec_l2Table.l0 k x1 (wrap64 (x5 + 1))) else (some false))) else (none)) else (some true)
end
def spec_l2Table.f (k : Nat) (a0 : Int) (l1 : List Int) : Option (Bool) := (spec_l1In.f a0 0 4).bind fun t323 => (if t323 = true then (if 0 ≤ a0 then (spec_l2Table.j0 k l1 ((l1.length : Int) != (shl .i64 1 a0))) else (none)) else (spec_l2Table.j0 k l1 true))
theorem spec_l2Table.mono_l : ∀ k, (∀ y0 y1, LeO (spec_l2Table.j0 k y0 y1) (spec_l2Table.j0 (k + 1) y0 y1)) ∧ (∀ y0 y1, LeO (spec_l2Table.l0 k y0 y1) (spec_l2Table.l0 (k + 1) y0 y1))
 | 0 => ⟨fun _ _ r h => by simp [spec_l2Table.j0] at h, fun _ _ r h => by simp [spec_l2Table.l0] at h⟩
 | k + 1 => by
  obtain ⟨ih0, ih1⟩ := spec_l2Table.mono_l k
  refine ⟨?_, ?_⟩
  ·
   intro y0 y1
   unfold spec_l2Table.j0
   repeat' first
   | (with_reducible exact ih0 _ _)
   | (with_reducible exact ih1 _ _)
   | (with_reducible exact LeO.refl _)
   | (with_reducible exact LeO.none _)
   | (with_reducible refine LeO.ite ?_ ?_)
   | (with_reducible refine LeO.bind ?_ (fun _ => ?_))
   | exact ih0 _ _
   | exact ih1 _ _
   | exact LeO.none _
   | refine LeO.ite ?_ ?_
   | refine LeO.bind ?_ (fun _ => ?_)
  ·
   intro y0 y1
   unfold spec_l2Table.l0
   repeat' first
   | (with_reducible exact ih0 _ _)
   | (with_reducible exact ih1 _ _)
   | (with_reducible exact LeO.refl _)
   | (with_reducible exact LeO.none _)
   | (with_reducible refine LeO.ite ?_ ?_)
   | (with_reducible refine LeO.bind ?_ (fun _ => ?_))
   | exact ih0 _ _
   | exact ih1 _ _
   | exact LeO.none _
   | refine LeO.ite ?_ ?_
   | refine LeO.bind ?_ (fun _ => ?_)
theorem spec_l2Table.mono : ∀ a0 a1 k, LeO (spec_l2Table.f k a0 a1) (spec_l2Table.f (k + 1) a0 a1) := by
 intro a0 a1 k
 obtain ⟨ih0, ih1⟩ := spec_l2Table.mono_l k
 unfold spec_l2Table.f
 repeat' first
   | (with_reducible exact ih0 _ _)
   | (with_reducible exact ih1 _ _)
   | (with_reducible exact LeO.refl _)
   | (with_reducible exact LeO.none _)
   | (with_reducible refine LeO.ite ?_ ?_)
   | (with_reducible refine LeO.bind ?_ (fun _ => ?_))
   | exact ih0 _ _
   | exact ih1 _ _
   | exact LeO.none _
   | refine LeO.ite ?_ ?_
   | refine LeO.bind ?_ (fun _ => ?_)
set_option maxHeartbeats 8000000 in
set_option maxRecDepth 100000 in
theorem spec_l2Table.calls (k : Nat) (a0 : Int) (A1 : Option Addr) (c1 : Nat) (l1 : List Int) (r : Bool) (w : World) (hr1 : Kd.C (Kd.int .i64) w A1 l1.length l1) (hc1 : l1.length ≤ c1) (h : spec_l2Table.f k a0 l1 = some r) :
  Calls Try.prog 61 #[.int .i64 a0, .slice A1 l1.length c1] w fun e w' => e = .returned (.bool r) ∧ Drawn0 w w' := by
 have HR1 := aM hr1
 have HC1 := aM hc1
 clear hr1 hc1
 have H : ((spec_l1In.f a0 0 4).bind fun t323 => (if t323 = true then (if 0 ≤ a0 then (spec_l2Table.j0 k l1 ((l1.length : Int) != (shl .i64 1 a0))) else (none)) else (spec_l2Table.j0 k l1 true))) = some r := h
 clear h
 have HC3 := aM H
 clear H
 go_enter Try.func61, Try.ntmps61
 go_upto_region 1 with (fail)
 go_cut [15] (fun v15 wc => ∃ (kq : Nat) (x15_2 : Bool), v15 = .bool x15_2 ∧ Aside0 (spec_l2Table.j0 kq l1 x15_2 = some r) ∧ Aside0 (kq ≤ k) ∧ Drawn0 w wc)
 case first =>
  have H := HC3.out
  clear HC3
  replace H := oB.mp H
  obtain ⟨t323, A40, H⟩ := H
  replace H : (if t323 = true then (if 0 ≤ a0 then (spec_l2Table.j0 k l1 ((l1.length : Int) != (shl .i64 1 a0))) else (none)) else (spec_l2Table.j0 k l1 true)) = some r := H
  have A4 := aM A40
  clear A40
  by_cases c5 : t323 = true
  ·
   subst c5
   have H1 : (if 0 ≤ a0 then (spec_l2Table.j0 k l1 ((l1.length : Int) != (shl .i64 1 a0))) else (none)) = some r := by rw [if_pos rfl] at H; exact H
   clear H
   have H := H1
   clear H1
   by_cases c6 : 0 ≤ a0
   ·
    rw [if_pos c6] at H
    have c6b0 := eq_true c6
    have c6b1 : decide (0 ≤ a0) = true := decide_eq_true c6
    clear c6
    obtain ⟨ji7, hji7⟩ : ∃ j_ : Int, (shl .i64 1 a0) = j_ := ⟨_, rfl⟩
    replace H : (spec_l2Table.j0 k l1 ((l1.length : Int) != (ji7))) = some r := by first | (rw [hji7] at H; exact H) | (simp only [hji7] at H ⊢; exact H)
    (try rw [hji7] at A4)
    have hji7_ : (IntKind.i64.wrap (1 * 2 ^ min a0.toNat 64)) = ji7 := hji7
    have hji7z : a0 ≤ 64 → (IntKind.i64.wrap (1 * 2 ^ a0.toNat)) = ji7 := shl_small hji7
    have hji7u : (IntKind.i64.wrap (2 ^ min a0.toNat 64)) = ji7 := by have h_ := hji7_; rw [Int.one_mul] at h_; exact h_
    have hji7v : a0 ≤ 64 → (IntKind.i64.wrap (2 ^ a0.toNat)) = ji7 := fun hle_ => by have h_ := hji7z hle_; rw [Int.one_mul] at h_; exact h_
    have hji7y : (wrap64 (1 * 2 ^ min a0.toNat 64)) = ji7 := (i64_w _).symm.trans hji7_
    have hji7x : a0 ≤ 64 → (wrap64 (1 * 2 ^ a0.toNat)) = ji7 := fun h_ => (i64_w _).symm.trans (hji7z h_)
    have H' := aM H
    clear H
    go_wp2_with (first | ((with_reducible refine gate_callee (f := 64) rfl ?_); refine goesL_ (some 7) rfl rfl Try.func64 (by kernel_rfl) rfl #[.int .i64 a0, .int .i64 0, .int .i64 4] rfl xL ?_; (with_reducible refine (spec_l1In.calls a0 0 4 true _ A4.out).mono ?_); rintro e w' ⟨rfl, ⟨nd, rfl⟩⟩; refine ⟨_, rfl, ?_⟩))
    (try subst hji7)
    go_meet
    case rel => exact ⟨_, (((l1.length : Int) != ((shl .i64 1 a0)))), (by first | rfl | (simp; done) | (simp only [← hji7] <;> (first | rfl | simp)) | (simp [*]; done)), H', ⟨by first | omega | exact Nat.le_refl _⟩, by repeat (first | exact Drawn0.refl _ | apply Drawn0.step)⟩
   ·
    rw [if_neg c6] at H
    exact absurd H (by simp)
  ·
   replace c5 := Bool.eq_false_iff.mpr c5
   subst c5
   have H1 : (spec_l2Table.j0 k l1 true) = some r := by rw [if_neg (show ¬ (false = true) by decide)] at H; exact H
   clear H
   have H := H1
   clear H1
   have H' := aM H
   clear H
   go_wp2_with (first | ((with_reducible refine gate_callee (f := 64) rfl ?_); refine goesL_ (some 7) rfl rfl Try.func64 (by kernel_rfl) rfl #[.int .i64 a0, .int .i64 0, .int .i64 4] rfl xL ?_; (with_reducible refine (spec_l1In.calls a0 0 4 false _ A4.out).mono ?_); rintro e w' ⟨rfl, ⟨nd, rfl⟩⟩; refine ⟨_, rfl, ?_⟩))
   go_meet
   case rel => exact ⟨_, (true), (by first | rfl | (simp; done) | (simp [*]; done)), H', ⟨by first | omega | exact Nat.le_refl _⟩, by repeat (first | exact Drawn0.refl _ | apply Drawn0.step)⟩
 case rest =>
  clear HC3
  try clear c1; try clear p2; try clear c5; try clear c6; try clear c6b0; try clear c6b1; try clear p6
  obtain ⟨kq, x15_2, rfl, HA, HJ2, ⟨mc2, rfl⟩⟩ := hcut
  cases kq with
  | zero => exact absurd HA.out (by simp [spec_l2Table.j0])
  | succ kj2 =>
   have H := HA.out
   clear HA
   simp only [spec_l2Table.j0] at H
   by_cases c8 : x15_2 = true
   ·
    subst c8
    have H1 : (some false) = some r := by rw [if_pos rfl] at H; exact H
    clear H
    have H := H1
    clear H1
    obtain rfl := Option.some.inj H
    go_wp2
    go_ret
    exact ⟨by first | rfl | (simp; done) | (simp [*]; done), by repeat (first | exact Drawn0.refl _ | apply Drawn0.step)⟩
   ·
    replace c8 := Bool.eq_false_iff.mpr c8
    subst c8
    have H1 : (spec_l2Table.l0 kj2 l1 0) = some r := by rw [if_neg (show ¬ (false = true) by decide)] at H; exact H
    clear H
    have H := H1
    clear H1
    have H' := aM H
    clear H
    go_wp2
    go_loopg [5] kj2 (fun kq v5 w' => ∃ (x5_2 : Int), v5 = .int .i64 x5_2 ∧ Aside0 (spec_l2Table.l0 kq l1 x5_2 = some r) ∧ Aside0 (kq ≤ kj2) ∧ Drawn0 w w')
    case atStart => exact ⟨(0), (by first | rfl | (simp; done) | (simp [*]; done)), H', ⟨Nat.le_refl _⟩, by repeat (first | exact Drawn0.refl _ | apply Drawn0.step)⟩
    case round =>
     clear H'
     try clear c1; try clear c2; try clear p2; try clear c5; try clear c6; try clear c6b0; try clear c6b1; try clear p6; try clear c8; try clear p2; try clear p6
     obtain ⟨x5_2, rfl, HA, HK2, ⟨m2, rfl⟩⟩ := hrel
     cases gk with
     | zero => exact absurd HA.out (by simp [spec_l2Table.l0])
     | succ k2 =>
      have H := HA.out
      clear HA
      simp only [spec_l2Table.l0] at H
      by_cases c9 : x5_2 < (l1.length : Int)
      ·
       rw [if_pos c9] at H
       have c9b0 : decide (x5_2 < (l1.length : Int)) = true := decide_eq_true c9
       clear c9
       by_cases c10 : 0 ≤ x5_2
       ·
        rw [if_pos c10] at H
        have c10b0 : decide (0 ≤ x5_2) = true := decide_eq_true c10
        clear c10
        replace H := oB.mp H
        obtain ⟨t325, A110, H⟩ := H
        replace H : (if t325 = true then (spec_l2Table.l0 k2 l1 (wrap64 (x5_2 + 1))) else (some false)) = some r := H
        have A11 := aM A110
        clear A110
        by_cases c12 : t325 = true
        ·
         subst c12
         have H1 : (spec_l2Table.l0 k2 l1 (wrap64 (x5_2 + 1))) = some r := by rw [if_pos rfl] at H; exact H
         clear H
         have H := H1
         clear H1
         have H' := aM H
         clear H
         have p324 : 0 ≤ (x5_2 : Int) := of_decide_eq_true (by first | (with_reducible assumption) | assumption)
         have q324 : x5_2 < (l1.length : Int) := of_decide_eq_true (by first | (with_reducible assumption) | assumption)
         obtain ⟨ad324, e324, hx324_0⟩ := Kd.at_int HR1.out x5_2 p324 q324
         cases e324
         replace p324 := eq_true p324
         replace q324 := eq_true q324
         go_wp2_with (first | ((with_reducible refine gate_callee (f := 64) rfl ?_); refine goesL_ (some 26) rfl rfl Try.func64 (by kernel_rfl) rfl #[.int .i64 (rd l1 x5_2), .int .i64 0, .int .i64 1] rfl xL ?_; (with_reducible refine (spec_l1In.calls (rd l1 x5_2) 0 1 true _ A11.out).mono ?_); rintro e w' ⟨rfl, ⟨nd, rfl⟩⟩; refine ⟨_, rfl, ?_⟩))
         go_roundg k2
         case measure => have := HJ2.out; have := HK2.out; omega
         case rel => exact ⟨(wrap64 (x5_2 + 1)), (by first | rfl | (simp; done) | (simp [*]; done)), H', ⟨by have := HJ2.out; have := HK2.out; omega⟩, by repeat (first | exact Drawn0.refl _ | apply Drawn0.step)⟩
        ·
         replace c12 := Bool.eq_false_iff.mpr c12
         subst c12
         have H1 : (some false) = some r := by rw [if_neg (show ¬ (false = true) by decide)] at H; exact H
         clear H
         have H := H1
         clear H1
         obtain rfl := Option.some.inj H
         have p324 : 0 ≤ (x5_2 : Int) := of_decide_eq_true (by first | (with_reducible assumption) | assumption)
         have q324 : x5_2 < (l1.length : Int) := of_decide_eq_true (by first | (with_reducible assumption) | assumption)
         obtain ⟨ad324, e324, hx324_0⟩ := Kd.at_int HR1.out x5_2 p324 q324
         cases e324
         replace p324 := eq_true p324
         replace q324 := eq_true q324
         go_wp2_with (first | ((with_reducible refine gate_callee (f := 64) rfl ?_); refine goesL_ (some 26) rfl rfl Try.func64 (by kernel_rfl) rfl #[.int .i64 (rd l1 x5_2), .int .i64 0, .int .i64 1] rfl xL ?_; (with_reducible refine (spec_l1In.calls (rd l1 x5_2) 0 1 false _ A11.out).mono ?_); rintro e w' ⟨rfl, ⟨nd, rfl⟩⟩; refine ⟨_, rfl, ?_⟩))
         go_ret
         exact ⟨by first | rfl | (simp; done) | (simp [*]; done), by repeat (first | exact Drawn0.refl _ | apply Drawn0.step)⟩
       ·
        rw [if_neg c10] at H
        exact absurd H (by simp)
      ·
       rw [if_neg c9] at H
       have c9b0 : decide (x5_2 < (l1.length : Int)) = false := decide_eq_false c9
       clear c9
       obtain rfl := Option.some.inj H
       go_wp2
       go_ret
       exact ⟨by first | rfl | (simp; done) | (simp [*]; done), by repeat (first | exact Drawn0.refl _ | apply Drawn0.step)⟩
def spec_l2Told.l0 : Nat → Int → List Int → Int → List (List Int) → List Int → Option ((List (List Int)) × List Int)
 | 0, _, _, _, _, _ => none
 | k + 1, x0, x1, x6, x334000, x334001 => if x6 < (x1.length : Int) then ((spec_l2BitPoint.f k x0 x6).bind fun t334 => (if x334000.length < 5864062014805 then (if 0 ≤ x6 then (if x334001.length < 17592186044416 then (spec_l2Told.l0 k x0 x1 (wrap64 (x6 + 1)) (x334000 ++ [t334]) (x334001 ++ [wrap64 ((wrap64 (2 * (rd x1 x6))) - 1)])) else (none)) else (none)) else (none))) else (some (x334000, x334001))
def spec_l2Told.f (k : Nat) (a0 : Int) (l1 : List Int) : Option ((List (List Int)) × List Int) := spec_l2Told.l0 k a0 l1 0 (([] : List (List Int))) (([] : List Int))
theorem spec_l2Told.mono_l : ∀ k, (∀ y0 y1 y2 y3 y4, LeO (spec_l2Told.l0 k y0 y1 y2 y3 y4) (spec_l2Told.l0 (k + 1) y0 y1 y2 y3 y4))
 | 0 => fun _ _ _ _ _ r h => by simp [spec_l2Told.l0] at h
 | k + 1 => by
  have ih0 := spec_l2Told.mono_l k
  ·
   intro y0 y1 y2 y3 y4
   unfold spec_l2Told.l0
   repeat' first
   | (with_reducible exact ih0 _ _ _ _ _)
   | (with_reducible exact spec_l2BitPoint.mono _ _ _)
   | (with_reducible exact LeO.refl _)
   | (with_reducible exact LeO.none _)
   | (with_reducible refine LeO.ite ?_ ?_)
   | (with_reducible refine LeO.bind ?_ (fun _ => ?_))
   | exact ih0 _ _ _ _ _
   | exact spec_l2BitPoint.mono _ _ _
   | exact LeO.none _
   | refine LeO.ite ?_ ?_
   | refine LeO.bind ?_ (fun _ => ?_)
theorem spec_l2Told.mono : ∀ a0 a1 k, LeO (spec_l2Told.f k a0 a1) (spec_l2Told.f (k + 1) a0 a1) := by
 intro a0 a1 k
 have ih0 := spec_l2Told.mono_l k
 unfold spec_l2Told.f
 repeat' first
   | (with_reducible exact ih0 _ _ _ _ _)
   | (with_reducible exact spec_l2BitPoint.mono _ _ _)
   | (with_reducible exact LeO.refl _)
   | (with_reducible exact LeO.none _)
   | (with_reducible refine LeO.ite ?_ ?_)
   | (with_reducible refine LeO.bind ?_ (fun _ => ?_))
   | exact ih0 _ _ _ _ _
   | exact spec_l2BitPoint.mono _ _ _
   | exact LeO.none _
   | refine LeO.ite ?_ ?_
   | refine LeO.bind ?_ (fun _ => ?_)
def spec_l2Told.T5 : Bool × List (List Nat × List Nat) := (true, [([], []), ([0], [0]), ([], []), ([], []), ([2, 3], [2, 3]), ([4], [4]), ([1, 5, 4], [1, 5]), ([0, 1, 2, 3, 4, 5, 6], []), ([7, 6, 6, 0, 1, 2, 3, 4, 5, 6], [6, 7])])
def spec_l2Told.B5 : List Nat := [0, 1, 0, 0, 12, 28, 63, 127, 255]
theorem spec_l2Told.tab5 : rtab .any (opsOf Try.f62 5) = spec_l2Told.T5 := by kernel_rfl
theorem spec_l2Told.bits5 : waitsOk spec_l2Told.T5.2 spec_l2Told.B5 = true := by kernel_rfl
def spec_l2Told.T6 : Bool × List (List Nat × List Nat) := (true, [([], []), ([0], [0]), ([], []), ([], []), ([2, 3], [2, 3]), ([4], [4]), ([5], [5]), ([6], [6]), ([7], [7]), ([1, 8], [1, 8]), ([0, 1, 2, 3, 4, 5, 6, 7, 8, 9], []), ([10, 9, 9, 0, 1, 2, 3, 4, 5, 6, 7, 8, 9], [9, 10])])
def spec_l2Told.B6 : List Nat := [0, 1, 0, 0, 12, 28, 60, 124, 252, 511, 1023, 2047]
theorem spec_l2Told.tab6 : rtab .any (opsOf Try.f62 6) = spec_l2Told.T6 := by kernel_rfl
theorem spec_l2Told.bits6 : waitsOk spec_l2Told.T6.2 spec_l2Told.B6 = true := by kernel_rfl
set_option maxHeartbeats 8000000 in
set_option maxRecDepth 100000 in
theorem spec_l2Told.calls (k : Nat) (a0 : Int) (A1 : Option Addr) (c1 : Nat) (l1 : List Int) (r1 : List (List Int)) (r2 : List Int) (w : World) (hr1 : Kd.C (Kd.int .i64) w A1 l1.length l1) (hc1 : l1.length ≤ c1) (h : spec_l2Told.f k a0 l1 = some (r1, r2)) :
  Calls Try.prog 62 #[.int .i64 a0, .slice A1 l1.length c1] w fun e w' => ∃ v0_ v1_ : Value, e = .returned (.agg #[v0_, v1_]) ∧ Kd.S (Kd.slice 3 (Kd.int .i64)) 24 w' w.heap.size (fun k_ => some k_ ≠ (v1_ : Value).ownBlock) v0_ r1 ∧ Kd.R (Kd.int .i64) 3 w' w.heap.size (fun _ => True) v1_ r2 ∧ Below w.heap.size w w' := by
 have hu36 := Try.underlying36
 have HR1 := aM hr1
 have HC1 := aM hc1
 clear hr1 hc1
 have HB := aM (Below.refl w.heap.size w)
 have H : (spec_l2Told.l0 k a0 l1 0 (([] : List (List Int))) (([] : List Int))) = some (r1, r2) := h
 clear h
 obtain ⟨y327, hy327⟩ : ∃ y_ : List (List Int), y_ = (([] : List (List Int))) := ⟨_, rfl⟩
 replace H : (spec_l2Told.l0 k a0 l1 0 y327 (([] : List Int))) = some (r1, r2) := by first | (rw [hy327]; with_reducible exact H) | (have H2_ := (Option.bind_some _ _).symm.trans H; rw [hy327]; with_reducible exact H2_) | (have H2_ := (Option.bind_some _ _).symm.trans H; with_reducible exact H2_) | with_reducible exact H | (rw [hy327]; exact H) | exact H
 have Ny327 := aM hy327
 clear hy327
 obtain ⟨y330, hy330⟩ : ∃ y_ : List Int, y_ = (([] : List Int)) := ⟨_, rfl⟩
 replace H : (spec_l2Told.l0 k a0 l1 0 y327 y330) = some (r1, r2) := by first | (rw [hy330]; with_reducible exact H) | (have H2_ := (Option.bind_some _ _).symm.trans H; rw [hy330]; with_reducible exact H2_) | (have H2_ := (Option.bind_some _ _).symm.trans H; with_reducible exact H2_) | with_reducible exact H | (rw [hy330]; exact H) | exact H
 have Ny330 := aM hy330
 clear hy330
 have H' := aM H
 clear H
 go_enter Try.func62, Try.ntmps62
 go_wp2_with (first | ((with_reducible refine gate_dst (N := 4) rfl ?_); refine box_event ?hg (N := 4) ?hd (cs := #[.slice none 0 0, .slice none 0 0]) (t := 36) ?hr ?_; (case hd => rfl); (case hg => rfl); (case hr => first | (go_simp; done) | (go_simp; rfl)); intro gb326 hg w3 hbox hb; have BK326 := aM (hbox); have GW326 := aM ((by rw [hg]; exact (below_size (xH HB.out)) : w.heap.size ≤ gb326)); have GE326 := aM ((by rw [hg]; exact (below_size (xH HB.out)) : w.heap.size ≤ gb326)); replace HB := aM (below_step (xH HB.out) hb); clear hb hbox hg) | ((with_reducible refine gate_dst (N := 7) rfl ?_); refine Kd.S_lit (Kd.slice 3 (Kd.int .i64)) _ 24 ?hg (N := 7) ?hd (xs := ([] : List (List Int))) (inner := []) (ok := fun _ => True) (okp := fun _ => True) ?hr ?hp (fun _ hk => hk) trivial (Below.refl _ _) (Nat.le_refl _) (by simp) ?_; (case hd => rfl); (case hg => rfl); (case hr => first | (go_simp; done) | (go_simp; rfl)); (case hp => exact (Reps.none _ _)); intro v328 w4 ho5 hb hg_ hnew_; clear hg_ hnew_; (first | rw [← Ny327.out] at ho5 | (simp only [Int.reduceToNat] at ho5; rw [← Ny327.out] at ho5)); have HO329 := aM (Kd.S_lower ho5 (below_size (xG1 HB.out GE326.out))); replace BK326 := aM (bB (g := gb326) (o := .cells #[.slice none 0 0, .slice none 0 0] 36 (0, 0)) (xB BK326.out) hb); replace HB := aM (below_step (xG1 HB.out GE326.out) hb); clear hb ho5) | ((with_reducible refine gate_dst (N := 8) rfl ?_); refine Kd.R_lit (Kd.int .i64) _ 3 ?hg (N := 8) ?hd (xs := ([] : List Int)) (inner := []) (ok := fun _ => True) (okp := fun _ => True) ?hr ?hp (fun _ hk => hk) trivial (Below.refl _ _) (Nat.le_refl _) (by simp) ?_; (case hd => rfl); (case hg => rfl); (case hr => first | (go_simp; done) | (go_simp; rfl)); (case hp => exact (Reps.none _ _)); intro v331 w6 ho7 hb hg_ hnew_; clear hg_ hnew_; (first | rw [← Ny330.out] at ho7 | (simp only [Int.reduceToNat] at ho7; rw [← Ny330.out] at ho7)); replace HO329 := aM (Kd.S_elder' (xS HO329.out) (Kd.R_base ho7) hb); have HO332 := aM (Kd.R_lower ho7 (below_size (xG1 HB.out GE326.out))); replace BK326 := aM (bB (g := gb326) (o := .cells #[.slice none 0 0, .slice none 0 0] 36 (0, 0)) (xB BK326.out) hb); replace HB := aM (below_step (xG1 HB.out GE326.out) hb); clear hb ho7; obtain ⟨Ao8, co8, eo8⟩ := Kd.R_slice HO332.out; subst eo8; obtain ⟨Ao9, co9, eo9⟩ := Kd.S_slice HO329.out; subst eo9) | ((with_reducible refine gate_dst (N := 5) rfl ?_); refine box_event ?hg (N := 5) ?hd (cs := #[.slice none 0 0, .slice none 0 0]) (t := 36) ?hr ?_; (case hd => rfl); (case hg => rfl); (case hr => first | (go_simp; done) | (go_simp; rfl)); intro gb333 hg w10 hbox hb; replace HO329 := aM (Kd.S_below (xS HO329.out) hb); replace HO332 := aM (Kd.R_below (xR HO332.out) hb); have BK333 := aM (hbox); have GW333 := aM ((by rw [hg]; exact (below_size (xG1 HB.out GE326.out)) : w.heap.size ≤ gb333)); have GE333 := aM ((by rw [hg]; exact (below_size (xG1 HB.out GE326.out)) : w.heap.size ≤ gb333)); replace HB := aM (below_step (xG1 HB.out GE326.out) hb); have NB326_333 := aM ((by rw [hg]; exact Nat.ne_of_lt (blk_lt (g := gb326) (o := .cells #[.slice none 0 0, .slice none 0 0] 36 (0, 0)) (xB BK326.out)) : gb326 ≠ gb333)); have NB333_326 := aM ((by rw [hg]; exact Nat.ne_of_gt (blk_lt (g := gb326) (o := .cells #[.slice none 0 0, .slice none 0 0] 36 (0, 0)) (xB BK326.out)) : gb333 ≠ gb326)); replace BK326 := aM (bB (g := gb326) (o := .cells #[.slice none 0 0, .slice none 0 0] 36 (0, 0)) (xB BK326.out) hb); clear hb hbox hg; have hnb11 := NB333_326.out; have hnc11 := NB326_333.out; have hcz12_0 : w10.cell? ⟨gb333, 0, none⟩ = some (.slice none 0 0) := (bC BK333.out 0).trans rfl; have hcz12_1 : w10.cell? ⟨gb333, 1, none⟩ = some (.slice none 0 0) := (bC BK333.out 1).trans rfl; have hfz12_0 := bF BK333.out 0; have hfz12_1 := bF BK333.out 1))
 go_loopg [6] k (fun kq v6 w' => ∃ (x6_1 : Int) (x334000_1 : List (List Int)) (x334001_1 : List Int) (u334000 : Value) (u334001 : Value), v6 = .int .i64 x6_1 ∧ Aside0 (spec_l2Told.l0 kq a0 l1 x6_1 x334000_1 x334001_1 = some (r1, r2)) ∧ Aside0 (kq ≤ k) ∧ Aside0 (Kd.S (Kd.slice 3 (Kd.int .i64)) 24 w' w.heap.size (fun k_ => some k_ ≠ (u334001 : Value).ownBlock) u334000 x334000_1) ∧ Aside0 (Kd.R (Kd.int .i64) 3 w' w.heap.size (fun _ => True) u334001 x334001_1) ∧ Aside0 (w'.heap[gb326]? = some (.cells #[(.slice none 0 0), (.slice none 0 0)] 36 (0, 0))) ∧ Aside0 (w'.heap[gb333]? = some (.cells #[u334000, u334001] 36 (0, 0))) ∧ Aside0 (Below w.heap.size w w'))
 case atStart => exact ⟨(0), (y327), (y330), (.slice Ao9 y327.length co9), (.slice Ao8 y330.length co8), (by first | rfl | (simp; done) | (simp [*]; done)), H', ⟨Nat.le_refl _⟩, ⟨by (with_reducible repeat (first | apply Kd.S_alloc | apply Kd.S_drewN | apply Kd.S_drew)); exact Kd.S_mono (Kd.S_far (p := ⟨gb333, 1, none⟩) (Kd.S_far (p := ⟨gb333, 0, none⟩) (Kd.S_types HO329.out BK333.out (by decide)) (fun _ hk => hk.2) (.slice Ao9 y327.length co9)) (fun _ hk => hk.2) (.slice Ao8 y330.length co8)) (fun _ hk => hk.1.2)⟩, ⟨by (with_reducible repeat (first | apply rA | apply rN | apply rD)); exact rM (Kd.R_far (p := ⟨gb333, 1, none⟩) (Kd.R_far (p := ⟨gb333, 0, none⟩) (Kd.R_types HO332.out BK333.out (by decide)) (fun _ hk => hk.2) (.slice Ao9 y327.length co9)) (fun _ hk => hk.2) (.slice Ao8 y330.length co8)) (fun _ hk => trivial)⟩, ⟨by (with_reducible repeat (first | refine bN ?_ _ | refine bD ?_ | refine bA ?_ _)); refine blk_far ?_ NB326_333.out _; (with_reducible repeat (first | refine bN ?_ _ | refine bD ?_ | refine bA ?_ _)); refine blk_far ?_ NB326_333.out _; (with_reducible repeat (first | refine bN ?_ _ | refine bD ?_ | refine bA ?_ _)); exact BK326.out⟩, ⟨by (with_reducible repeat (first | refine bN ?_ _ | refine bD ?_ | refine bA ?_ _)); refine blk_put (cs := #[.slice Ao9 y327.length co9, .slice none 0 0]) ?_ 1 _ rfl; (with_reducible repeat (first | refine bN ?_ _ | refine bD ?_ | refine bA ?_ _)); refine blk_put (cs := #[.slice none 0 0, .slice none 0 0]) ?_ 0 _ rfl; (with_reducible repeat (first | refine bN ?_ _ | refine bD ?_ | refine bA ?_ _)); exact BK333.out⟩, ⟨xG2 HB.out GE326.out GE333.out⟩⟩
 case round =>
  clear H'
  try clear c1; try clear p2; try clear c6; try clear c11; try clear hcz12_0; try clear hcz12_1; try clear hfz12_0; try clear hfz12_1
  obtain ⟨x6_1, x334000_1, x334001_1, u334000, u334001, rfl, HA, HK1, HO_334000, HO_334001, BK326, BK333, HB⟩ := hrel
  cases gk with
  | zero => exact absurd HA.out (by simp [spec_l2Told.l0])
  | succ k1 =>
   have H := HA.out
   clear HA
   simp only [spec_l2Told.l0] at H
   by_cases c13 : x6_1 < (l1.length : Int)
   ·
    rw [if_pos c13] at H
    have c13b0 : decide (x6_1 < (l1.length : Int)) = true := decide_eq_true c13
    clear c13
    replace H := oB.mp H
    obtain ⟨t334, A140, H⟩ := H
    replace H : (if x334000_1.length < 5864062014805 then (if 0 ≤ x6_1 then (if x334001_1.length < 17592186044416 then (spec_l2Told.l0 k1 a0 l1 (wrap64 (x6_1 + 1)) (x334000_1 ++ [t334]) (x334001_1 ++ [wrap64 ((wrap64 (2 * (rd l1 x6_1))) - 1)])) else (none)) else (none)) else (none)) = some (r1, r2) := H
    have A14 := aM A140
    clear A140
    by_cases c15 : x334000_1.length < 5864062014805
    ·
     rw [if_pos c15] at H
     have LMc15 := aM c15
     clear c15
     obtain ⟨y337, hy337⟩ : ∃ y_ : List (List Int), y_ = (x334000_1 ++ [t334]) := ⟨_, rfl⟩
     replace H : (if 0 ≤ x6_1 then (if x334001_1.length < 17592186044416 then (spec_l2Told.l0 k1 a0 l1 (wrap64 (x6_1 + 1)) y337 (x334001_1 ++ [wrap64 ((wrap64 (2 * (rd l1 x6_1))) - 1)])) else (none)) else (none)) = some (r1, r2) := by first | (rw [hy337]; with_reducible exact H) | (have H2_ := (Option.bind_some _ _).symm.trans H; rw [hy337]; with_reducible exact H2_) | (have H2_ := (Option.bind_some _ _).symm.trans H; with_reducible exact H2_) | with_reducible exact H | (rw [hy337]; exact H) | exact H
     have Ny337 := aM hy337
     clear hy337
     by_cases c16 : 0 ≤ x6_1
     ·
      rw [if_pos c16] at H
      have c16b0 : decide (0 ≤ x6_1) = true := decide_eq_true c16
      clear c16
      by_cases c17 : x334001_1.length < 17592186044416
      ·
       rw [if_pos c17] at H
       have LMc17 := aM c17
       clear c17
       obtain ⟨y341, hy341⟩ : ∃ y_ : List Int, y_ = (x334001_1 ++ [wrap64 ((wrap64 (2 * (rd l1 x6_1))) - 1)]) := ⟨_, rfl⟩
       replace H : (spec_l2Told.l0 k1 a0 l1 (wrap64 (x6_1 + 1)) y337 y341) = some (r1, r2) := by first | (rw [hy341]; with_reducible exact H) | (have H2_ := (Option.bind_some _ _).symm.trans H; rw [hy341]; with_reducible exact H2_) | (have H2_ := (Option.bind_some _ _).symm.trans H; with_reducible exact H2_) | with_reducible exact H | (rw [hy341]; exact H) | exact H
       have Ny341 := aM hy341
       clear hy341
       have H' := aM H
       clear H
       try go_wp2
       have n0_ := aM (Kd.S_drew HO_334000.out)
       have n1_ := aM (rD HO_334001.out)
       have n2_ := aM (bD BK326.out)
       have n3_ := aM (bD BK333.out)
       have n4_ := aM (eD HB.out)
       clear HO_334000 HO_334001 BK326 BK333 HB
       have HO_334000 := n0_
       have HO_334001 := n1_
       have BK326 := n2_
       have BK333 := n3_
       have HB := n4_
       clear n0_ n1_ n2_ n3_ n4_
       refine start_ (n := 9) (S := fun w' => w'.cell? ⟨gb333, 0, none⟩ = some (u334000) ∧ w'.cell? ⟨gb333, 1, none⟩ = some (u334001)) (ds := [8]) #[false, false, false, false, false, false, false, false, false] (by kernel_rfl) rfl rfl ⟨(bC BK333.out 0).trans rfl, (bC BK333.out 1).trans rfl⟩ (fun hHeld => ?_); refine with_tabW spec_l2Told.tab5 spec_l2Told.bits5 (fun HT_ HW_ => ?_)
       generalize wr.drew = w18 at HO_334000 HO_334001 BK326 BK333 HB hHeld ⊢
       refine pure_ (i := 0) (N := some 16) (v := ?_) (a' := ?_) #[true, false, false, false, false, false, false, false, false] rfl rfl (any_of HT_.out (by kernel_rfl)) (fun _ _ _ h => h) (Or.inl ⟨by rfl, ?_⟩) ?_ ?_
       rotate_left
       ·
        intro w'
        go_simp
        with_reducible rfl
       rotate_left
       ·
        simp only [Act.put, sA, sZ, sU, i64_w, i32_w]
        rfl
       refine pure_ (i := 2) (N := some 18) (v := ?_) (a' := ?_) #[true, false, true, false, false, false, false, false, false] rfl rfl (any_of HT_.out (by kernel_rfl)) (fun _ _ _ h => h) (Or.inl ⟨by rfl, ?_⟩) ?_ ?_
       rotate_left
       ·
        intro w'
        go_simp
        with_reducible rfl
       rotate_left
       ·
        simp only [Act.put, sA, sZ, sU, i64_w, i32_w]
        rfl
       refine pure_ (i := 3) (N := some 19) (v := ?_) (a' := ?_) #[true, false, true, true, false, false, false, false, false] rfl rfl (any_of HT_.out (by kernel_rfl)) (fun _ _ _ h => h) (Or.inl ⟨by rfl, ?_⟩) ?_ ?_
       rotate_left
       ·
        intro w'
        go_simp
        with_reducible rfl
       rotate_left
       ·
        simp only [Act.put, sA, sZ, sU, i64_w, i32_w]
        rfl
       refine take_ (i := 1) (N := some 17) (v := ?_) (a' := ?_) #[true, true, true, true, false, false, false, false, false] rfl rfl (take_ofW HT_.out HW_.out (by kernel_rfl)) (fun _ _ _ h => h) (Or.inl ⟨by rfl, ?_⟩) hHeld ?_ ?_
       rotate_left
       ·
        rintro w' ⟨s0, s1⟩
        first | (go_simp; with_reducible rfl) | (simp only [add_plain] at s0 s1; go_simp; with_reducible rfl)
       rotate_left
       ·
        simp only [Act.put, sA, sZ, sU, i64_w, i32_w]
        rfl
       refine one_ (i := 4) (N := some 20) #[true, true, true, true, true, false, false, false, false] rfl rfl (one_of HT_.out (by kernel_rfl)) (by decide) (fun K hK => ?_)
       refine goes_ Try.func65 (by kernel_rfl) rfl #[.int .i64 a0, .int .i64 x6_1] (by rfl) rfl rfl xL ?_
       with_reducible refine (spec_l2BitPoint.calls k1 a0 x6_1 t334 _ A14.out).mono ?_
       rintro e w19 ⟨v335, rfl, ho0, hb⟩
       refine ⟨_, rfl, ?_⟩
       have n0_ := aM (Kd.S_elder' (xS HO_334000.out) (Kd.R_base ho0) hb)
       have n1_ := aM (Kd.R_elder' (xR HO_334001.out) (Kd.R_base ho0) hb)
       have n2_ := aM (Kd.R_lower (Kd.R_new' ho0 (Kd.R_lt (xR HO_334001.out))) (below_size (xG2 HB.out GE326.out GE333.out)))
       have n3_ := aM (bB (g := gb326) (o := .cells #[.slice none 0 0, .slice none 0 0] 36 (0, 0)) (xB BK326.out) hb)
       have n4_ := aM (bB (g := gb333) (o := .cells #[u334000, u334001] 36 (0, 0)) (xB BK333.out) hb)
       have n5_ := aM (below_step (xG2 HB.out GE326.out GE333.out) hb)
       clear HO_334000 HO_334001 BK326 BK333 HB
       have HO_334000 := n0_
       have HO_334001 := n1_
       have HO336 := n2_
       have BK326 := n3_
       have BK333 := n4_
       have HB := n5_
       clear n0_ n1_ n2_ n3_ n4_ n5_
       (try clear hb)
       (try clear hb2)
       (try clear hk)
       (try clear hi)
       (try clear ho0)
       obtain ⟨Ao21, co21, eo21⟩ := Kd.R_slice HO336.out
       (first | subst eo21 | (injection eo21 with f1_ f2_ f3_; have f4_ := f1_.symm; have f5_ := f3_.symm; clear f1_ f2_ f3_; subst f4_; subst f5_))
       refine hK.out _ _ ⟨(bC BK333.out 0).trans rfl, (bC BK333.out 1).trans rfl⟩ (fun hHeld => ?_)
       clear hK K
       refine norm_ (a' := ?_) ?_ ?_
       rotate_left
       ·
        show Act.put _ (some 20) _ = _
        simp only [Act.put, sA, sZ, sU, i64_w, i32_w]
        rfl
       refine one_ (i := 5) (N := some 21) #[true, true, true, true, true, true, false, false, false] rfl rfl (one_of HT_.out (by kernel_rfl)) (by decide) (fun K hK => ?_)
       refine value_ (w1 := ?_) (v := ?_) (by rfl) rfl ?_ ?_
       rotate_left 2
       ·
        go_simp
        constructor
        ·
         rfl
        ·
         rfl
       refine hK.out _ _ ⟨(bC (bA BK333.out _) 0).trans rfl, (bC (bA BK333.out _) 1).trans rfl⟩ (fun hHeld => ?_)
       clear hK K
       refine norm_ (a' := ?_) ?_ ?_
       rotate_left
       ·
        show Act.put _ (some 21) _ = _
        simp only [Act.put, sA, sZ, sU, i64_w, i32_w]
        rfl
       refine one_ (i := 6) (N := some 22) #[true, true, true, true, true, true, true, false, false] rfl rfl (one_of HT_.out (by kernel_rfl)) (by decide) (fun K hK => ?_)
       refine Kd.S_append_step (Kd.slice 3 (Kd.int .i64)) (w0 := w) w.heap.size (by rfl) (.tmp 17) (.tmp 21) 34 24 (.slice none 0 0) 24 rfl Try.underlying34 info24 rfl (by decide) (by omega) u334000 x334000_1 t334 [.slice Ao21 t334.length co21] (fun k_ => some k_ ≠ (u334001 : Value).ownBlock) (fun k_ => some k_ = (.slice Ao21 t334.length co21 : Value).ownBlock) rfl rfl ?aP (fun k_ hk_ => ((rM (ok' := fun k_ => ((fun k_ => some k_ ≠ (u334001 : Value).ownBlock)) k_ ∧ some k_ ≠ (u334000 : Value).ownBlock) (Kd.R_apart' (HO336.out) (Kd.S_typed HO_334000.out) (by decide)) (fun k_ hk => ⟨hk.1.2, hk.2⟩))).1 k_ hk_.symm) ?aF ?aO ?aB ?aS ?aL ?_
       (case aP => exact Kd.M_row (rM (Kd.R_tight rfl (rM (ok' := fun k_ => ((fun k_ => some k_ ≠ (u334001 : Value).ownBlock)) k_ ∧ some k_ ≠ (u334000 : Value).ownBlock) (Kd.R_apart' (HO336.out) (Kd.S_typed HO_334000.out) (by decide)) (fun k_ hk => ⟨hk.1.2, hk.2⟩))) (fun _ h_ => h_)))
       (case aB => exact (xG2 HB.out GE326.out GE333.out))
       (case aF => exact (fun k_ hk => Kd.fresh' (Kd.R_lt (xR HO_334001.out)) k_ hk))
       (case aO => exact (by (with_reducible repeat (first | apply Kd.S_alloc | apply Kd.S_drewN | apply Kd.S_drew)); exact Kd.S_mono HO_334000.out (fun k_ hk => ⟨hk.1, fun e_ => hk.2 e_⟩)))
       (case aS => exact (below_size (xG2 HB.out GE326.out GE333.out)))
       (case aL => have := LMc15.out; omega)
       intro v338 w20 ho hb hg hat
       rw [← Ny337.out] at ho
       have n0_ := aM (Kd.R_over' (xR HO_334001.out) (Kd.S_typed (xS HO_334000.out)) (by decide) hg)
       have n1_ := aM (blk_grown (g := gb326) (o := .cells #[.slice none 0 0, .slice none 0 0] 36 (0, 0)) (xB BK326.out) hg (Kd.S_ne HO_334000.out BK326.out (by decide)))
       have n2_ := aM (blk_grown (g := gb333) (o := .cells #[u334000, u334001] 36 (0, 0)) (xB BK333.out) hg (Kd.S_ne HO_334000.out BK333.out (by decide)))
       have n3_ := aM (hb)
       have n4_ := aM (ho)
       clear HO_334001 BK326 BK333 HB HO_334000 HO336
       have HO_334001 := n0_
       have BK326 := n1_
       have BK333 := n2_
       have HB := n3_
       have HO339 := n4_
       clear n0_ n1_ n2_ n3_ n4_ ho hb hg hat
       obtain ⟨Ao22, co22, eo22⟩ := Kd.S_slice HO339.out
       (first | subst eo22 | (injection eo22 with f1_ f2_ f3_; have f4_ := f1_.symm; have f5_ := f3_.symm; clear f1_ f2_ f3_; subst f4_; subst f5_))
       refine hK.out _ _ ⟨(bC BK333.out 0).trans rfl, (bC BK333.out 1).trans rfl⟩ (fun hHeld => ?_)
       clear hK K
       refine norm_ (a' := ?_) ?_ ?_
       rotate_left
       ·
        show Act.put _ (some 22) _ = _
        simp only [Act.put, sA, sZ, sU, i64_w, i32_w]
        rfl
       refine pure_ (i := 7) (N := some 23) (v := ?_) (a' := ?_) #[true, true, true, true, true, true, true, true, false] rfl rfl (any_of HT_.out (by kernel_rfl)) (fun _ _ _ h => h) (Or.inl ⟨by rfl, ?_⟩) ?_ ?_
       rotate_left
       ·
        intro w'
        go_simp
        with_reducible rfl
       rotate_left
       ·
        simp only [Act.put, sA, sZ, sU, i64_w, i32_w]
        rfl
       refine last_ (i := 8) (N := none) #[true, true, true, true, true, true, true, true, true] rfl rfl (one_of HT_.out (by kernel_rfl)) (by decide) (fun K hK => ?_)
       have hs23 : w20.cell? ⟨gb333, 0, none⟩ = some (u334000) := (bC BK333.out 0).trans rfl
       have hfs23 := bF BK333.out 0
       have hns23_0 := NB326_333.out
       have hms23_0 := NB333_326.out
       refine skip_ (w1 := ?_) (by rfl) rfl ?_ ?_
       rotate_left
       ·
        go_simp
        rfl
       refine hK.out _ _ ?_
       clear hK K
       refine done_ (done_of HT_.out (by kernel_rfl)) ?_
       try go_wp2
       have n0_ : Aside0 (Kd.R (Kd.int .i64) 3 (w20.setCell ⟨gb333, 0, none⟩ (.slice Ao22 y337.length co22)) w.heap.size (fun _ => True) u334001 x334001_1) := ⟨by (with_reducible repeat (first | apply rA | apply rN | apply rD)); exact rM (Kd.R_far (p := ⟨gb333, 0, none⟩) (Kd.R_types HO_334001.out BK333.out (by decide)) (fun _ hk => hk.2) (.slice Ao22 y337.length co22)) (fun _ hk => trivial)⟩
       have n1_ : Aside0 (Kd.S (Kd.slice 3 (Kd.int .i64)) 24 (w20.setCell ⟨gb333, 0, none⟩ (.slice Ao22 y337.length co22)) w.heap.size (fun k_ => some k_ ≠ (u334001 : Value).ownBlock) (.slice Ao22 y337.length co22) y337) := ⟨by (with_reducible repeat (first | apply Kd.S_alloc | apply Kd.S_drewN | apply Kd.S_drew)); exact Kd.S_mono (Kd.S_far (p := ⟨gb333, 0, none⟩) (Kd.S_types HO339.out BK333.out (by decide)) (fun _ hk => hk.2) (.slice Ao22 y337.length co22)) (fun _ hk => hk.1)⟩
       have n2_ : Aside0 ((w20.setCell ⟨gb333, 0, none⟩ (.slice Ao22 y337.length co22)).heap[gb326]? = some (.cells #[.slice none 0 0, .slice none 0 0] 36 (0, 0))) := ⟨by (with_reducible repeat (first | refine bN ?_ _ | refine bD ?_ | refine bA ?_ _)); refine blk_far ?_ NB326_333.out _; (with_reducible repeat (first | refine bN ?_ _ | refine bD ?_ | refine bA ?_ _)); exact BK326.out⟩
       have n3_ : Aside0 ((w20.setCell ⟨gb333, 0, none⟩ (.slice Ao22 y337.length co22)).heap[gb333]? = some (.cells #[.slice Ao22 y337.length co22, u334001] 36 (0, 0))) := ⟨by (with_reducible repeat (first | refine bN ?_ _ | refine bD ?_ | refine bA ?_ _)); refine blk_put (cs := #[u334000, u334001]) ?_ 0 _ rfl; (with_reducible repeat (first | refine bN ?_ _ | refine bD ?_ | refine bA ?_ _)); exact BK333.out⟩
       have n4_ : Aside0 (Below w.heap.size w (w20.setCell ⟨gb333, 0, none⟩ (.slice Ao22 y337.length co22))) := ⟨xG2 HB.out GE326.out GE333.out⟩
       (try clear HO_334001)
       (try clear HO339)
       (try clear BK326)
       (try clear BK333)
       (try clear HB)
       generalize (w20.setCell ⟨gb333, 0, none⟩ (.slice Ao22 y337.length co22)) = w24 at n0_ n1_ n2_ n3_ n4_ ⊢
       have HO_334001 := n0_
       have HO339 := n1_
       have BK326 := n2_
       have BK333 := n3_
       have HB := n4_
       clear n0_ n1_ n2_ n3_ n4_
       have n0_ := aM (rD HO_334001.out)
       have n1_ := aM (Kd.S_drew HO339.out)
       have n2_ := aM (bD BK326.out)
       have n3_ := aM (bD BK333.out)
       have n4_ := aM (eD HB.out)
       clear HO_334001 HO339 BK326 BK333 HB
       have HO_334001 := n0_
       have HO339 := n1_
       have BK326 := n2_
       have BK333 := n3_
       have HB := n4_
       clear n0_ n1_ n2_ n3_ n4_
       have p340 : 0 ≤ (x6_1 : Int) := of_decide_eq_true (by first | (with_reducible assumption) | assumption)
       have q340 : x6_1 < (l1.length : Int) := of_decide_eq_true (by first | (with_reducible assumption) | assumption)
       obtain ⟨ad340, e340, hx340_0⟩ := Kd.at_int HR1.out x6_1 p340 q340
       have hw340_0 := hx340_0
       cases e340
       replace hx340_0 := (HB.out.cell (World.block_lt_of_cell? w _ hx340_0)).trans hx340_0
       replace p340 := eq_true p340
       replace q340 := eq_true q340
       refine start_ (n := 12) (S := fun w' => w'.cell? ⟨gb333, 0, none⟩ = some (.slice Ao22 y337.length co22) ∧ w'.cell? ⟨gb333, 1, none⟩ = some (u334001) ∧ w'.cell? (ad340.add (x6_1).toNat) = some (.int .i64 (rd l1 x6_1))) (ds := [11]) #[false, false, false, false, false, false, false, false, false, false, false, false] (by kernel_rfl) rfl rfl ⟨(bC BK333.out 0).trans rfl, (bC BK333.out 1).trans rfl, ((HB.out.cell (World.block_lt_of_cell? w _ hw340_0)).trans hw340_0)⟩ (fun hHeld => ?_); refine with_tabW spec_l2Told.tab6 spec_l2Told.bits6 (fun HT_ HW_ => ?_)
       generalize w24.drew = w25 at HO_334001 HO339 BK326 BK333 HB hx340_0 hHeld ⊢
       refine pure_ (i := 0) (N := some 24) (v := ?_) (a' := ?_) #[true, false, false, false, false, false, false, false, false, false, false, false] rfl rfl (any_of HT_.out (by kernel_rfl)) (fun _ _ _ h => h) (Or.inl ⟨by rfl, ?_⟩) ?_ ?_
       rotate_left
       ·
        intro w'
        go_simp
        with_reducible rfl
       rotate_left
       ·
        simp only [Act.put, sA, sZ, sU, i64_w, i32_w]
        rfl
       refine pure_ (i := 2) (N := some 26) (v := ?_) (a' := ?_) #[true, false, true, false, false, false, false, false, false, false, false, false] rfl rfl (any_of HT_.out (by kernel_rfl)) (fun _ _ _ h => h) (Or.inl ⟨by rfl, ?_⟩) ?_ ?_
       rotate_left
       ·
        intro w'
        go_simp
        with_reducible rfl
       rotate_left
       ·
        simp only [Act.put, sA, sZ, sU, i64_w, i32_w]
        rfl
       refine pure_ (i := 3) (N := some 27) (v := ?_) (a' := ?_) #[true, false, true, true, false, false, false, false, false, false, false, false] rfl rfl (any_of HT_.out (by kernel_rfl)) (fun _ _ _ h => h) (Or.inl ⟨by rfl, ?_⟩) ?_ ?_
       rotate_left
       ·
        intro w'
        go_simp
        with_reducible rfl
       rotate_left
       ·
        simp only [Act.put, sA, sZ, sU, i64_w, i32_w]
        rfl
       refine pure_ (i := 4) (N := some 28) (v := ?_) (a' := ?_) #[true, false, true, true, true, false, false, false, false, false, false, false] rfl rfl (any_of HT_.out (by kernel_rfl)) (fun _ _ _ h => h) (Or.inl ⟨by rfl, ?_⟩) ?_ ?_
       rotate_left
       ·
        intro w'
        go_simp
        with_reducible rfl
       rotate_left
       ·
        simp only [Act.put, sA, sZ, sU, i64_w, i32_w]
        rfl
       refine take_ (i := 1) (N := some 25) (v := ?_) (a' := ?_) #[true, true, true, true, true, false, false, false, false, false, false, false] rfl rfl (take_ofW HT_.out HW_.out (by kernel_rfl)) (fun _ _ _ h => h) (Or.inl ⟨by rfl, ?_⟩) hHeld ?_ ?_
       rotate_left
       ·
        rintro w' ⟨s0, s1, s2⟩
        first | (go_simp; with_reducible rfl) | (simp only [add_plain] at s0 s1 s2; go_simp; with_reducible rfl)
       rotate_left
       ·
        simp only [Act.put, sA, sZ, sU, i64_w, i32_w]
        rfl
       refine take_ (i := 5) (N := some 29) (v := ?_) (a' := ?_) #[true, true, true, true, true, true, false, false, false, false, false, false] rfl rfl (take_ofW HT_.out HW_.out (by kernel_rfl)) (fun _ _ _ h => h) (Or.inl ⟨by rfl, ?_⟩) hHeld ?_ ?_
       rotate_left
       ·
        rintro w' ⟨s0, s1, s2⟩
        first | (go_simp; with_reducible rfl) | (simp only [add_plain] at s0 s1 s2; go_simp; with_reducible rfl)
       rotate_left
       ·
        simp only [Act.put, sA, sZ, sU, i64_w, i32_w]
        rfl
       refine pure_ (i := 6) (N := some 30) (v := ?_) (a' := ?_) #[true, true, true, true, true, true, true, false, false, false, false, false] rfl rfl (any_of HT_.out (by kernel_rfl)) (fun _ _ _ h => h) (Or.inl ⟨by rfl, ?_⟩) ?_ ?_
       rotate_left
       ·
        intro w'
        go_simp
        with_reducible rfl
       rotate_left
       ·
        simp only [Act.put, sA, sZ, sU, i64_w, i32_w]
        rfl
       refine pure_ (i := 7) (N := some 31) (v := ?_) (a' := ?_) #[true, true, true, true, true, true, true, true, false, false, false, false] rfl rfl (any_of HT_.out (by kernel_rfl)) (fun _ _ _ h => h) (Or.inl ⟨by rfl, ?_⟩) ?_ ?_
       rotate_left
       ·
        intro w'
        go_simp
        with_reducible rfl
       rotate_left
       ·
        simp only [Act.put, sA, sZ, sU, i64_w, i32_w]
        rfl
       refine one_ (i := 8) (N := some 32) #[true, true, true, true, true, true, true, true, true, false, false, false] rfl rfl (one_of HT_.out (by kernel_rfl)) (by decide) (fun K hK => ?_)
       refine value_ (w1 := ?_) (v := ?_) (by rfl) rfl ?_ ?_
       rotate_left 2
       ·
        go_simp
        constructor
        ·
         rfl
        ·
         rfl
       refine hK.out _ _ ⟨(bC (bA BK333.out _) 0).trans rfl, (bC (bA BK333.out _) 1).trans rfl, (World.cell?_alloc_lt _ _ _ (World.block_lt_of_cell? _ _ (((HB.out.cell (World.block_lt_of_cell? w _ hw340_0)).trans hw340_0)))).trans (((HB.out.cell (World.block_lt_of_cell? w _ hw340_0)).trans hw340_0))⟩ (fun hHeld => ?_)
       clear hK K
       refine norm_ (a' := ?_) ?_ ?_
       rotate_left
       ·
        show Act.put _ (some 32) _ = _
        simp only [Act.put, sA, sZ, sU, i64_w, i32_w]
        rfl
       refine one_ (i := 9) (N := some 33) #[true, true, true, true, true, true, true, true, true, true, false, false] rfl rfl (one_of HT_.out (by kernel_rfl)) (by decide) (fun K hK => ?_)
       refine Kd.R_append_step (Kd.int .i64) (w0 := w) w.heap.size (by rfl) (.tmp 25) (.tmp 32) 24 3 (.int .i64 0) 8 rfl Try.underlying24 info3 rfl (by decide) (by omega) u334001 x334001_1 (wrap64 ((wrap64 (2 * (rd l1 x6_1))) - 1)) [.int .i64 (wrap64 ((wrap64 (2 * (rd l1 x6_1))) - 1))] (fun _ => True) (fun _ => False) rfl rfl ?aP (fun _ hk => hk.elim) ?aF ?aO ?aB ?aS ?aL ?_
       (case aP => exact rfl)
       (case aB => exact (xG2 HB.out GE326.out GE333.out))
       (case aF => exact (fun _ _ => trivial))
       (case aO => exact (xR HO_334001.out))
       (case aS => exact (below_size (xG2 HB.out GE326.out GE333.out)))
       (case aL => have := LMc17.out; omega)
       intro v342 w26 ho hb hg hat
       rw [← Ny341.out] at ho
       have n0_ := aM (blk_grown (g := gb326) (o := .cells #[.slice none 0 0, .slice none 0 0] 36 (0, 0)) (xB BK326.out) hg (Kd.R_ne HO_334001.out BK326.out (by decide)))
       have n1_ := aM (blk_grown (g := gb333) (o := .cells #[.slice Ao22 y337.length co22, u334001] 36 (0, 0)) (xB BK333.out) hg (Kd.R_ne HO_334001.out BK333.out (by decide)))
       have n2_ := aM (Kd.S_after (ok := (fun _ => True)) (by (with_reducible repeat (first | apply Kd.S_alloc | apply Kd.S_drewN | apply Kd.S_drew)); exact Kd.S_mono HO339.out (fun _ hk => ⟨trivial, hk⟩)) hg hat)
       have n3_ := aM (hb)
       have n4_ := aM (ho)
       clear BK326 BK333 HO339 HB HO_334001
       have BK326 := n0_
       have BK333 := n1_
       have HO339 := n2_
       have HB := n3_
       have HO343 := n4_
       clear n0_ n1_ n2_ n3_ n4_ ho hb hg hat
       obtain ⟨Ao27, co27, eo27⟩ := Kd.R_slice HO343.out
       (first | subst eo27 | (injection eo27 with f1_ f2_ f3_; have f4_ := f1_.symm; have f5_ := f3_.symm; clear f1_ f2_ f3_; subst f4_; subst f5_))
       refine hK.out _ _ ⟨(bC BK333.out 0).trans rfl, (bC BK333.out 1).trans rfl, ((HB.out.cell (World.block_lt_of_cell? w _ hw340_0)).trans hw340_0)⟩ (fun hHeld => ?_)
       clear hK K
       refine norm_ (a' := ?_) ?_ ?_
       rotate_left
       ·
        show Act.put _ (some 33) _ = _
        simp only [Act.put, sA, sZ, sU, i64_w, i32_w]
        rfl
       refine pure_ (i := 10) (N := some 34) (v := ?_) (a' := ?_) #[true, true, true, true, true, true, true, true, true, true, true, false] rfl rfl (any_of HT_.out (by kernel_rfl)) (fun _ _ _ h => h) (Or.inl ⟨by rfl, ?_⟩) ?_ ?_
       rotate_left
       ·
        intro w'
        go_simp
        with_reducible rfl
       rotate_left
       ·
        simp only [Act.put, sA, sZ, sU, i64_w, i32_w]
        rfl
       refine last_ (i := 11) (N := none) #[true, true, true, true, true, true, true, true, true, true, true, true] rfl rfl (one_of HT_.out (by kernel_rfl)) (by decide) (fun K hK => ?_)
       have hs28 : w26.cell? ⟨gb333, 1, none⟩ = some (u334001) := (bC BK333.out 1).trans rfl
       have hfs28 := bF BK333.out 1
       have hns28_0 := NB326_333.out
       have hms28_0 := NB333_326.out
       refine skip_ (w1 := ?_) (by rfl) rfl ?_ ?_
       rotate_left
       ·
        go_simp
        rfl
       refine hK.out _ _ ?_
       clear hK K
       refine done_ (done_of HT_.out (by kernel_rfl)) ?_
       try go_wp2
       go_roundg k1
       case measure => have := HK1.out; omega
       case rel => exact ⟨(wrap64 (x6_1 + 1)), (y337), (y341), (.slice Ao22 y337.length co22), (.slice Ao27 y341.length co27), (by first | rfl | (simp; done) | (simp [*]; done)), H', ⟨by have := HK1.out; omega⟩, ⟨by (with_reducible repeat (first | apply Kd.S_alloc | apply Kd.S_drewN | apply Kd.S_drew)); exact Kd.S_mono (Kd.S_far (p := ⟨gb333, 1, none⟩) (Kd.S_types HO339.out BK333.out (by decide)) (fun _ hk => hk.2) (.slice Ao27 y341.length co27)) (fun _ hk => hk.1.2)⟩, ⟨by (with_reducible repeat (first | apply rA | apply rN | apply rD)); exact rM (Kd.R_far (p := ⟨gb333, 1, none⟩) (Kd.R_types HO343.out BK333.out (by decide)) (fun _ hk => hk.2) (.slice Ao27 y341.length co27)) (fun _ hk => trivial)⟩, ⟨by (with_reducible repeat (first | refine bN ?_ _ | refine bD ?_ | refine bA ?_ _)); refine blk_far ?_ NB326_333.out _; (with_reducible repeat (first | refine bN ?_ _ | refine bD ?_ | refine bA ?_ _)); exact BK326.out⟩, ⟨by (with_reducible repeat (first | refine bN ?_ _ | refine bD ?_ | refine bA ?_ _)); refine blk_put (cs := #[.slice Ao22 y337.length co22, u334001]) ?_ 1 _ rfl; (with_reducible repeat (first | refine bN ?_ _ | refine bD ?_ | refine bA ?_ _)); exact BK333.out⟩, ⟨xG2 HB.out GE326.out GE333.out⟩⟩
      ·
       rw [if_neg c17] at H
       exact absurd H (by simp)
     ·
      rw [if_neg c16] at H
      exact absurd H (by simp)
    ·
     rw [if_neg c15] at H
     exact absurd H (by simp)
   ·
    rw [if_neg c13] at H
    have c13b0 : decide (x6_1 < (l1.length : Int)) = false := decide_eq_false c13
    clear c13
    simp only [Option.some.injEq, Prod.mk.injEq] at H
    obtain ⟨rfl, rfl⟩ := H
    have hnb29 := NB333_326.out
    have hnc29 := NB326_333.out
    have hcz30_0 : wr.cell? ⟨gb333, 0, none⟩ = some (u334000) := (bC BK333.out 0).trans rfl
    have hcz30_1 : wr.cell? ⟨gb333, 1, none⟩ = some (u334001) := (bC BK333.out 1).trans rfl
    have hfz30_0 := bF BK333.out 0
    have hfz30_1 := bF BK333.out 1
    obtain ⟨Ao31, co31, eo31⟩ := Kd.S_slice HO_334000.out
    subst eo31
    have hcz32_0 : wr.cell? ⟨gb326, 0, none⟩ = some (.slice none 0 0) := (bC BK326.out 0).trans rfl
    have hcz32_1 : wr.cell? ⟨gb326, 1, none⟩ = some (.slice none 0 0) := (bC BK326.out 1).trans rfl
    have hfz32_0 := bF BK326.out 0
    have hfz32_1 := bF BK326.out 1
    obtain ⟨Ao33, co33, eo33⟩ := Kd.R_slice HO_334001.out
    subst eo33
    go_wp2
    refine bodyPost_ret (results_cell_row rfl _ _ gb326 36 #[.slice Ao31 x334000_1.length co31, .slice Ao33 x334001_1.length co33] (0, 0) _ rfl (by (with_reducible repeat (first | refine bN ?_ _ | refine bD ?_ | refine bA ?_ _)); refine blk_put (cs := #[.slice Ao31 x334000_1.length co31, .slice none 0 0]) ?_ 1 _ rfl; (with_reducible repeat (first | refine bN ?_ _ | refine bD ?_ | refine bA ?_ _)); refine blk_put (cs := #[.slice none 0 0, .slice none 0 0]) ?_ 0 _ rfl; (with_reducible repeat (first | refine bN ?_ _ | refine bD ?_ | refine bA ?_ _)); exact BK326.out) Try.underlying36 rfl (by kernel_rfl)) rfl ?_
    exact ⟨_, _, by first | rfl | (simp [errW_none, errW_some] <;> rfl) | (simp [*, errW_none, errW_some] <;> rfl), by (with_reducible repeat (first | apply Kd.S_alloc | apply Kd.S_drewN | apply Kd.S_drew)); exact Kd.S_mono (Kd.S_far (p := ⟨gb326, 1, none⟩) (Kd.S_far (p := ⟨gb326, 0, none⟩) (Kd.S_types HO_334000.out BK326.out (by decide)) (fun _ hk => hk.2) (.slice Ao31 x334000_1.length co31)) (fun _ hk => hk.2) (.slice Ao33 x334001_1.length co33)) (fun _ hk => hk.1), by (with_reducible repeat (first | apply rA | apply rN | apply rD)); exact rM (Kd.R_far (p := ⟨gb326, 1, none⟩) (Kd.R_far (p := ⟨gb326, 0, none⟩) (Kd.R_types HO_334001.out BK326.out (by decide)) (fun _ hk => hk.2) (.slice Ao31 x334000_1.length co31)) (fun _ hk => hk.2) (.slice Ao33 x334001_1.length co33)) (fun _ hk => trivial), xG2 HB.out GE326.out GE333.out⟩
def spec_TableSample.f (k : Nat) (a0 : Int) (l1 : List Int) : Option ((List (List Int)) × List Int × Bool) := if a0 < 1 then (some (([] : List (List Int)), ([] : List Int), false)) else ((spec_l2Table.f k a0 l1).bind fun t345 => (if t345 = true then ((spec_l2Told.f k a0 l1).bind fun bt346 => (some (bt346.1, bt346.2, true))) else (some (([] : List (List Int)), ([] : List Int), false))))
theorem spec_TableSample.mono : ∀ a0 a1 k, LeO (spec_TableSample.f k a0 a1) (spec_TableSample.f (k + 1) a0 a1) := by
 intro a0 a1 k
 unfold spec_TableSample.f
 repeat' first
   | (with_reducible exact spec_l2Table.mono _ _ _)
   | (with_reducible exact spec_l2Told.mono _ _ _)
   | (with_reducible exact LeO.refl _)
   | (with_reducible exact LeO.none _)
   | (with_reducible refine LeO.ite ?_ ?_)
   | (with_reducible refine LeO.bind ?_ (fun _ => ?_))
   | exact spec_l2Table.mono _ _ _
   | exact spec_l2Told.mono _ _ _
   | exact LeO.none _
   | refine LeO.ite ?_ ?_
   | refine LeO.bind ?_ (fun _ => ?_)
set_option maxHeartbeats 8000000 in
set_option maxRecDepth 100000 in
theorem spec_TableSample.calls (k : Nat) (a0 : Int) (A1 : Option Addr) (c1 : Nat) (l1 : List Int) (r1 : List (List Int)) (r2 : List Int) (r3 : Bool) (w : World) (hr1 : Kd.C (Kd.int .i64) w A1 l1.length l1) (hc1 : l1.length ≤ c1) (h : spec_TableSample.f k a0 l1 = some (r1, r2, r3)) :
  Calls Try.prog 14 #[.int .i64 a0, .slice A1 l1.length c1] w fun e w' => ∃ v0_ v1_ : Value, e = .returned (.tuple #[.agg #[v0_, v1_], .bool r3]) ∧ Kd.S (Kd.slice 3 (Kd.int .i64)) 24 w' w.heap.size (fun k_ => some k_ ≠ (v1_ : Value).ownBlock) v0_ r1 ∧ Kd.R (Kd.int .i64) 3 w' w.heap.size (fun _ => True) v1_ r2 ∧ Below w.heap.size w w' := by
 have hu36 := Try.underlying36
 have HR1 := aM hr1
 have HC1 := aM hc1
 clear hr1 hc1
 have HB := aM (Below.refl w.heap.size w)
 have H : (if a0 < 1 then (some (([] : List (List Int)), ([] : List Int), false)) else ((spec_l2Table.f k a0 l1).bind fun t345 => (if t345 = true then ((spec_l2Told.f k a0 l1).bind fun bt346 => (some (bt346.1, bt346.2, true))) else (some (([] : List (List Int)), ([] : List Int), false))))) = some (r1, r2, r3) := h
 clear h
 by_cases c3 : a0 < 1
 ·
  rw [if_pos c3] at H
  have c3b0 : decide (a0 < 1) = true := decide_eq_true c3
  clear c3
  simp only [Option.some.injEq, Prod.mk.injEq] at H
  obtain ⟨rfl, rfl, rfl⟩ := H
  go_enter Try.func14, Try.ntmps14
  go_wp2_with (first | ((with_reducible refine gate_dst (N := 4) rfl ?_); refine box_event ?hg (N := 4) ?hd (cs := #[.slice none 0 0, .slice none 0 0]) (t := 36) ?hr ?_; (case hd => rfl); (case hg => rfl); (case hr => first | (go_simp; done) | (go_simp; rfl)); intro gb344 hg w4 hbox hb; have BK344 := aM (hbox); have GW344 := aM ((by rw [hg]; exact (below_size (xH HB.out)) : w.heap.size ≤ gb344)); have GE344 := aM ((by rw [hg]; exact (below_size (xH HB.out)) : w.heap.size ≤ gb344)); replace HB := aM (below_step (xH HB.out) hb); clear hb hbox hg; have hcz5_0 : w4.cell? ⟨gb344, 0, none⟩ = some (.slice none 0 0) := (bC BK344.out 0).trans rfl; have hcz5_1 : w4.cell? ⟨gb344, 1, none⟩ = some (.slice none 0 0) := (bC BK344.out 1).trans rfl; have hfz5_0 := bF BK344.out 0; have hfz5_1 := bF BK344.out 1))
  refine bodyPost_ret (results_ct rfl _ _ gb344 36 #[.slice none 0 0, .slice none 0 0] (0, 0) _ rfl (by (with_reducible repeat (first | refine bN ?_ _ | refine bD ?_ | refine bA ?_ _)); refine blk_put (cs := #[.slice none 0 0, .slice none 0 0]) ?_ 1 _ rfl; (with_reducible repeat (first | refine bN ?_ _ | refine bD ?_ | refine bA ?_ _)); refine blk_put (cs := #[.slice none 0 0, .slice none 0 0]) ?_ 0 _ rfl; (with_reducible repeat (first | refine bN ?_ _ | refine bD ?_ | refine bA ?_ _)); exact BK344.out) Try.underlying36 rfl (by kernel_rfl)) rfl ?_
  exact ⟨_, _, by first | rfl | (simp [errW_none, errW_some] <;> rfl) | (simp [*, errW_none, errW_some] <;> rfl), by first | exact Kd.S_nil _ _ _ _ _ | exact Kd.N_nil _ _ _ _ _ | exact Kd.V_nil _ _ _ _ _ | exact Kd.Q_nil _ _ _ _ _ | exact Kd.R_nil _ _ _ _ _, by first | exact Kd.R_nil _ _ _ _ _ | exact Kd.N_nil _ _ _ _ _ | exact Kd.V_nil _ _ _ _ _ | exact Kd.Q_nil _ _ _ _ _ | exact Kd.S_nil _ _ _ _ _, xG1 HB.out GE344.out⟩
 ·
  rw [if_neg c3] at H
  have c3b0 : decide (a0 < 1) = false := decide_eq_false c3
  clear c3
  replace H := oB.mp H
  obtain ⟨t345, A60, H⟩ := H
  replace H : (if t345 = true then ((spec_l2Told.f k a0 l1).bind fun bt346 => (some (bt346.1, bt346.2, true))) else (some (([] : List (List Int)), ([] : List Int), false))) = some (r1, r2, r3) := H
  have A6 := aM A60
  clear A60
  by_cases c7 : t345 = true
  ·
   subst c7
   have H1 : ((spec_l2Told.f k a0 l1).bind fun bt346 => (some (bt346.1, bt346.2, true))) = some (r1, r2, r3) := by rw [if_pos rfl] at H; exact H
   clear H
   have H := H1
   clear H1
   replace H := oB.mp H
   obtain ⟨⟨t346, t349⟩, A80, H⟩ := H
   replace H : (some (t346, t349, true)) = some (r1, r2, r3) := H
   have A8 := aM A80
   clear A80
   simp only [Option.some.injEq, Prod.mk.injEq] at H
   obtain ⟨rfl, rfl, rfl⟩ := H
   go_enter Try.func14, Try.ntmps14
   go_wp2_with (first | ((with_reducible refine gate_dst (N := 4) rfl ?_); refine box_event ?hg (N := 4) ?hd (cs := #[.slice none 0 0, .slice none 0 0]) (t := 36) ?hr ?_; (case hd => rfl); (case hg => rfl); (case hr => first | (go_simp; done) | (go_simp; rfl)); intro gb344 hg w9 hbox hb; have BK344 := aM (hbox); have GW344 := aM ((by rw [hg]; exact (below_size (xH HB.out)) : w.heap.size ≤ gb344)); have GE344 := aM ((by rw [hg]; exact (below_size (xH HB.out)) : w.heap.size ≤ gb344)); replace HB := aM (below_step (xH HB.out) hb); clear hb hbox hg) | (go_at_call 61; (with_reducible refine (spec_l2Table.calls k a0 _ _ l1 true _ ?side1 ?side2 A6.out).mono ?_); (case side1 => repeat (first | exact (Kd.C_below HR1.out HB.out) | (with_reducible refine Kd.C_alloc ?_ _) | (with_reducible refine Kd.C_drewN ?_ _) | (with_reducible refine Kd.C_drew ?_))); (case side2 => exact HC1.out); rintro e w' ⟨rfl, ⟨nd, rfl⟩⟩; (try (rw [drewN_self w9]; generalize hq_ : World.drewN w9 _ = w9; have n0_ : Aside0 (w9.heap[gb344]? = some (.cells #[.slice none 0 0, .slice none 0 0] 36 (0, 0))) := ⟨by rw [← hq_]; exact (xB BK344.out)⟩; have n1_ : Aside0 (Below w.heap.size w w9) := ⟨by rw [← hq_]; exact (xG1 HB.out GE344.out)⟩; clear BK344 HB hq_; have BK344 := n0_; have HB := n1_; clear n0_ n1_)); (try (have hcy344_0 := (bC BK344.out 0).trans rfl)); (try (have hfy344_0 := bF BK344.out 0)); (try (have hcy344_1 := (bC BK344.out 1).trans rfl)); (try (have hfy344_1 := bF BK344.out 1))) | ((with_reducible refine gate_callee (f := 62) rfl ?_); refine goesL_ (some 17) rfl rfl Try.func62 (by kernel_rfl) rfl #[.int .i64 a0, .slice A1 l1.length c1] rfl xL ?_; (with_reducible refine (spec_l2Told.calls k a0 _ _ l1 t346 t349 _ ?side1 ?side2 A8.out).mono ?_); (case side1 => repeat (first | exact (Kd.C_below HR1.out HB.out) | (with_reducible refine Kd.C_alloc ?_ _) | (with_reducible refine Kd.C_drewN ?_ _) | (with_reducible refine Kd.C_drew ?_))); (case side2 => exact HC1.out); rintro e w10 ⟨v347, v350, rfl, ho0, ho1, hb⟩; refine ⟨_, rfl, ?_⟩; have HO348 := aM (Kd.S_lower ho0 (below_size (xG1 HB.out GE344.out))); have HO351 := aM (Kd.R_lower ho1 (below_size (xG1 HB.out GE344.out))); replace BK344 := aM (bB (g := gb344) (o := .cells #[.slice none 0 0, .slice none 0 0] 36 (0, 0)) (xB BK344.out) hb); replace HB := aM (below_step (xG1 HB.out GE344.out) hb); (try clear hb; try clear hb2; try clear hk; try clear hi; try clear ho0; try clear ho1); obtain ⟨Ao11, co11, eo11⟩ := Kd.S_slice HO348.out; subst eo11; have hcz12_0 : w10.cell? ⟨gb344, 0, none⟩ = some (.slice none 0 0) := (bC BK344.out 0).trans rfl; have hcz12_1 : w10.cell? ⟨gb344, 1, none⟩ = some (.slice none 0 0) := (bC BK344.out 1).trans rfl; have hfz12_0 := bF BK344.out 0; have hfz12_1 := bF BK344.out 1; obtain ⟨Ao13, co13, eo13⟩ := Kd.R_slice HO351.out; subst eo13))
   refine bodyPost_ret (results_ct rfl _ _ gb344 36 #[.slice Ao11 t346.length co11, .slice Ao13 t349.length co13] (0, 0) _ rfl (by (with_reducible repeat (first | refine bN ?_ _ | refine bD ?_ | refine bA ?_ _)); refine blk_put (cs := #[.slice Ao11 t346.length co11, .slice none 0 0]) ?_ 1 _ rfl; (with_reducible repeat (first | refine bN ?_ _ | refine bD ?_ | refine bA ?_ _)); refine blk_put (cs := #[.slice none 0 0, .slice none 0 0]) ?_ 0 _ rfl; (with_reducible repeat (first | refine bN ?_ _ | refine bD ?_ | refine bA ?_ _)); exact BK344.out) Try.underlying36 rfl (by kernel_rfl)) rfl ?_
   exact ⟨_, _, by first | rfl | (simp [errW_none, errW_some] <;> rfl) | (simp [*, errW_none, errW_some] <;> rfl), by (with_reducible repeat (first | apply Kd.S_alloc | apply Kd.S_drewN | apply Kd.S_drew)); exact Kd.S_mono (Kd.S_far (p := ⟨gb344, 1, none⟩) (Kd.S_far (p := ⟨gb344, 0, none⟩) (Kd.S_types HO348.out BK344.out (by decide)) (fun _ hk => hk.2) (.slice Ao11 t346.length co11)) (fun _ hk => hk.2) (.slice Ao13 t349.length co13)) (fun _ hk => hk.1), by (with_reducible repeat (first | apply rA | apply rN | apply rD)); exact rM (Kd.R_far (p := ⟨gb344, 1, none⟩) (Kd.R_far (p := ⟨gb344, 0, none⟩) (Kd.R_types HO351.out BK344.out (by decide)) (fun _ hk => hk.2) (.slice Ao11 t346.length co11)) (fun _ hk => hk.2) (.slice Ao13 t349.length co13)) (fun _ hk => trivial), xG1 HB.out GE344.out⟩
  ·
   replace c7 := Bool.eq_false_iff.mpr c7
   subst c7
   have H1 : (some (([] : List (List Int)), ([] : List Int), false)) = some (r1, r2, r3) := by rw [if_neg (show ¬ (false = true) by decide)] at H; exact H
   clear H
   have H := H1
   clear H1
   simp only [Option.some.injEq, Prod.mk.injEq] at H
   obtain ⟨rfl, rfl, rfl⟩ := H
   go_enter Try.func14, Try.ntmps14
   go_wp2_with (first | ((with_reducible refine gate_dst (N := 4) rfl ?_); refine box_event ?hg (N := 4) ?hd (cs := #[.slice none 0 0, .slice none 0 0]) (t := 36) ?hr ?_; (case hd => rfl); (case hg => rfl); (case hr => first | (go_simp; done) | (go_simp; rfl)); intro gb344 hg w14 hbox hb; have BK344 := aM (hbox); have GW344 := aM ((by rw [hg]; exact (below_size (xH HB.out)) : w.heap.size ≤ gb344)); have GE344 := aM ((by rw [hg]; exact (below_size (xH HB.out)) : w.heap.size ≤ gb344)); replace HB := aM (below_step (xH HB.out) hb); clear hb hbox hg) | (go_at_call 61; (with_reducible refine (spec_l2Table.calls k a0 _ _ l1 false _ ?side1 ?side2 A6.out).mono ?_); (case side1 => repeat (first | exact (Kd.C_below HR1.out HB.out) | (with_reducible refine Kd.C_alloc ?_ _) | (with_reducible refine Kd.C_drewN ?_ _) | (with_reducible refine Kd.C_drew ?_))); (case side2 => exact HC1.out); rintro e w' ⟨rfl, ⟨nd, rfl⟩⟩; (try (rw [drewN_self w14]; generalize hq_ : World.drewN w14 _ = w14; have n0_ : Aside0 (w14.heap[gb344]? = some (.cells #[.slice none 0 0, .slice none 0 0] 36 (0, 0))) := ⟨by rw [← hq_]; exact (xB BK344.out)⟩; have n1_ : Aside0 (Below w.heap.size w w14) := ⟨by rw [← hq_]; exact (xG1 HB.out GE344.out)⟩; clear BK344 HB hq_; have BK344 := n0_; have HB := n1_; clear n0_ n1_)); have hcz15_0 : w14.cell? ⟨gb344, 0, none⟩ = some (.slice none 0 0) := (bC BK344.out 0).trans rfl; have hcz15_1 : w14.cell? ⟨gb344, 1, none⟩ = some (.slice none 0 0) := (bC BK344.out 1).trans rfl; have hfz15_0 := bF BK344.out 0; have hfz15_1 := bF BK344.out 1))
   refine bodyPost_ret (results_ct rfl _ _ gb344 36 #[.slice none 0 0, .slice none 0 0] (0, 0) _ rfl (by (with_reducible repeat (first | refine bN ?_ _ | refine bD ?_ | refine bA ?_ _)); refine blk_put (cs := #[.slice none 0 0, .slice none 0 0]) ?_ 1 _ rfl; (with_reducible repeat (first | refine bN ?_ _ | refine bD ?_ | refine bA ?_ _)); refine blk_put (cs := #[.slice none 0 0, .slice none 0 0]) ?_ 0 _ rfl; (with_reducible repeat (first | refine bN ?_ _ | refine bD ?_ | refine bA ?_ _)); exact BK344.out) Try.underlying36 rfl (by kernel_rfl)) rfl ?_
   exact ⟨_, _, by first | rfl | (simp [errW_none, errW_some] <;> rfl) | (simp [*, errW_none, errW_some] <;> rfl), by first | exact Kd.S_nil _ _ _ _ _ | exact Kd.N_nil _ _ _ _ _ | exact Kd.V_nil _ _ _ _ _ | exact Kd.Q_nil _ _ _ _ _ | exact Kd.R_nil _ _ _ _ _, by first | exact Kd.R_nil _ _ _ _ _ | exact Kd.N_nil _ _ _ _ _ | exact Kd.V_nil _ _ _ _ _ | exact Kd.Q_nil _ _ _ _ _ | exact Kd.S_nil _ _ _ _ _, xG1 HB.out GE344.out⟩
end Go.Proofs.Ytkgekmpnbhomgaa.PFnBits
