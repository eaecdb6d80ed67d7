-- Laid for this claim by a program of the session's own (wip/tool/myprint.py).
import Derived.Test.YtmfmgnpefjmieaaMFnThresholdTablesx3
namespace Go.Proofs.Ytmfmgnpefjmieaa.PFnThresholdTables
open Go.RowKit Go.Proofs.YtmfmgnpefjmieaaW.PrintWords Go.Proofs.YtmfmgnpefjmieaaW.PrintLast Go.Proofs.YtmfmgnpefjmieaaW.PrintMore
attribute [local go_sem] max2_int min2_int max_two min_two max_three min_three max_four min_four
set_option linter.unusedVariables false
set_option maxHeartbeats 8000000
set_option maxRecDepth 100000
set_option linter.unusedSimpArgs false
mutual
def spec_l2Table.j0 : Nat → List Int → Bool → Option (Bool)
  | 0, _, _ => none
  | k + 1, x1, x15 => if x15 = true then (some false) else (spec_l2Table.l0 k x1 0)
def spec_l2Table.l0 : Nat → List Int → Int → Option (Bool)
  | 0, _, _ => none
  | k + 1, x1, x5 => if x5 < (x1.length : Int) then (if 0 ≤ x5 then ((spec_l1In.f (rd x1 x5) 0 1).bind fun t294 => (if t294 = true then (spec_l2Table.l0 k x1 (wrap64 (x5 + 1))) else (some false))) else (none)) else (some true)
end
def spec_l2Table.f (k : Nat) (a0 : Int) (l1 : List Int) : Option (Bool) := (spec_l1In.f a0 0 4).bind fun t292 => (if t292 = true then (if 0 ≤ a0 then (spec_l2Table.j0 k l1 ((l1.length : Int) != (shl .i64 1 a0))) else (none)) else (spec_l2Table.j0 k l1 true))
theorem spec_l2Table.calls (k : Nat) (a0 : Int) (A1 : Option Addr) (c1 : Nat) (l1 : List Int) (r : Bool) (w : World) (hr1 : Kd.C (Kd.int .i64) w A1 l1.length l1) (hc1 : l1.length ≤ c1) (h : spec_l2Table.f k a0 l1 = some r) :
    Calls Try.prog 76 #[.int .i64 a0, .slice A1 l1.length c1] w fun e w' => e = .returned (.bool r) ∧ Drawn0 w w' := by
 have HR1 := aM hr1
 have HC1 := aM hc1
 clear hr1 hc1
 have H : ((spec_l1In.f a0 0 4).bind fun t292 => (if t292 = true then (if 0 ≤ a0 then (spec_l2Table.j0 k l1 ((l1.length : Int) != (shl .i64 1 a0))) else (none)) else (spec_l2Table.j0 k l1 true))) = some r := h
 clear h
 have HC3 := aM H
 clear H
 go_enter Try.func76, Try.ntmps76
 go_upto_region 1 with (fail)
 go_cut [15] (fun v15 wc => ∃ (kq : Nat) (x15_2 : Bool), v15 = .bool x15_2 ∧ Aside0 (spec_l2Table.j0 kq l1 x15_2 = some r) ∧ Aside0 (kq ≤ k) ∧ Drawn0 w wc)
 case first =>
  have H := HC3.out
  clear HC3
  replace H := oB.mp H
  obtain ⟨t292, A40, H⟩ := H
  have A4 := aM A40
  clear A40
  by_cases c5 : t292 = true
  rotate_left
  ·
   replace c5 := Bool.eq_false_iff.mpr c5
   subst c5
   rw [if_neg (show ¬ (false = true) by decide)] at H
   have H' := aM H
   clear H
   go_wp2_with (first | (refine yL 7 Try.func111 #[.int .i64 a0, .int .i64 0, .int .i64 4] ?_; (with_reducible refine (spec_l1In.calls a0 0 4 false _ A4.out).mono ?_); rintro e w' ⟨rfl, ⟨nd, rfl⟩⟩; refine ⟨_, rfl, ?_⟩))
   go_meet
   case rel => exact ⟨_, (true), yZ, H', ⟨yM⟩, yDn⟩
  subst c5
  rw [if_pos rfl] at H
  obtain ⟨c6, -, H⟩ | ⟨c6, -, H⟩ := yif H
  rotate_left
  · exact absurd H (by simp)
  have c6b0 := eq_true c6
  have c6b1 : decide (0 ≤ a0) = true := decide_eq_true c6
  clear c6
  obtain ⟨ji7, hji7⟩ := yJ ((shl .i64 1 a0))
  (first | rw [hji7] at H | simp only [hji7] at H)
  (try rw [hji7] at A4)
  have hji7_ : (IntKind.i64.wrap (1 * 2 ^ min a0.toNat 64)) = ji7 := hji7
  have hji7z : a0 ≤ 64 → (IntKind.i64.wrap (1 * 2 ^ a0.toNat)) = ji7 := shl_small hji7
  have hji7u : (IntKind.i64.wrap (2 ^ min a0.toNat 64)) = ji7 := by have h_ := hji7_; rw [Int.one_mul] at h_; exact h_
  have hji7v : a0 ≤ 64 → (IntKind.i64.wrap (2 ^ a0.toNat)) = ji7 := fun hle_ => by have h_ := hji7z hle_; rw [Int.one_mul] at h_; exact h_
  have hji7y : (wrap64 (1 * 2 ^ min a0.toNat 64)) = ji7 := (i64_w _).symm.trans hji7_
  have hji7x : a0 ≤ 64 → (wrap64 (1 * 2 ^ a0.toNat)) = ji7 := fun h_ => (i64_w _).symm.trans (hji7z h_)
  have H' := aM H
  clear H
  go_wp2_with (first | (refine yL 7 Try.func111 #[.int .i64 a0, .int .i64 0, .int .i64 4] ?_; (with_reducible refine (spec_l1In.calls a0 0 4 true _ A4.out).mono ?_); rintro e w' ⟨rfl, ⟨nd, rfl⟩⟩; refine ⟨_, rfl, ?_⟩))
  (try subst hji7)
  go_meet
  case rel => exact ⟨_, (((l1.length : Int) != ((shl .i64 1 a0)))), (by first | rfl | (simp; done) | (simp only [← hji7] <;> (first | rfl | simp)) | (simp [*]; done)), H', ⟨yM⟩, yDn⟩
 case rest =>
  clear HC3
  try clear c1
  try clear c5
  try clear c6
  try clear c6b0
  try clear c6b1
  try clear c7
  obtain ⟨kq, x15_2, rfl, HA, HJ2, ⟨mc2, rfl⟩⟩ := hcut
  cases kq with
  | zero => exact absurd HA.out (by simp [spec_l2Table.j0])
  | succ kj2 =>
   have H := HA.out
   clear HA
   simp only [spec_l2Table.j0] at H
   by_cases c8 : x15_2 = true
   ·
    subst c8
    rw [if_pos rfl] at H
    obtain rfl := Option.some.inj H
    go_wp2
    go_ret
    exact ⟨yZ, yDn⟩
   replace c8 := Bool.eq_false_iff.mpr c8
   subst c8
   rw [if_neg (show ¬ (false = true) by decide)] at H
   have H' := aM H
   clear H
   go_wp2
   go_loopg [5] kj2 (fun kq v5 w' => ∃ (x5_2 : Int), v5 = .int .i64 x5_2 ∧ Aside0 (spec_l2Table.l0 kq l1 x5_2 = some r) ∧ Aside0 (kq ≤ kj2) ∧ Drawn0 w w')
   case atStart => exact ⟨(0), yZ, H', ⟨Nat.le_refl _⟩, yDn⟩
   case round =>
    clear H'
    try clear c2
    try clear c8
    obtain ⟨x5_2, rfl, HA, HK2, ⟨m2, rfl⟩⟩ := hrel
    cases gk with
    | zero => exact absurd HA.out (by simp [spec_l2Table.l0])
    | succ k2 =>
     have H := HA.out
     clear HA
     simp only [spec_l2Table.l0] at H
     obtain ⟨-, c9b0, H⟩ | ⟨-, c9b0, H⟩ := yif H
     rotate_left
     ·
      obtain rfl := Option.some.inj H
      go_wp2
      go_ret
      exact ⟨yZ, yDn⟩
     obtain ⟨-, c10b0, H⟩ | ⟨c10, -, H⟩ := yif H
     rotate_left
     · exact absurd H (by simp)
     replace H := oB.mp H
     obtain ⟨t294, A110, H⟩ := H
     have A11 := aM A110
     clear A110
     by_cases c12 : t294 = true
     rotate_left
     ·
      replace c12 := Bool.eq_false_iff.mpr c12
      subst c12
      rw [if_neg (show ¬ (false = true) by decide)] at H
      obtain rfl := Option.some.inj H
      obtain ⟨ad293, e293, hx293_0, p293, q293⟩ := yi HR1.out x5_2
      cases e293
      go_wp2_with (first | (refine yL 26 Try.func111 #[.int .i64 (rd l1 x5_2), .int .i64 0, .int .i64 1] ?_; (with_reducible refine (spec_l1In.calls (rd l1 x5_2) 0 1 false _ A11.out).mono ?_); rintro e w' ⟨rfl, ⟨nd, rfl⟩⟩; refine ⟨_, rfl, ?_⟩))
      go_ret
      exact ⟨yZ, yDn⟩
     subst c12
     rw [if_pos rfl] at H
     have H' := aM H
     clear H
     obtain ⟨ad293, e293, hx293_0, p293, q293⟩ := yi HR1.out x5_2
     cases e293
     go_wp2_with (first | (refine yL 26 Try.func111 #[.int .i64 (rd l1 x5_2), .int .i64 0, .int .i64 1] ?_; (with_reducible refine (spec_l1In.calls (rd l1 x5_2) 0 1 true _ A11.out).mono ?_); rintro e w' ⟨rfl, ⟨nd, rfl⟩⟩; refine ⟨_, rfl, ?_⟩))
     go_roundg k2
     case measure => have := HJ2.out; have := HK2.out; omega
     case rel => exact ⟨(wrap64 (x5_2 + 1)), yZ, H', ⟨by have := HJ2.out; have := HK2.out; omega⟩, yDn⟩
def spec_l1Most.f (a0 : Int) (a1 : Int) : Option (Int) := if a0 > a1 then (some a0) else (some a1)
theorem spec_l1Most.calls (a0 : Int) (a1 : Int) (r : Int) (w : World) (h : spec_l1Most.f a0 a1 = some r) :
    Calls Try.prog 86 #[.int .i64 a0, .int .i64 a1] w fun e w' => e = .returned (.int .i64 r) ∧ Drawn0 w w' := by
 have H : (if a0 > a1 then (some a0) else (some a1)) = some r := h
 clear h
 obtain ⟨c3, -, H⟩ | ⟨c3, -, H⟩ := yif H
 ·
  have c3b0 : decide (a1 < a0) = true := decide_eq_true c3
  clear c3
  obtain rfl := Option.some.inj H
  go_enter Try.func86, Try.ntmps86
  go_wp2
  go_ret
  exact ⟨yZ, yDn⟩
 have c3b0 : decide (a1 < a0) = false := decide_eq_false c3
 clear c3
 obtain rfl := Option.some.inj H
 go_enter Try.func86, Try.ntmps86
 go_wp2
 go_ret
 exact ⟨yZ, yDn⟩
def spec_l5Size.l0 : Nat → List Int → Int → Int → Option (Int)
  | 0, _, _, _ => none
  | k + 1, x0, x3, x4 => if x4 < (x0.length : Int) then (if 0 ≤ x4 then ((spec_l1Most.f (rd x0 x4) (wrap64 (-(rd x0 x4)))).bind fun t297 => (spec_l5Size.l0 k x0 (wrap64 (x3 + t297)) (wrap64 (x4 + 1)))) else (none)) else (some x3)
def spec_l5Size.f (k : Nat) (l0 : List Int) : Option (Int) := spec_l5Size.l0 k l0 0 0
theorem spec_l5Size.calls (k : Nat) (A0 : Option Addr) (c0 : Nat) (l0 : List Int) (r : Int) (w : World) (hr0 : Kd.C (Kd.int .i64) w A0 l0.length l0) (hc0 : l0.length ≤ c0) (h : spec_l5Size.f k l0 = some r) :
    Calls Try.prog 80 #[.slice A0 l0.length c0] w fun e w' => e = .returned (.int .i64 r) ∧ Drawn0 w w' := by
 have HR0 := aM hr0
 have HC0 := aM hc0
 clear hr0 hc0
 have H : (spec_l5Size.l0 k l0 0 0) = some r := h
 clear h
 have H' := aM H
 clear H
 go_enter Try.func80, Try.ntmps80
 go_wp2
 repeat (go_quiet (fail); try go_wp2)
 go_loopg [3, 4] k (fun kq v3 v4 w' => ∃ (x3_1 : Int) (x4_1 : Int), v3 = .int .i64 x3_1 ∧ v4 = .int .i64 x4_1 ∧ Aside0 (spec_l5Size.l0 kq l0 x3_1 x4_1 = some r) ∧ Aside0 (kq ≤ k) ∧ Drawn0 w w')
 case atStart => exact ⟨(0), (0), yZ, yZ, H', ⟨Nat.le_refl _⟩, yDn⟩
 case round =>
  clear H'
  obtain ⟨x3_1, x4_1, rfl, rfl, HA, HK1, ⟨m1, rfl⟩⟩ := hrel
  cases gk with
  | zero => exact absurd HA.out (by simp [spec_l5Size.l0])
  | succ k1 =>
   have H := HA.out
   clear HA
   simp only [spec_l5Size.l0] at H
   obtain ⟨-, c2b0, H⟩ | ⟨-, c2b0, H⟩ := yif H
   rotate_left
   ·
    obtain rfl := Option.some.inj H
    go_wp2
    repeat (go_quiet (fail); try go_wp2)
    go_ret
    exact ⟨yZ, yDn⟩
   obtain ⟨-, c3b0, H⟩ | ⟨c3, -, H⟩ := yif H
   rotate_left
   · exact absurd H (by simp)
   replace H := oB.mp H
   obtain ⟨t297, A40, H⟩ := H
   have A4 := aM A40
   clear A40
   have H' := aM H
   clear H
   obtain ⟨ad295, e295, hx295_0, p295, q295⟩ := yi HR0.out x4_1
   cases e295
   obtain ⟨ad296, e296, hx296_0, p296, q296⟩ := yi HR0.out x4_1
   obtain rfl : ad295 = ad296 := (by injection e296)
   go_wp2_with (first | (go_at_call 86; (with_reducible refine (spec_l1Most.calls (rd l0 x4_1) (wrap64 (-(rd l0 x4_1))) t297 _ A4.out).mono ?_); rintro e w' ⟨rfl, ⟨nd, rfl⟩⟩; (try exact yDr)))
   repeat (go_quiet (first | (go_at_call 86; (with_reducible refine (spec_l1Most.calls (rd l0 x4_1) (wrap64 (-(rd l0 x4_1))) t297 _ A4.out).mono ?_); rintro e w' ⟨rfl, ⟨nd, rfl⟩⟩; (try exact yDr))); try go_wp2_with (first | (go_at_call 86; (with_reducible refine (spec_l1Most.calls (rd l0 x4_1) (wrap64 (-(rd l0 x4_1))) t297 _ A4.out).mono ?_); rintro e w' ⟨rfl, ⟨nd, rfl⟩⟩; (try exact yDr))))
   go_roundg k1
   case measure => have := HK1.out; omega
   case rel => exact ⟨(wrap64 (x3_1 + t297)), (wrap64 (x4_1 + 1)), yZ, yZ, H', ⟨by have := HK1.out; omega⟩, yDn⟩
def spec_l5Parts.l0 : Nat → Int → List Int → List Int → Int → Int → Int → Int → Int → Option (Int × Int × Bool)
  | 0, _, _, _, _, _, _, _, _ => none
  | k + 1, x0, x1, x2, x9, x10, x11, x12, x13 => if x13 < (x1.length : Int) then ((spec_l2BitPoint.f k x0 x13).bind fun t298 => ((spec_l2Dot.f k x2 t298).bind fun t301 => (if 0 ≤ x13 then (if (rd x1 x13) = 1 then (if x9 = 0 then (spec_l5Parts.l0 k x0 x1 x2 (wrap64 (x9 + 1)) x10 t301 x12 (wrap64 (x13 + 1))) else (if t301 < x11 then (spec_l5Parts.l0 k x0 x1 x2 (wrap64 (x9 + 1)) x10 t301 x12 (wrap64 (x13 + 1))) else (spec_l5Parts.l0 k x0 x1 x2 (wrap64 (x9 + 1)) x10 x11 x12 (wrap64 (x13 + 1))))) else (if x10 = 0 then (spec_l5Parts.l0 k x0 x1 x2 x9 (wrap64 (x10 + 1)) x11 t301 (wrap64 (x13 + 1))) else (if t301 > x12 then (spec_l5Parts.l0 k x0 x1 x2 x9 (wrap64 (x10 + 1)) x11 t301 (wrap64 (x13 + 1))) else (spec_l5Parts.l0 k x0 x1 x2 x9 (wrap64 (x10 + 1)) x11 x12 (wrap64 (x13 + 1)))))) else (none)))) else (if x9 = 0 then (some (x11, x12, true)) else (if x10 = 0 then (some (x11, x12, true)) else (some (x11, x12, decide (x11 > x12)))))
def spec_l5Parts.f (k : Nat) (a0 : Int) (l1 : List Int) (l2 : List Int) : Option (Int × Int × Bool) := spec_l5Parts.l0 k a0 l1 l2 0 0 0 0 0
theorem spec_l5Parts.calls (k : Nat) (a0 : Int) (A1 : Option Addr) (c1 : Nat) (l1 : List Int) (A2 : Option Addr) (c2 : Nat) (l2 : List Int) (r1 : Int) (r2 : Int) (r3 : Bool) (w : World) (hr1 : Kd.C (Kd.int .i64) w A1 l1.length l1) (hc1 : l1.length ≤ c1) (hr2 : Kd.C (Kd.int .i64) w A2 l2.length l2) (hc2 : l2.length ≤ c2) (h : spec_l5Parts.f k a0 l1 l2 = some (r1, r2, r3)) :
    Calls Try.prog 132 #[.int .i64 a0, .slice A1 l1.length c1, .slice A2 l2.length c2] w fun e w' => e = .returned (.tuple #[.int .i64 r1, .int .i64 r2, .bool r3]) ∧ Below w.heap.size w w' := by
 have HR1 := aM hr1
 have HC1 := aM hc1
 clear hr1 hc1
 have HR2 := aM hr2
 have HC2 := aM hc2
 clear hr2 hc2
 have HB := aM (Below.refl w.heap.size w)
 have H : (spec_l5Parts.l0 k a0 l1 l2 0 0 0 0 0) = some (r1, r2, r3) := h
 clear h
 have H' := aM H
 clear H
 go_enter Try.func132, Try.ntmps132
 go_wp2
 go_loopg [9, 10, 11, 12, 13] k (fun kq v9 v10 v11 v12 v13 w' => ∃ (x9_1 : Int) (x10_1 : Int) (x11_1 : Int) (x12_1 : Int) (x13_1 : Int), v9 = .int .i64 x9_1 ∧ v10 = .int .i64 x10_1 ∧ v11 = .int .i64 x11_1 ∧ v12 = .int .i64 x12_1 ∧ v13 = .int .i64 x13_1 ∧ Aside0 (spec_l5Parts.l0 kq a0 l1 l2 x9_1 x10_1 x11_1 x12_1 x13_1 = some (r1, r2, r3)) ∧ Aside0 (kq ≤ k) ∧ Aside0 (Below w.heap.size w w'))
 case atStart => exact ⟨(0), (0), (0), (0), (0), yZ, yZ, yZ, yZ, yZ, H', ⟨Nat.le_refl _⟩, ⟨xH HB.out⟩⟩
 case round =>
  clear H'
  try clear c1
  try clear c2
  obtain ⟨x9_1, x10_1, x11_1, x12_1, x13_1, rfl, rfl, rfl, rfl, rfl, HA, HK1, HB⟩ := hrel
  cases gk with
  | zero => exact absurd HA.out (by simp [spec_l5Parts.l0])
  | succ k1 =>
   have H := HA.out
   clear HA
   simp only [spec_l5Parts.l0] at H
   obtain ⟨-, c4b0, H⟩ | ⟨-, c4b0, H⟩ := yif H
   rotate_left
   ·
    obtain ⟨c25, -, H⟩ | ⟨c25, -, H⟩ := yif H
    ·
     have c25b0 : (x9_1 == 0) = true := beq_iff_eq.mpr c25
     have c25b1 : (x9_1 != 0) = false := bne_eq_false_iff_eq.mpr c25
     clear c25
     simp only [Option.some.injEq, Prod.mk.injEq] at H
     obtain ⟨rfl, rfl, rfl⟩ := H
     go_wp2
     go_ret3
     exact ⟨yF, xH HB.out⟩
    have c25b0 : (x9_1 == 0) = false := beq_eq_false_iff_ne.mpr c25
    have c25b1 : (x9_1 != 0) = true := bne_iff_ne.mpr c25
    obtain ⟨c26, -, H⟩ | ⟨c26, -, H⟩ := yif H
    rotate_left
    ·
     have c26b0 : (x10_1 == 0) = false := beq_eq_false_iff_ne.mpr c26
     have c26b1 : (x10_1 != 0) = true := bne_iff_ne.mpr c26
     simp only [Option.some.injEq, Prod.mk.injEq] at H
     obtain ⟨rfl, rfl, rfl⟩ := H
     go_wp2
     go_ret3
     exact ⟨yF, xH HB.out⟩
    have c26b0 : (x10_1 == 0) = true := beq_iff_eq.mpr c26
    have c26b1 : (x10_1 != 0) = false := bne_eq_false_iff_eq.mpr c26
    clear c26
    simp only [Option.some.injEq, Prod.mk.injEq] at H
    obtain ⟨rfl, rfl, rfl⟩ := H
    go_wp2
    go_ret3
    exact ⟨yF, xH HB.out⟩
   replace H := oB.mp H
   obtain ⟨t298, A50, H⟩ := H
   have A5 := aM A50
   clear A50
   replace H := oB.mp H
   obtain ⟨t301, A60, H⟩ := H
   have A6 := aM A60
   clear A60
   obtain ⟨-, c7b0, H⟩ | ⟨c7, -, H⟩ := yif H
   rotate_left
   · exact absurd H (by simp)
   obtain ⟨c8, -, H⟩ | ⟨c8, -, H⟩ := yif H
   ·
    have c8b0 : ((rd l1 x13_1) == 1) = true := beq_iff_eq.mpr c8
    have c8b1 : ((rd l1 x13_1) != 1) = false := bne_eq_false_iff_eq.mpr c8
    clear c8
    obtain ⟨c9, -, H⟩ | ⟨c9, -, H⟩ := yif H
    ·
     have c9b0 : (x9_1 == 0) = true := beq_iff_eq.mpr c9
     have c9b1 : (x9_1 != 0) = false := bne_eq_false_iff_eq.mpr c9
     clear c9
     have H' := aM H
     clear H
     go_wp2_with (first | (refine yL 24 Try.func153 #[.int .i64 a0, .int .i64 x13_1] ?_; (with_reducible refine (spec_l2BitPoint.calls k1 a0 x13_1 t298 _ A5.out).mono ?_); rintro e w10 ⟨v299, rfl, ho0, hb⟩; refine ⟨_, rfl, ?_⟩; have HO300 := aM (Kd.R_lower ho0 (below_size (xH HB.out))); replace HB := yS0 HB hb; (try clear hb; try clear ho0); obtain ⟨Ao11, co11, eo11⟩ := Kd.R_slice HO300.out; subst eo11) | (refine yL 25 Try.func152 #[.slice A2 l2.length c2, .slice Ao11 t298.length co11] ?_; (with_reducible refine (spec_l2Dot.calls k1 _ _ l2 _ _ t298 t301 _ (xC (Kd.C_below HR2.out HB.out)) HC2.out (xC (Kd.R_reads' HO300.out).2.2) ((Kd.R_reads' HO300.out).2.1) A6.out).mono ?_); rintro e w' ⟨rfl, ⟨nd, rfl⟩⟩; refine ⟨_, rfl, ?_⟩; have p302 : 0 ≤ (x13_1 : Int) := yA; have q302 : x13_1 < (l1.length : Int) := yA; obtain ⟨ad302, e302, hx302_0⟩ := Kd.at_int HR1.out x13_1 p302 q302; cases e302; replace hx302_0 := yc HB hx302_0; replace p302 := eq_true p302; replace q302 := eq_true q302))
     go_roundg k1
     case measure => have := HK1.out; omega
     case rel => exact ⟨(wrap64 (x9_1 + 1)), (x10_1), (t301), (x12_1), (wrap64 (x13_1 + 1)), yZ, yZ, yZ, yZ, yZ, H', ⟨by have := HK1.out; omega⟩, ⟨xH HB.out⟩⟩
    have c9b0 : (x9_1 == 0) = false := beq_eq_false_iff_ne.mpr c9
    have c9b1 : (x9_1 != 0) = true := bne_iff_ne.mpr c9
    obtain ⟨-, c12b0, H⟩ | ⟨-, c12b0, H⟩ := yif H
    ·
     have H' := aM H
     clear H
     go_wp2_with (first | (refine yL 24 Try.func153 #[.int .i64 a0, .int .i64 x13_1] ?_; (with_reducible refine (spec_l2BitPoint.calls k1 a0 x13_1 t298 _ A5.out).mono ?_); rintro e w13 ⟨v299, rfl, ho0, hb⟩; refine ⟨_, rfl, ?_⟩; have HO300 := aM (Kd.R_lower ho0 (below_size (xH HB.out))); replace HB := yS0 HB hb; (try clear hb; try clear ho0); obtain ⟨Ao14, co14, eo14⟩ := Kd.R_slice HO300.out; subst eo14) | (refine yL 25 Try.func152 #[.slice A2 l2.length c2, .slice Ao14 t298.length co14] ?_; (with_reducible refine (spec_l2Dot.calls k1 _ _ l2 _ _ t298 t301 _ (xC (Kd.C_below HR2.out HB.out)) HC2.out (xC (Kd.R_reads' HO300.out).2.2) ((Kd.R_reads' HO300.out).2.1) A6.out).mono ?_); rintro e w' ⟨rfl, ⟨nd, rfl⟩⟩; refine ⟨_, rfl, ?_⟩; have p302 : 0 ≤ (x13_1 : Int) := yA; have q302 : x13_1 < (l1.length : Int) := yA; obtain ⟨ad302, e302, hx302_0⟩ := Kd.at_int HR1.out x13_1 p302 q302; cases e302; replace hx302_0 := yc HB hx302_0; replace p302 := eq_true p302; replace q302 := eq_true q302))
     go_roundg k1
     case measure => have := HK1.out; omega
     case rel => exact ⟨(wrap64 (x9_1 + 1)), (x10_1), (t301), (x12_1), (wrap64 (x13_1 + 1)), yZ, yZ, yZ, yZ, yZ, H', ⟨by have := HK1.out; omega⟩, ⟨xH HB.out⟩⟩
    have H' := aM H
    clear H
    go_wp2_with (first | (refine yL 24 Try.func153 #[.int .i64 a0, .int .i64 x13_1] ?_; (with_reducible refine (spec_l2BitPoint.calls k1 a0 x13_1 t298 _ A5.out).mono ?_); rintro e w15 ⟨v299, rfl, ho0, hb⟩; refine ⟨_, rfl, ?_⟩; have HO300 := aM (Kd.R_lower ho0 (below_size (xH HB.out))); replace HB := yS0 HB hb; (try clear hb; try clear ho0); obtain ⟨Ao16, co16, eo16⟩ := Kd.R_slice HO300.out; subst eo16) | (refine yL 25 Try.func152 #[.slice A2 l2.length c2, .slice Ao16 t298.length co16] ?_; (with_reducible refine (spec_l2Dot.calls k1 _ _ l2 _ _ t298 t301 _ (xC (Kd.C_below HR2.out HB.out)) HC2.out (xC (Kd.R_reads' HO300.out).2.2) ((Kd.R_reads' HO300.out).2.1) A6.out).mono ?_); rintro e w' ⟨rfl, ⟨nd, rfl⟩⟩; refine ⟨_, rfl, ?_⟩; have p302 : 0 ≤ (x13_1 : Int) := yA; have q302 : x13_1 < (l1.length : Int) := yA; obtain ⟨ad302, e302, hx302_0⟩ := Kd.at_int HR1.out x13_1 p302 q302; cases e302; replace hx302_0 := yc HB hx302_0; replace p302 := eq_true p302; replace q302 := eq_true q302))
    go_roundg k1
    case measure => have := HK1.out; omega
    case rel => exact ⟨(wrap64 (x9_1 + 1)), (x10_1), (x11_1), (x12_1), (wrap64 (x13_1 + 1)), yZ, yZ, yZ, yZ, yZ, H', ⟨by have := HK1.out; omega⟩, ⟨xH HB.out⟩⟩
   have c8b0 : ((rd l1 x13_1) == 1) = false := beq_eq_false_iff_ne.mpr c8
   have c8b1 : ((rd l1 x13_1) != 1) = true := bne_iff_ne.mpr c8
   obtain ⟨c17, -, H⟩ | ⟨c17, -, H⟩ := yif H
   ·
    have c17b0 : (x10_1 == 0) = true := beq_iff_eq.mpr c17
    have c17b1 : (x10_1 != 0) = false := bne_eq_false_iff_eq.mpr c17
    clear c17
    have H' := aM H
    clear H
    go_wp2_with (first | (refine yL 24 Try.func153 #[.int .i64 a0, .int .i64 x13_1] ?_; (with_reducible refine (spec_l2BitPoint.calls k1 a0 x13_1 t298 _ A5.out).mono ?_); rintro e w18 ⟨v299, rfl, ho0, hb⟩; refine ⟨_, rfl, ?_⟩; have HO300 := aM (Kd.R_lower ho0 (below_size (xH HB.out))); replace HB := yS0 HB hb; (try clear hb; try clear ho0); obtain ⟨Ao19, co19, eo19⟩ := Kd.R_slice HO300.out; subst eo19) | (refine yL 25 Try.func152 #[.slice A2 l2.length c2, .slice Ao19 t298.length co19] ?_; (with_reducible refine (spec_l2Dot.calls k1 _ _ l2 _ _ t298 t301 _ (xC (Kd.C_below HR2.out HB.out)) HC2.out (xC (Kd.R_reads' HO300.out).2.2) ((Kd.R_reads' HO300.out).2.1) A6.out).mono ?_); rintro e w' ⟨rfl, ⟨nd, rfl⟩⟩; refine ⟨_, rfl, ?_⟩; have p302 : 0 ≤ (x13_1 : Int) := yA; have q302 : x13_1 < (l1.length : Int) := yA; obtain ⟨ad302, e302, hx302_0⟩ := Kd.at_int HR1.out x13_1 p302 q302; cases e302; replace hx302_0 := yc HB hx302_0; replace p302 := eq_true p302; replace q302 := eq_true q302))
    go_roundg k1
    case measure => have := HK1.out; omega
    case rel => exact ⟨(x9_1), (wrap64 (x10_1 + 1)), (x11_1), (t301), (wrap64 (x13_1 + 1)), yZ, yZ, yZ, yZ, yZ, H', ⟨by have := HK1.out; omega⟩, ⟨xH HB.out⟩⟩
   have c17b0 : (x10_1 == 0) = false := beq_eq_false_iff_ne.mpr c17
   have c17b1 : (x10_1 != 0) = true := bne_iff_ne.mpr c17
   obtain ⟨c20, -, H⟩ | ⟨c20, -, H⟩ := yif H
   ·
    have c20b0 : decide (x12_1 < t301) = true := decide_eq_true c20
    clear c20
    have H' := aM H
    clear H
    go_wp2_with (first | (refine yL 24 Try.func153 #[.int .i64 a0, .int .i64 x13_1] ?_; (with_reducible refine (spec_l2BitPoint.calls k1 a0 x13_1 t298 _ A5.out).mono ?_); rintro e w21 ⟨v299, rfl, ho0, hb⟩; refine ⟨_, rfl, ?_⟩; have HO300 := aM (Kd.R_lower ho0 (below_size (xH HB.out))); replace HB := yS0 HB hb; (try clear hb; try clear ho0); obtain ⟨Ao22, co22, eo22⟩ := Kd.R_slice HO300.out; subst eo22) | (refine yL 25 Try.func152 #[.slice A2 l2.length c2, .slice Ao22 t298.length co22] ?_; (with_reducible refine (spec_l2Dot.calls k1 _ _ l2 _ _ t298 t301 _ (xC (Kd.C_below HR2.out HB.out)) HC2.out (xC (Kd.R_reads' HO300.out).2.2) ((Kd.R_reads' HO300.out).2.1) A6.out).mono ?_); rintro e w' ⟨rfl, ⟨nd, rfl⟩⟩; refine ⟨_, rfl, ?_⟩; have p302 : 0 ≤ (x13_1 : Int) := yA; have q302 : x13_1 < (l1.length : Int) := yA; obtain ⟨ad302, e302, hx302_0⟩ := Kd.at_int HR1.out x13_1 p302 q302; cases e302; replace hx302_0 := yc HB hx302_0; replace p302 := eq_true p302; replace q302 := eq_true q302))
    go_roundg k1
    case measure => have := HK1.out; omega
    case rel => exact ⟨(x9_1), (wrap64 (x10_1 + 1)), (x11_1), (t301), (wrap64 (x13_1 + 1)), yZ, yZ, yZ, yZ, yZ, H', ⟨by have := HK1.out; omega⟩, ⟨xH HB.out⟩⟩
   have c20b0 : decide (x12_1 < t301) = false := decide_eq_false c20
   clear c20
   have H' := aM H
   clear H
   go_wp2_with (first | (refine yL 24 Try.func153 #[.int .i64 a0, .int .i64 x13_1] ?_; (with_reducible refine (spec_l2BitPoint.calls k1 a0 x13_1 t298 _ A5.out).mono ?_); rintro e w23 ⟨v299, rfl, ho0, hb⟩; refine ⟨_, rfl, ?_⟩; have HO300 := aM (Kd.R_lower ho0 (below_size (xH HB.out))); replace HB := yS0 HB hb; (try clear hb; try clear ho0); obtain ⟨Ao24, co24, eo24⟩ := Kd.R_slice HO300.out; subst eo24) | (refine yL 25 Try.func152 #[.slice A2 l2.length c2, .slice Ao24 t298.length co24] ?_; (with_reducible refine (spec_l2Dot.calls k1 _ _ l2 _ _ t298 t301 _ (xC (Kd.C_below HR2.out HB.out)) HC2.out (xC (Kd.R_reads' HO300.out).2.2) ((Kd.R_reads' HO300.out).2.1) A6.out).mono ?_); rintro e w' ⟨rfl, ⟨nd, rfl⟩⟩; refine ⟨_, rfl, ?_⟩; have p302 : 0 ≤ (x13_1 : Int) := yA; have q302 : x13_1 < (l1.length : Int) := yA; obtain ⟨ad302, e302, hx302_0⟩ := Kd.at_int HR1.out x13_1 p302 q302; cases e302; replace hx302_0 := yc HB hx302_0; replace p302 := eq_true p302; replace q302 := eq_true q302))
   go_roundg k1
   case measure => have := HK1.out; omega
   case rel => exact ⟨(x9_1), (wrap64 (x10_1 + 1)), (x11_1), (x12_1), (wrap64 (x13_1 + 1)), yZ, yZ, yZ, yZ, yZ, H', ⟨by have := HK1.out; omega⟩, ⟨xH HB.out⟩⟩
def spec_l1Own.f (l0 : List Int) : Option (List Int) := (some (([] : List Int) : List Int)).bind fun y303 => (if y303.length + l0.length < 17592186044416 then (some (y303 ++ l0)) else (none))
theorem spec_l1Own.calls (A0 : Option Addr) (c0 : Nat) (l0 : List Int) (r : List Int) (w : World) (hr0 : Kd.C (Kd.int .i64) w A0 l0.length l0) (hc0 : l0.length ≤ c0) (h : spec_l1Own.f l0 = some r) :
    Calls Try.prog 104 #[.slice A0 l0.length c0] w fun e w' => ∃ v0_ : Value, e = .returned (v0_) ∧ Kd.R (Kd.int .i64) 3 w' w.heap.size (fun _ => True) v0_ r ∧ Below w.heap.size w w' := by
 have HR0 := aM hr0
 have HC0 := aM hc0
 clear hr0 hc0
 have HB := aM (Below.refl w.heap.size w)
 have H : ((some (([] : List Int) : List Int)).bind fun y303 => (if y303.length + l0.length < 17592186044416 then (some (y303 ++ l0)) else (none))) = some r := h
 clear h
 obtain ⟨y303, hy303⟩ := yE (([] : List Int) : List Int)
 replace H : (if y303.length + l0.length < 17592186044416 then (some (y303 ++ l0)) else (none)) = some r := yI hy303 H
 have Ny303 := aM hy303
 clear hy303
 obtain ⟨c2, -, H⟩ | ⟨c2, -, H⟩ := yif H
 rotate_left
 · exact absurd H (by simp)
 have LMc2 := aM c2
 clear c2
 obtain ⟨y306, hy306⟩ := yE (y303 ++ l0 : List Int)
 replace H : (some y306) = some r := yI hy306 H
 have Ny306 := aM hy306
 clear hy306
 obtain rfl := Option.some.inj H
 go_enter Try.func104, Try.ntmps104
 go_wp2_with (first | ((with_reducible refine gate_dst (N := 3) rfl ?_); refine Kd.R_lit (Kd.int .i64) _ 3 ?hg (N := 3) ?hd (xs := ([] : List Int)) (inner := []) (ok := fun _ => True) (okp := fun _ => True) ?hr ?hp (fun _ hk => hk) trivial (Below.refl _ _) (Nat.le_refl _) (by simp) ?_; (case hd => rfl); (case hg => rfl); (case hr => first | (go_simp; done) | (go_simp; rfl)); (case hp => exact (Reps.none _ _)); intro v304 w3 ho4 hb hg_ hnew_; clear hg_ hnew_; (first | rw [← Ny303.out] at ho4 | (simp only [Int.reduceToNat] at ho4; rw [← Ny303.out] at ho4)); have HO305 := aM (Kd.R_lower ho4 (below_size (xH HB.out))); replace HB := yS0 HB hb; clear hb ho4) | ((with_reducible refine gate_builtin (b := .append) (xs := #[.tmp 3, .tmp 4]) rfl ?_); at_builtin; refine Kd.R_append_rows (Kd.int .i64) (w0 := w) w.heap.size rfl (.tmp 3) (.tmp 4) 24 3 (.int .i64 0) 8 rfl Try.underlying24 info3 rfl (by decide) (by omega) v304 y303 l0 _ _ _ (fun _ => True) (fun _ => False) rfl rfl ?aO ?aR (fun _ _ h => h) (fun _ h => h.elim) ?aF ?aB ?aS ?aL ?_; (case aR => exact xC (Kd.C_below HR0.out HB.out)); (case aB => exact (xH HB.out)); (case aF => exact (fun _ _ => trivial)); (case aO => exact (xR HO305.out)); (case aS => exact (below_size (xH HB.out))); (case aL => have := LMc2.out; omega); intro v307 w5 ho hb hg hat; rw [← Ny306.out] at ho; replace HB := aM (hb); have HO308 := aM (ho); clear HO305; clear ho hb hg hat))
 go_ret
 exact ⟨_, yF, xR HO308.out, xH HB.out⟩
mutual
def spec_l5Weights.l0 : Nat → Int → List (List Int) → Int → Option ((List (List Int)))
  | 0, _, _, _ => none
  | k + 1, x0, x3, x4 => if x4 < x0 then (spec_l5Weights.l1 k x0 x3 x4 (([] : List (List Int))) 0) else (some x3)
def spec_l5Weights.l1 : Nat → Int → List (List Int) → Int → List (List Int) → Int → Option ((List (List Int)))
  | 0, _, _, _, _, _ => none
  | k + 1, x0, x3, x4, x5, x6 => if x6 < (x3.length : Int) then (spec_l5Weights.l2 k x0 x3 x4 x5 x6 (-3)) else (spec_l5Weights.l0 k x0 x5 (wrap64 (x4 + 1)))
def spec_l5Weights.l2 : Nat → Int → List (List Int) → Int → List (List Int) → Int → Int → Option ((List (List Int)))
  | 0, _, _, _, _, _, _ => none
  | k + 1, x0, x3, x4, x5, x6, x7 => if x7 ≤ 3 then (if 0 ≤ x6 then (if x6 < (x3.length : Int) then ((spec_l1Own.f (rd_L2 x3 x6)).bind fun t319 => (if t319.length < 17592186044416 then (if x5.length < 5864062014805 then (spec_l5Weights.l2 k x0 x3 x4 (x5 ++ [(t319 ++ [x7])]) x6 (wrap64 (x7 + 1))) else (none)) else (none))) else (none)) else (none)) else (spec_l5Weights.l1 k x0 x3 x4 x5 (wrap64 (x6 + 1)))
end
def spec_l5Weights.f (k : Nat) (a0 : Int) : Option ((List (List Int))) := spec_l5Weights.l0 k a0 (([(([] : List Int))] : List (List Int))) 0
theorem spec_l5Weights.calls (k : Nat) (a0 : Int) (r : List (List Int)) (w : World) (h : spec_l5Weights.f k a0 = some r) :
    Calls Try.prog 133 #[.int .i64 a0] w fun e w' => ∃ v0_ : Value, e = .returned (v0_) ∧ Kd.N (Kd.slice 3 (Kd.int .i64)) 24 w' w.heap.size (fun k_ => (w.heap.size ≤ k_)) v0_ r ∧ Below w.heap.size w w' := by
 have HB := aM (Below.refl w.heap.size w)
 have H : (spec_l5Weights.l0 k a0 (([(([] : List Int))] : List (List Int))) 0) = some r := h
 clear h
 obtain ⟨y309, hy309⟩ := yE (([] : List Int) : List Int)
 replace H : (spec_l5Weights.l0 k a0 (([y309] : List (List Int))) 0) = some r := yI hy309 H
 have Ny309 := aM hy309
 clear hy309
 obtain ⟨y312, hy312⟩ := yE (([y309] : List (List Int)) : List (List Int))
 replace H : (spec_l5Weights.l0 k a0 y312 0) = some r := yI hy312 H
 have Ny312 := aM hy312
 clear hy312
 have H' := aM H
 clear H
 go_enter Try.func133, Try.ntmps133
 go_wp2_with (first | ((with_reducible refine gate_dst (N := 8) rfl ?_); refine Kd.R_lit (Kd.int .i64) _ 3 ?hg (N := 8) ?hd (xs := ([] : List Int)) (inner := []) (ok := fun _ => True) (okp := fun _ => True) ?hr ?hp (fun _ hk => hk) trivial (Below.refl _ _) (Nat.le_refl _) (by simp) ?_; (case hd => rfl); (case hg => rfl); (case hr => first | (go_simp; done) | (go_simp; rfl)); (case hp => exact (Reps.none _ _)); intro v310 w2 ho3 hb hg_ hnew_; clear hg_ hnew_; (first | rw [← Ny309.out] at ho3 | (simp only [Int.reduceToNat] at ho3; rw [← Ny309.out] at ho3)); have HO311 := aM (Kd.R_lower (Kd.R_newM (M := fun k_ => (w.heap.size ≤ k_)) ho3 (below_size (xH HB.out)) (fun k_ h_ => h_)) (below_size (xH HB.out))); replace HB := yS0 HB hb; clear hb ho3; obtain ⟨Ao4, co4, eo4⟩ := Kd.R_slice HO311.out; subst eo4) | ((with_reducible refine gate_dst (N := 9) rfl ?_); refine Kd.N_lit (Kd.slice 3 (Kd.int .i64)) _ 24 ?hg (N' := 9) ?hd (xs := ([y309] : List (List Int))) (inner := [.slice Ao4 y309.length co4]) (ok := (fun k_ => (w.heap.size ≤ k_))) (okp := (fun k_ => (w.heap.size ≤ k_))) ?hr ?hp (fun _ hk => hk) ((show ∀ k_, w2.heap.size ≤ k_ → (fun k_ => (w.heap.size ≤ k_)) k_ from fun k_ hk => (Nat.le_trans (below_size (xH HB.out)) hk)) _ (Nat.le_refl _)) (Below.refl _ _) (Nat.le_refl _) (by simp) ?_; (case hd => rfl); (case hg => rfl); (case hr => first | (go_simp; done) | (go_simp; rfl)); (case hp => exact (Reps.one (show Kd.FK (Kd.slice 3 (Kd.int .i64)) _ _ y309 [.slice Ao4 y309.length co4] from (Kd.FK_slice_mk (Kd.R_reads' (rM (ok' := (fun k_ => (w.heap.size ≤ k_))) (HO311.out) (fun k_ hk => hk.1))).2.1 (Kd.R_F (rM (ok' := (fun k_ => (w.heap.size ≤ k_))) (HO311.out) (fun k_ hk => hk.1))))) (Reps.none _ _))); intro v313 w5 ho6 hb hg_ hnew_; clear hg_ hnew_; (first | rw [← Ny312.out] at ho6 | (simp only [Int.reduceToNat] at ho6; rw [← Ny312.out] at ho6)); have HO314 := aM (Kd.N_lower ho6 (below_size (xH HB.out))); replace HB := yS0 HB hb; clear HO311; clear hb ho6))
 go_loopg [3, 4] k (fun kq v3 v4 w' => ∃ (x3_1 : List (List Int)) (x4_1 : Int), v4 = .int .i64 x4_1 ∧ Aside0 (spec_l5Weights.l0 kq a0 x3_1 x4_1 = some r) ∧ Aside0 (kq ≤ k) ∧ Aside0 (Kd.N (Kd.slice 3 (Kd.int .i64)) 24 w' w.heap.size (fun k_ => (w.heap.size ≤ k_)) v3 x3_1) ∧ Aside0 (Below w.heap.size w w'))
 case atStart => exact ⟨(y312), (0), yZ, H', ⟨Nat.le_refl _⟩, ⟨xN HO314.out⟩, ⟨xH HB.out⟩⟩
 case round =>
  clear H'
  try clear c1
  obtain ⟨x3_1, x4_1, rfl, HA, HK1, HO_3, HB⟩ := hrel
  cases gk with
  | zero => exact absurd HA.out (by simp [spec_l5Weights.l0])
  | succ k1 =>
   have H := HA.out
   clear HA
   simp only [spec_l5Weights.l0] at H
   obtain ⟨c7, c7b0, H⟩ | ⟨-, c7b0, H⟩ := yif H
   rotate_left
   ·
    obtain rfl := Option.some.inj H
    go_wp2
    go_ret
    exact ⟨_, yF, xN HO_3.out, xH HB.out⟩
   clear c7
   obtain ⟨y315, hy315⟩ := yE (([] : List (List Int)) : List (List Int))
   replace H : (spec_l5Weights.l1 k1 a0 x3_1 x4_1 y315 0) = some r := yI hy315 H
   have Ny315 := aM hy315
   clear hy315
   have H' := aM H
   clear H
   go_wp2_with (first | ((with_reducible refine gate_dst (N := 15) rfl ?_); refine Kd.N_lit (Kd.slice 3 (Kd.int .i64)) _ 24 ?hg (N' := 15) ?hd (xs := ([] : List (List Int))) (inner := []) (ok := (fun k_ => (w.heap.size ≤ k_) ∧ some k_ ≠ (u3 : Value).ownBlock)) (okp := (fun k_ => (w.heap.size ≤ k_) ∧ some k_ ≠ (u3 : Value).ownBlock)) ?hr ?hp (fun _ hk => hk) ((show ∀ k_, wr.heap.size ≤ k_ → (fun k_ => (w.heap.size ≤ k_) ∧ some k_ ≠ (u3 : Value).ownBlock) k_ from fun k_ hk => ⟨(Nat.le_trans (below_size (xH HB.out)) hk), Kd.fresh' (Kd.N_lt (xN HO_3.out)) k_ hk⟩) _ (Nat.le_refl _)) (Below.refl _ _) (Nat.le_refl _) (by simp) ?_; (case hd => rfl); (case hg => rfl); (case hr => first | (go_simp; done) | (go_simp; rfl)); (case hp => exact (Reps.none _ _)); intro v316 w8 ho9 hb hg_ hnew_; clear hg_ hnew_; (first | rw [← Ny315.out] at ho9 | (simp only [Int.reduceToNat] at ho9; rw [← Ny315.out] at ho9)); replace HO_3 := aM (Kd.N_elder' (xN HO_3.out) (by first | exact Kd.N_base ho9 | exact Kd.S_base ho9 | exact Kd.R_base ho9) hb); have HO317 := aM (Kd.N_lower ho9 (below_size (xH HB.out))); replace HB := yS0 HB hb; clear hb ho9))
   go_loopg [5, 6] k1 (fun kq v5 v6 w' => ∃ (x5_2 : List (List Int)) (x6_2 : Int), v6 = .int .i64 x6_2 ∧ Aside0 (spec_l5Weights.l1 kq a0 x3_1 x4_1 x5_2 x6_2 = some r) ∧ Aside0 (kq ≤ k1) ∧ Aside0 (Kd.N (Kd.slice 3 (Kd.int .i64)) 24 w' w.heap.size (fun k_ => (w.heap.size ≤ k_) ∧ some k_ ≠ (v5 : Value).ownBlock) u3 x3_1) ∧ Aside0 (Kd.N (Kd.slice 3 (Kd.int .i64)) 24 w' w.heap.size (fun k_ => (w.heap.size ≤ k_) ∧ some k_ ≠ (u3 : Value).ownBlock) v5 x5_2) ∧ Aside0 (Below w.heap.size w w'))
   case atStart => exact ⟨(y315), (0), yZ, H', ⟨Nat.le_refl _⟩, ⟨xN HO_3.out⟩, ⟨xN HO317.out⟩, ⟨xH HB.out⟩⟩
   case round =>
    clear H'
    try clear c7
    try clear c7b0
    obtain ⟨x5_2, x6_2, rfl, HA, HK2, HO_3, HO_5, HB⟩ := hrel
    cases gk with
    | zero => exact absurd HA.out (by simp [spec_l5Weights.l1])
    | succ k2 =>
     have H := HA.out
     clear HA
     simp only [spec_l5Weights.l1] at H
     obtain ⟨c10, c10b0, H⟩ | ⟨-, c10b0, H⟩ := yif H
     rotate_left
     ·
      have H' := aM H
      clear H
      obtain ⟨Ao22, co22, eo22⟩ := Kd.N_slice HO_3.out
      subst eo22
      go_wp2
      go_roundg k2
      case measure => have := HK1.out; have := HK2.out; omega
      case rel => exact ⟨(x5_2), (wrap64 (x4_1 + 1)), yZ, H', ⟨by have := HK1.out; have := HK2.out; omega⟩, ⟨zN (Kd.N_mono HO_5.out (fun _ hk => hk.1))⟩, ⟨xH HB.out⟩⟩
     clear c10
     have H' := aM H
     clear H
     obtain ⟨Ao11, co11, eo11⟩ := Kd.N_slice HO_3.out
     subst eo11
     go_wp2
     go_loopg [5, 7] k2 (fun kq v5 v7 w' => ∃ (x5_3 : List (List Int)) (x7_3 : Int), v7 = .int .i64 x7_3 ∧ Aside0 (spec_l5Weights.l2 kq a0 x3_1 x4_1 x5_3 x6_2 x7_3 = some r) ∧ Aside0 (kq ≤ k2) ∧ Aside0 (Kd.N (Kd.slice 3 (Kd.int .i64)) 24 w' w.heap.size (fun k_ => (w.heap.size ≤ k_) ∧ some k_ ≠ (v5 : Value).ownBlock) (.slice Ao11 x3_1.length co11) x3_1) ∧ Aside0 (Kd.N (Kd.slice 3 (Kd.int .i64)) 24 w' w.heap.size (fun k_ => (w.heap.size ≤ k_) ∧ some k_ ≠ ((.slice Ao11 x3_1.length co11) : Value).ownBlock) v5 x5_3) ∧ Aside0 (Below w.heap.size w w'))
     case atStart => exact ⟨(x5_2), ((-3)), yZ, H', ⟨Nat.le_refl _⟩, ⟨xN HO_3.out⟩, ⟨xN HO_5.out⟩, ⟨xH HB.out⟩⟩
     case round =>
      clear H'
      try clear c10
      try clear c10b0
      obtain ⟨x5_3, x7_3, rfl, HA, HK3, HO_3, HO_5, HB⟩ := hrel
      cases gk with
      | zero => exact absurd HA.out (by simp [spec_l5Weights.l2])
      | succ k3 =>
       have H := HA.out
       clear HA
       simp only [spec_l5Weights.l2] at H
       obtain ⟨-, c12b0, H⟩ | ⟨-, c12b0, H⟩ := yif H
       rotate_left
       ·
        have H' := aM H
        clear H
        go_wp2
        go_roundg k3
        case measure => have := HK1.out; have := HK2.out; have := HK3.out; omega
        case rel => exact ⟨(x5_3), (wrap64 (x6_2 + 1)), yZ, H', ⟨by have := HK1.out; have := HK2.out; have := HK3.out; omega⟩, ⟨xN HO_3.out⟩, ⟨xN HO_5.out⟩, ⟨xH HB.out⟩⟩
       obtain ⟨-, c13b0, H⟩ | ⟨c13, -, H⟩ := yif H
       rotate_left
       · exact absurd H (by simp)
       obtain ⟨-, c14b0, H⟩ | ⟨c14, -, H⟩ := yif H
       rotate_left
       · exact absurd H (by simp)
       replace H := oB.mp H
       obtain ⟨t319, A150, H⟩ := H
       have A15 := aM A150
       clear A150
       obtain ⟨c16, -, H⟩ | ⟨c16, -, H⟩ := yif H
       rotate_left
       · exact absurd H (by simp)
       have LMc16 := aM c16
       clear c16
       obtain ⟨y322, hy322⟩ := yE (t319 ++ [x7_3] : List Int)
       replace H : (if x5_3.length < 5864062014805 then (spec_l5Weights.l2 k3 a0 x3_1 x4_1 (x5_3 ++ [y322]) x6_2 (wrap64 (x7_3 + 1))) else (none)) = some r := yI hy322 H
       have Ny322 := aM hy322
       clear hy322
       obtain ⟨c17, -, H⟩ | ⟨c17, -, H⟩ := yif H
       rotate_left
       · exact absurd H (by simp)
       have LMc17 := aM c17
       clear c17
       obtain ⟨y325, hy325⟩ := yE (x5_3 ++ [y322] : List (List Int))
       replace H : (spec_l5Weights.l2 k3 a0 x3_1 x4_1 y325 x6_2 (wrap64 (x7_3 + 1))) = some r := yI hy325 H
       have Ny325 := aM hy325
       clear hy325
       have H' := aM H
       clear H
       have p318 : 0 ≤ (x6_2 : Int) := yA
       have q318 : x6_2 < (x3_1.length : Int) := yA
       obtain ⟨ad318, A318_0, c318_0, e318, hx318_0, hl318_0, hi318_0⟩ := at_L2 (Kd.N_reads' HO_3.out).2.2 x6_2 p318 q318
       cases e318
       obtain ⟨ce318, hce318, hMe318, hcc318⟩ := Kd.N_get HO_3.out [] x6_2 p318 (by first | exact q318 | exact yA | (have e_ := (Kd.N_reads' HO_3.out).1; omega))
       obtain ⟨ua318_0, uc318_0, rfl, ul318_0, ge318_0⟩ := Kd.FK_slice_open hMe318
       have hv318_0 := hcc318 0 _ rfl
       rw [Nat.add_zero, show ((Kd.slice 3 (Kd.int .i64))).sz = 1 from rfl, Nat.mul_one] at hv318_0
       replace hv318_0 := Option.some.inj (hv318_0.symm.trans hx318_0)
       injection hv318_0 with hva_ hvn_ hvc_
       rw [hva_] at ge318_0
       rw [hvc_] at ul318_0
       have HL318_0 := aM (show Kd.V (Kd.int .i64) 3 _ w.heap.size _ _ (rd_L2 x3_1 x6_2) from Kd.V_mk ul318_0 ge318_0)
       clear hva_ hvn_ hvc_ ge318_0 ul318_0
       clear hcc318 hce318
       have HR318_0 := aM hi318_0
       have HC318_0 := aM hl318_0
       clear hi318_0 hl318_0
       replace p318 := eq_true p318
       replace q318 := eq_true q318
       go_wp2_with (first | (refine yL 31 Try.func104 #[.slice A318_0 (rd_L2 x3_1 x6_2).length c318_0] ?_; (with_reducible refine (spec_l1Own.calls _ _ (rd_L2 x3_1 x6_2) t319 _ ?side1 HC318_0.out A15.out).mono ?_); (case side1 => repeat (first | exact (by repeat (first | (with_reducible exact HR318_0.out) | (with_reducible refine Kd.C_alloc ?_ _) | (with_reducible refine Kd.C_drewN ?_ _) | (with_reducible refine Kd.C_drew ?_) | exact HR318_0.out)) | (with_reducible refine Kd.C_alloc ?_ _) | (with_reducible refine Kd.C_drewN ?_ _) | (with_reducible refine Kd.C_drew ?_))); rintro e w18 ⟨v320, rfl, ho0, hb⟩; refine ⟨_, rfl, ?_⟩; replace HO_3 := aM (Kd.N_elder' (xN HO_3.out) (Kd.R_base ho0) hb); replace HO_5 := aM (Kd.N_elder' (xN HO_5.out) (Kd.R_base ho0) hb); replace HL318_0 := aM (Kd.V_elder' (xV HL318_0.out) (Kd.R_base ho0) hb); have HO321 := aM (Kd.R_lower (Kd.R_newM (M := fun k_ => (w.heap.size ≤ k_)) ho0 (below_size (xH HB.out)) (fun k_ h_ => h_)) (below_size (xH HB.out))); replace HR318_0 := aM (Kd.C_below (by repeat (first | (with_reducible exact HR318_0.out) | (with_reducible refine Kd.C_alloc ?_ _) | (with_reducible refine Kd.C_drewN ?_ _) | (with_reducible refine Kd.C_drew ?_) | exact HR318_0.out)) hb); replace HB := yS0 HB hb; (try clear hb; try clear ho0)) | ((with_reducible refine gate_builtin (b := .append) (xs := #[.tmp 31, .tmp 33]) rfl ?_); at_builtin; refine Kd.R_append (Kd.int .i64) (w0 := w) w.heap.size rfl (.tmp 31) (.tmp 33) 24 3 (.int .i64 0) 8 rfl Try.underlying24 info3 rfl (by decide) (by omega) v320 t319 x7_3 [.int .i64 x7_3] (fun k_ => (w.heap.size ≤ k_)) (fun _ => False) rfl rfl ?aP (fun _ hk => hk.elim) ?aF ?aO ?aB ?aS ?aL ?_; (case aP => exact rfl); (case aB => exact (xH HB.out)); (case aF => exact (fun k_ hk => (Nat.le_trans (below_size (xH HB.out)) hk))); (case aO => exact (zR (rM HO321.out (fun _ hk => hk.1)))); (case aS => exact (below_size (xH HB.out))); (case aL => have := LMc16.out; omega); intro v323 w19 ho hb hg hat; rw [← Ny322.out] at ho; replace HO_3 := aM (Kd.N_afterv (ok := (fun k_ => (w.heap.size ≤ k_) ∧ some k_ ≠ (u5 : Value).ownBlock)) (xN HO_3.out) hg hat); replace HO_5 := aM (Kd.N_afterv (ok := (fun k_ => (w.heap.size ≤ k_) ∧ some k_ ≠ (.slice (some ad318) x3_1.length co11 : Value).ownBlock)) (xN HO_5.out) hg hat); replace HL318_0 := aM (Kd.V_afterv (ok := (fun k_ => (w.heap.size ≤ k_) ∧ some k_ ≠ (.slice (some ad318) x3_1.length co11 : Value).ownBlock ∧ some k_ ≠ (u5 : Value).ownBlock)) (by (with_reducible repeat (first | apply Kd.V_alloc | apply Kd.V_drewN | apply Kd.V_drew)); exact Kd.V_mono HL318_0.out (fun _ hk => ⟨⟨hk.1.1.1, ⟨hk.1.2, hk.1.1.2⟩⟩, hk.2⟩)) hg hat); replace HB := aM (hb); have HO324 := aM (ho); clear HO321; clear ho hb hg hat; obtain ⟨Ao21, co21, eo21⟩ := Kd.R_slice HO324.out; subst eo21) | ((with_reducible refine gate_builtin (b := .append) (xs := #[.tmp 26, .tmp 35]) rfl ?_); at_builtin; refine Kd.N_append (Kd.slice 3 (Kd.int .i64)) (w0 := w) w.heap.size rfl (.tmp 26) (.tmp 35) 44 24 (.slice none 0 0) 24 rfl Try.underlying44 info24 rfl (by decide) (by omega) u5 x5_3 y322 [.slice Ao21 y322.length co21] (fun k_ => (w.heap.size ≤ k_) ∧ some k_ ≠ (.slice (some ad318) x3_1.length co11 : Value).ownBlock) (fun k_ => ((fun k_ => (w.heap.size ≤ k_) ∧ some k_ ≠ (.slice (some ad318) x3_1.length co11 : Value).ownBlock)) k_ ∧ some k_ ≠ (u5 : Value).ownBlock) rfl rfl ?aP (fun _ hk => hk) ?aF ?aO ?aB ?aS ?aL ?_; (case aP => exact (Kd.FK_slice_mk (Kd.R_reads' (rM (ok' := (fun k_ => ((fun k_ => (w.heap.size ≤ k_) ∧ some k_ ≠ (.slice (some ad318) x3_1.length co11 : Value).ownBlock)) k_ ∧ some k_ ≠ (u5 : Value).ownBlock)) (Kd.R_apart' (Kd.R_apart' (HO324.out) (Kd.N_typed HO_3.out) (by decide)) (Kd.N_typed HO_5.out) (by decide)) (fun k_ hk => ⟨⟨hk.1.1, hk.1.2⟩, hk.2⟩))).2.1 (Kd.R_F (rM (ok' := (fun k_ => ((fun k_ => (w.heap.size ≤ k_) ∧ some k_ ≠ (.slice (some ad318) x3_1.length co11 : Value).ownBlock)) k_ ∧ some k_ ≠ (u5 : Value).ownBlock)) (Kd.R_apart' (Kd.R_apart' (HO324.out) (Kd.N_typed HO_3.out) (by decide)) (Kd.N_typed HO_5.out) (by decide)) (fun k_ hk => ⟨⟨hk.1.1, hk.1.2⟩, hk.2⟩))))); (case aB => exact (xH HB.out)); (case aF => exact (fun k_ hk => ⟨(Nat.le_trans (below_size (xH HB.out)) hk), Kd.fresh' (Kd.N_lt (xN HO_3.out)) k_ hk⟩)); (case aO => exact (zN (Kd.N_mono HO_5.out (fun _ hk => ⟨hk.1.1, hk.1.2⟩)))); (case aS => exact (below_size (xH HB.out))); (case aL => have := LMc17.out; omega); intro v326 w20 ho hb hg hat; rw [← Ny325.out] at ho; replace HO_3 := aM (Kd.N_afterv (ok := (fun k_ => (w.heap.size ≤ k_) ∧ some k_ ≠ (.slice Ao21 y322.length co21 : Value).ownBlock)) (zN (Kd.N_mono HO_3.out (fun _ hk => ⟨⟨hk.1.1, hk.2⟩, hk.1.2⟩))) hg hat); replace HL318_0 := aM (Kd.V_afterv (ok := (fun k_ => (w.heap.size ≤ k_) ∧ some k_ ≠ (.slice (some ad318) x3_1.length co11 : Value).ownBlock ∧ some k_ ≠ (.slice Ao21 y322.length co21 : Value).ownBlock)) (by (with_reducible repeat (first | apply Kd.V_alloc | apply Kd.V_drewN | apply Kd.V_drew)); exact Kd.V_mono HL318_0.out (fun _ hk => ⟨⟨hk.1.1, ⟨hk.1.2.1, hk.2⟩⟩, hk.1.2.2⟩)) hg hat); replace HB := aM (hb); have HO327 := aM (ho); clear HO_5; clear HO324; clear ho hb hg hat))
       go_roundg k3
       case measure => have := HK1.out; have := HK2.out; have := HK3.out; omega
       case rel => exact ⟨(y325), (wrap64 (x7_3 + 1)), yZ, H', ⟨by have := HK1.out; have := HK2.out; have := HK3.out; omega⟩, ⟨zN (Kd.N_mono HO_3.out (fun _ hk => ⟨hk.1.1, hk.2⟩))⟩, ⟨xN HO327.out⟩, ⟨xH HB.out⟩⟩
end Go.Proofs.Ytmfmgnpefjmieaa.PFnThresholdTables
