-- Laid for this claim by a program of the session's own (wip/tool/myprint.py).
import Derived.Test.YtkgekmpnbhomgaaMFnBitsx0
import Derived.Test.YtkgekmpnbhomgaaMFnBitsx1
import Derived.Test.YtkgekmpnbhomgaaMFnBitsx2
import Derived.Test.YtkgekmpnbhomgaaMFnBitsx4
namespace Go.Proofs.Ytkgekmpnbhomgaa.PFnBits
open Go.RowKit Go.Proofs.YtkgekmpnbhomgaaW.PrintWords Go.Proofs.YtkgekmpnbhomgaaW.PrintLast Go.Proofs.YtkgekmpnbhomgaaW.PrintMore
attribute [local go_sem] max2_int min2_int max_two min_two max_three min_three max_four min_four
set_option linter.unusedVariables false
set_option linter.unusedSimpArgs false
def laws_rInts.l0 : Nat → List Int → List Int → Int → Option (Bool)
 | 0, _, _, _ => none
 | k + 1, x0, x1, x5 => if x5 < (x0.length : Int) then (if 0 ≤ x5 then (if x5 < (x1.length : Int) then (if (rd x0 x5) = (rd x1 x5) then (laws_rInts.l0 k x0 x1 (wrap64 (x5 + 1))) else (some false)) else (none)) else (none)) else (some true)
def laws_rInts.f (k : Nat) (l0 : List Int) (l1 : List Int) : Option (Bool) := if (l0.length : Int) = (l1.length : Int) then (laws_rInts.l0 k l0 l1 0) else (some false)
theorem laws_rInts.mono_l : ∀ k, (∀ y0 y1 y2, LeO (laws_rInts.l0 k y0 y1 y2) (laws_rInts.l0 (k + 1) y0 y1 y2))
 | 0 => fun _ _ _ r h => by simp [laws_rInts.l0] at h
 | k + 1 => by
  have ih0 := laws_rInts.mono_l k
  ·
   intro y0 y1 y2
   unfold laws_rInts.l0
   repeat' first
   | (with_reducible exact ih0 _ _ _)
   | (with_reducible exact LeO.refl _)
   | (with_reducible exact LeO.none _)
   | (with_reducible refine LeO.ite ?_ ?_)
   | (with_reducible refine LeO.bind ?_ (fun _ => ?_))
   | exact ih0 _ _ _
   | exact LeO.none _
   | refine LeO.ite ?_ ?_
   | refine LeO.bind ?_ (fun _ => ?_)
theorem laws_rInts.mono : ∀ a0 a1 k, LeO (laws_rInts.f k a0 a1) (laws_rInts.f (k + 1) a0 a1) := by
 intro a0 a1 k
 have ih0 := laws_rInts.mono_l k
 unfold laws_rInts.f
 repeat' first
   | (with_reducible exact ih0 _ _ _)
   | (with_reducible exact LeO.refl _)
   | (with_reducible exact LeO.none _)
   | (with_reducible refine LeO.ite ?_ ?_)
   | (with_reducible refine LeO.bind ?_ (fun _ => ?_))
   | exact ih0 _ _ _
   | exact LeO.none _
   | refine LeO.ite ?_ ?_
   | refine LeO.bind ?_ (fun _ => ?_)
set_option maxHeartbeats 8000000 in
set_option maxRecDepth 100000 in
theorem laws_rInts.calls (k : Nat) (A0 : Option Addr) (c0 : Nat) (l0 : List Int) (A1 : Option Addr) (c1 : Nat) (l1 : List Int) (r : Bool) (w : World) (hr0 : Kd.C (Kd.int .i64) w A0 l0.length l0) (hc0 : l0.length ≤ c0) (hr1 : Kd.C (Kd.int .i64) w A1 l1.length l1) (hc1 : l1.length ≤ c1) (h : laws_rInts.f k l0 l1 = some r) :
  Calls Try.prog 11 #[.slice A0 l0.length c0, .slice A1 l1.length c1] w fun e w' => e = .returned (.bool r) ∧ Drawn0 w w' := by
 have HR0 := aM hr0
 have HC0 := aM hc0
 clear hr0 hc0
 have HR1 := aM hr1
 have HC1 := aM hc1
 clear hr1 hc1
 have H : (if (l0.length : Int) = (l1.length : Int) then (laws_rInts.l0 k l0 l1 0) else (some false)) = some r := h
 clear h
 by_cases c3 : (l0.length : Int) = (l1.length : Int)
 ·
  rw [if_pos c3] at H
  have c3b0 : ((l0.length : Int) == (l1.length : Int)) = true := beq_iff_eq.mpr c3
  have c3b1 : ((l0.length : Int) != (l1.length : Int)) = false := bne_eq_false_iff_eq.mpr c3
  have c3b2 : (l0.length == l1.length) = true := by first | simpa using c3 | (simp at c3 ⊢; omega)
  clear c3
  have H' := aM H
  clear H
  go_enter Try.func11, Try.ntmps11
  go_wp2
  repeat (go_quiet (fail); try go_wp2)
  go_loopg [5] k (fun kq v5 w' => ∃ (x5_1 : Int), v5 = .int .i64 x5_1 ∧ Aside0 (laws_rInts.l0 kq l0 l1 x5_1 = some r) ∧ Aside0 (kq ≤ k) ∧ Drawn0 w w')
  case atStart => exact ⟨(0), (by first | rfl | (simp; done) | (simp [*]; done)), H', ⟨Nat.le_refl _⟩, by repeat (first | exact Drawn0.refl _ | apply Drawn0.step)⟩
  case round =>
   clear H'
   try clear c1; try clear p2; try clear c3; try clear c3b0; try clear c3b1; try clear c3b2
   obtain ⟨x5_1, rfl, HA, HK1, ⟨m1, rfl⟩⟩ := hrel
   cases gk with
   | zero => exact absurd HA.out (by simp [laws_rInts.l0])
   | succ k1 =>
    have H := HA.out
    clear HA
    simp only [laws_rInts.l0] at H
    by_cases c4 : x5_1 < (l0.length : Int)
    ·
     rw [if_pos c4] at H
     have c4b0 : decide (x5_1 < (l0.length : Int)) = true := decide_eq_true c4
     clear c4
     by_cases c5 : 0 ≤ x5_1
     ·
      rw [if_pos c5] at H
      have c5b0 : decide (0 ≤ x5_1) = true := decide_eq_true c5
      clear c5
      by_cases c6 : x5_1 < (l1.length : Int)
      ·
       rw [if_pos c6] at H
       have c6b0 : decide (x5_1 < (l1.length : Int)) = true := decide_eq_true c6
       clear c6
       by_cases c7 : (rd l0 x5_1) = (rd l1 x5_1)
       ·
        rw [if_pos c7] at H
        have c7b0 : ((rd l0 x5_1) == (rd l1 x5_1)) = true := beq_iff_eq.mpr c7
        have c7b1 : ((rd l0 x5_1) != (rd l1 x5_1)) = false := bne_eq_false_iff_eq.mpr c7
        clear c7
        have H' := aM H
        clear H
        have p237 : 0 ≤ (x5_1 : Int) := of_decide_eq_true (by first | (with_reducible assumption) | assumption)
        have q237 : x5_1 < (l0.length : Int) := of_decide_eq_true (by first | (with_reducible assumption) | assumption)
        obtain ⟨ad237, e237, hx237_0⟩ := Kd.at_int HR0.out x5_1 p237 q237
        cases e237
        replace p237 := eq_true p237
        replace q237 := eq_true q237
        have p238 : 0 ≤ (x5_1 : Int) := of_decide_eq_true (by first | (with_reducible assumption) | assumption)
        have q238 : x5_1 < (l1.length : Int) := of_decide_eq_true (by first | (with_reducible assumption) | assumption)
        obtain ⟨ad238, e238, hx238_0⟩ := Kd.at_int HR1.out x5_1 p238 q238
        cases e238
        replace p238 := eq_true p238
        replace q238 := eq_true q238
        go_wp2
        repeat (go_quiet (fail); try go_wp2)
        go_roundg k1
        case measure => have := HK1.out; omega
        case rel => exact ⟨(wrap64 (x5_1 + 1)), (by first | rfl | (simp; done) | (simp [*]; done)), H', ⟨by have := HK1.out; omega⟩, by repeat (first | exact Drawn0.refl _ | apply Drawn0.step)⟩
       ·
        rw [if_neg c7] at H
        have c7b0 : ((rd l0 x5_1) == (rd l1 x5_1)) = false := beq_eq_false_iff_ne.mpr c7
        have c7b1 : ((rd l0 x5_1) != (rd l1 x5_1)) = true := bne_iff_ne.mpr c7
        obtain rfl := Option.some.inj H
        have p237 : 0 ≤ (x5_1 : Int) := of_decide_eq_true (by first | (with_reducible assumption) | assumption)
        have q237 : x5_1 < (l0.length : Int) := of_decide_eq_true (by first | (with_reducible assumption) | assumption)
        obtain ⟨ad237, e237, hx237_0⟩ := Kd.at_int HR0.out x5_1 p237 q237
        cases e237
        replace p237 := eq_true p237
        replace q237 := eq_true q237
        have p238 : 0 ≤ (x5_1 : Int) := of_decide_eq_true (by first | (with_reducible assumption) | assumption)
        have q238 : x5_1 < (l1.length : Int) := of_decide_eq_true (by first | (with_reducible assumption) | assumption)
        obtain ⟨ad238, e238, hx238_0⟩ := Kd.at_int HR1.out x5_1 p238 q238
        cases e238
        replace p238 := eq_true p238
        replace q238 := eq_true q238
        go_wp2
        repeat (go_quiet (fail); try go_wp2)
        go_ret
        exact ⟨by first | rfl | (simp; done) | (simp [*]; done), by repeat (first | exact Drawn0.refl _ | apply Drawn0.step)⟩
      ·
       rw [if_neg c6] at H
       exact absurd H (by simp)
     ·
      rw [if_neg c5] at H
      exact absurd H (by simp)
    ·
     rw [if_neg c4] at H
     have c4b0 : decide (x5_1 < (l0.length : Int)) = false := decide_eq_false c4
     clear c4
     obtain rfl := Option.some.inj H
     go_wp2
     repeat (go_quiet (fail); try go_wp2)
     go_ret
     exact ⟨by first | rfl | (simp; done) | (simp [*]; done), by repeat (first | exact Drawn0.refl _ | apply Drawn0.step)⟩
 ·
  rw [if_neg c3] at H
  have c3b0 : ((l0.length : Int) == (l1.length : Int)) = false := beq_eq_false_iff_ne.mpr c3
  have c3b1 : ((l0.length : Int) != (l1.length : Int)) = true := bne_iff_ne.mpr c3
  have c3b2 : (l0.length == l1.length) = false := by first | simpa using c3 | (simp at c3 ⊢; omega)
  obtain rfl := Option.some.inj H
  go_enter Try.func11, Try.ntmps11
  go_wp2
  repeat (go_quiet (fail); try go_wp2)
  go_ret
  exact ⟨by first | rfl | (simp; done) | (simp [*]; done), by repeat (first | exact Drawn0.refl _ | apply Drawn0.step)⟩
def spec_l1Cur_one.f (s0_0 : List Int) (s0_1 : Int) (s0_2 : Int) (a1 : Int) : Option (Bool × Int × Int) := (spec_l1Cur_pick.f s0_0 s0_1 s0_2 a1).bind fun bt239 => (some ((bt239.1 == 0), bt239.2.1, bt239.2.2))
set_option maxHeartbeats 8000000 in
set_option maxRecDepth 100000 in
theorem spec_l1Cur_one.calls (g : Nat) (s0_0 : List Int) (s0_1 : Int) (s0_2 : Int) (a1 : Int) (r1 : Bool) (r2 : Int) (r3 : Int) (w0 w : World) (hI : IsS75 w0 w g s0_0 s0_1 s0_2) (hB : Below w0.heap.size w0 w) (h : spec_l1Cur_one.f s0_0 s0_1 s0_2 a1 = some (r1, r2, r3)) :
  Calls Try.prog 74 #[.pointer (some ⟨g, 0, none⟩), .int .i64 a1] w fun e w' => e = .returned (.bool r1) ∧ IsS75 w0 w' g s0_0 r2 r3 ∧ Below w0.heap.size w0 w' ∧ KeepBut w w' g none := by
 have HI0 := aM hI
 have HK := aM (KeepBut.refl w g none)
 have HL := aM hB.size
 clear hI
 have HW0 := aM hB.size
 have HB := aM hB
 clear hB
 have H : ((spec_l1Cur_pick.f s0_0 s0_1 s0_2 a1).bind fun bt239 => (some ((bt239.1 == 0), bt239.2.1, bt239.2.2))) = some (r1, r2, r3) := h
 clear h
 replace H := oB.mp H
 obtain ⟨⟨t239, t240, t241⟩, A30, H⟩ := H
 replace H : (some ((t239 == 0), t240, t241)) = some (r1, r2, r3) := H
 have A3 := aM A30
 clear A30
 simp only [Option.some.injEq, Prod.mk.injEq] at H
 obtain ⟨rfl, rfl, rfl⟩ := H
 go_enter Try.func74, Try.ntmps74
 go_wp2_with (first | ((with_reducible refine gate_callee (f := 108) rfl ?_); refine goesL_ (some 7) rfl rfl Try.func108 (by kernel_rfl) rfl #[.pointer (some ⟨g, 0, none⟩), .int .i64 a1] rfl xL ?_; (with_reducible refine (spec_l1Cur_pick.calls g s0_0 s0_1 s0_2 a1 t239 t240 t241 w0 _ ?side1 ?side2 A3.out).mono ?_); (case side1 => exact IsS75.x0 HI0.out); (case side2 => exact xG1 HB.out (IsS75.ge HI0.out)); rintro e w4 ⟨rfl, hi, hb, hk⟩; refine ⟨_, rfl, ?_⟩; replace HK := aM (KeepBut.trans (xK0 HK.out) hk (.inl rfl)); replace HB := aM (hb); replace HI0 := aM (hi); (try clear hb; try clear hb2; try clear hk; try clear hi)))
 go_ret
 exact ⟨by first | rfl | (simp [errW_none, errW_some] <;> rfl) | (simp [*, errW_none, errW_some] <;> rfl), IsS75.x0 HI0.out, xG1 HB.out (IsS75.ge HI0.out), xK0 HK.out⟩
mutual
def spec_l1Cur_table.j0 : Nat → Int → List Int → Bool → List Int → Int → Int → Option (List Int × Int × Int)
 | 0, _, _, _, _, _, _ => none
 | k + 1, x1, x5, x14, x1000, x1001, x1002 => if x14 = true then (some (x5, x1001, x1002)) else ((spec_l1Cur_plane.f k x1000 x1001 x1002 x1).bind fun bt245 => (if x1 > 0 then ((spec_l2Plane.f k bt245.1 bt245.2.1).bind fun t252 => (if t252 = true then (if (bt245.1.length : Int) = x1 then ((spec_l1Cur_one.f x1000 bt245.2.2.1 bt245.2.2.2 2).bind fun bt253 => (spec_l1Cur_table.j1 k x1 x5 bt253.1 x1000 bt253.2.1 bt253.2.2 bt245.1 bt245.2.1)) else (spec_l1Cur_table.j1 k x1 x5 false x1000 bt245.2.2.1 bt245.2.2.2 bt245.1 bt245.2.1)) else (spec_l1Cur_table.j1 k x1 x5 false x1000 bt245.2.2.1 bt245.2.2.2 bt245.1 bt245.2.1))) else (spec_l1Cur_table.j1 k x1 x5 false x1000 bt245.2.2.1 bt245.2.2.2 bt245.1 bt245.2.1)))
def spec_l1Cur_table.j1 : Nat → Int → List Int → Bool → List Int → Int → Int → List Int → Int → Option (List Int × Int × Int)
 | 0, _, _, _, _, _, _, _, _ => none
 | k + 1, x1, x5, x35, x1000, x1001, x1002, x252000, x252001 => if x35 = true then ((spec_l2TableOf.f k x1 x252000 x252001).bind fun t256 => (spec_l1Cur_table.j3 k t256 x1000 x1001 x1002)) else (spec_l1Cur_table.l0 k x1 x5 0 x1000 x1001 x1002)
def spec_l1Cur_table.j3 : Nat → List Int → List Int → Int → Int → Option (List Int × Int × Int)
 | 0, _, _, _, _ => none
 | k + 1, x5, x1000, x1001, x1002 => (spec_l1Cur_one.f x1000 x1001 x1002 40).bind fun bt265 => (if bt265.1 = true then ((spec_l1Cur_pick.f x1000 bt265.2.1 bt265.2.2 (x5.length : Int)).bind fun bt268 => ((spec_l1Cur_among.f x1000 bt268.2.1 bt268.2.2 (([2, (-1)] : List Int))).bind fun bt274 => (if 0 ≤ bt268.1 then (if bt268.1 < (x5.length : Int) then ((some (x5.set (bt268.1 : Int).toNat bt274.1 : List Int)).bind fun y277 => ((spec_l1Cur_one.f x1000 bt274.2.1 bt274.2.2 40).bind fun bt278 => (if bt278.1 = true then (if y277.length < 17592186044416 then (some ((y277 ++ [0]), bt278.2.1, bt278.2.2)) else (none)) else (some (y277, bt278.2.1, bt278.2.2))))) else (none)) else (none)))) else ((spec_l1Cur_one.f x1000 bt265.2.1 bt265.2.2 40).bind fun bt284 => (if bt284.1 = true then (if x5.length < 17592186044416 then (some ((x5 ++ [0]), bt284.2.1, bt284.2.2)) else (none)) else (some (x5, bt284.2.1, bt284.2.2)))))
def spec_l1Cur_table.l0 : Nat → Int → List Int → Int → List Int → Int → Int → Option (List Int × Int × Int)
 | 0, _, _, _, _, _, _ => none
 | k + 1, x1, x5, x7, x1000, x1001, x1002 => if 0 ≤ x1 then (if x7 < (shl .i64 1 x1) then ((spec_l1Cur_pick.f x1000 x1001 x1002 2).bind fun bt259 => (if x5.length < 17592186044416 then (spec_l1Cur_table.l0 k x1 (x5 ++ [bt259.1]) (wrap64 (x7 + 1)) x1000 bt259.2.1 bt259.2.2) else (none))) else (spec_l1Cur_table.j3 k x5 x1000 x1001 x1002)) else (none)
end
def spec_l1Cur_table.f (k : Nat) (s0_0 : List Int) (s0_1 : Int) (s0_2 : Int) (a1 : Int) : Option (List Int × Int × Int) := (some (([] : List Int) : List Int)).bind fun y242 => (if a1 < 0 then (spec_l1Cur_table.j0 k a1 y242 true s0_0 s0_1 s0_2) else (spec_l1Cur_table.j0 k a1 y242 (decide (a1 > 5)) s0_0 s0_1 s0_2))
theorem spec_l1Cur_table.mono_l : ∀ k, (∀ y0 y1 y2 y3 y4 y5, LeO (spec_l1Cur_table.j0 k y0 y1 y2 y3 y4 y5) (spec_l1Cur_table.j0 (k + 1) y0 y1 y2 y3 y4 y5)) ∧ (∀ y0 y1 y2 y3 y4 y5 y6 y7, LeO (spec_l1Cur_table.j1 k y0 y1 y2 y3 y4 y5 y6 y7) (spec_l1Cur_table.j1 (k + 1) y0 y1 y2 y3 y4 y5 y6 y7)) ∧ (∀ y0 y1 y2 y3, LeO (spec_l1Cur_table.j3 k y0 y1 y2 y3) (spec_l1Cur_table.j3 (k + 1) y0 y1 y2 y3)) ∧ (∀ y0 y1 y2 y3 y4 y5, LeO (spec_l1Cur_table.l0 k y0 y1 y2 y3 y4 y5) (spec_l1Cur_table.l0 (k + 1) y0 y1 y2 y3 y4 y5))
 | 0 => ⟨fun _ _ _ _ _ _ r h => by simp [spec_l1Cur_table.j0] at h, fun _ _ _ _ _ _ _ _ r h => by simp [spec_l1Cur_table.j1] at h, fun _ _ _ _ r h => by simp [spec_l1Cur_table.j3] at h, fun _ _ _ _ _ _ r h => by simp [spec_l1Cur_table.l0] at h⟩
 | k + 1 => by
  obtain ⟨ih0, ih1, ih2, ih3⟩ := spec_l1Cur_table.mono_l k
  refine ⟨?_, ?_, ?_, ?_⟩
  ·
   intro y0 y1 y2 y3 y4 y5
   unfold spec_l1Cur_table.j0
   repeat' first
   | (with_reducible exact ih0 _ _ _ _ _ _)
   | (with_reducible exact ih1 _ _ _ _ _ _ _ _)
   | (with_reducible exact ih2 _ _ _ _)
   | (with_reducible exact ih3 _ _ _ _ _ _)
   | (with_reducible exact spec_l1Cur_plane.mono _ _ _ _ _)
   | (with_reducible exact spec_l2Plane.mono _ _ _)
   | (with_reducible exact spec_l2TableOf.mono _ _ _ _)
   | (with_reducible exact LeO.refl _)
   | (with_reducible exact LeO.none _)
   | (with_reducible refine LeO.ite ?_ ?_)
   | (with_reducible refine LeO.bind ?_ (fun _ => ?_))
   | exact ih0 _ _ _ _ _ _
   | exact ih1 _ _ _ _ _ _ _ _
   | exact ih2 _ _ _ _
   | exact ih3 _ _ _ _ _ _
   | exact spec_l1Cur_plane.mono _ _ _ _ _
   | exact spec_l2Plane.mono _ _ _
   | exact spec_l2TableOf.mono _ _ _ _
   | exact LeO.none _
   | refine LeO.ite ?_ ?_
   | refine LeO.bind ?_ (fun _ => ?_)
  ·
   intro y0 y1 y2 y3 y4 y5 y6 y7
   unfold spec_l1Cur_table.j1
   repeat' first
   | (with_reducible exact ih0 _ _ _ _ _ _)
   | (with_reducible exact ih1 _ _ _ _ _ _ _ _)
   | (with_reducible exact ih2 _ _ _ _)
   | (with_reducible exact ih3 _ _ _ _ _ _)
   | (with_reducible exact spec_l1Cur_plane.mono _ _ _ _ _)
   | (with_reducible exact spec_l2Plane.mono _ _ _)
   | (with_reducible exact spec_l2TableOf.mono _ _ _ _)
   | (with_reducible exact LeO.refl _)
   | (with_reducible exact LeO.none _)
   | (with_reducible refine LeO.ite ?_ ?_)
   | (with_reducible refine LeO.bind ?_ (fun _ => ?_))
   | exact ih0 _ _ _ _ _ _
   | exact ih1 _ _ _ _ _ _ _ _
   | exact ih2 _ _ _ _
   | exact ih3 _ _ _ _ _ _
   | exact spec_l1Cur_plane.mono _ _ _ _ _
   | exact spec_l2Plane.mono _ _ _
   | exact spec_l2TableOf.mono _ _ _ _
   | exact LeO.none _
   | refine LeO.ite ?_ ?_
   | refine LeO.bind ?_ (fun _ => ?_)
  ·
   intro y0 y1 y2 y3
   unfold spec_l1Cur_table.j3
   repeat' first
   | (with_reducible exact ih0 _ _ _ _ _ _)
   | (with_reducible exact ih1 _ _ _ _ _ _ _ _)
   | (with_reducible exact ih2 _ _ _ _)
   | (with_reducible exact ih3 _ _ _ _ _ _)
   | (with_reducible exact spec_l1Cur_plane.mono _ _ _ _ _)
   | (with_reducible exact spec_l2Plane.mono _ _ _)
   | (with_reducible exact spec_l2TableOf.mono _ _ _ _)
   | (with_reducible exact LeO.refl _)
   | (with_reducible exact LeO.none _)
   | (with_reducible refine LeO.ite ?_ ?_)
   | (with_reducible refine LeO.bind ?_ (fun _ => ?_))
   | exact ih0 _ _ _ _ _ _
   | exact ih1 _ _ _ _ _ _ _ _
   | exact ih2 _ _ _ _
   | exact ih3 _ _ _ _ _ _
   | exact spec_l1Cur_plane.mono _ _ _ _ _
   | exact spec_l2Plane.mono _ _ _
   | exact spec_l2TableOf.mono _ _ _ _
   | exact LeO.none _
   | refine LeO.ite ?_ ?_
   | refine LeO.bind ?_ (fun _ => ?_)
  ·
   intro y0 y1 y2 y3 y4 y5
   unfold spec_l1Cur_table.l0
   repeat' first
   | (with_reducible exact ih0 _ _ _ _ _ _)
   | (with_reducible exact ih1 _ _ _ _ _ _ _ _)
   | (with_reducible exact ih2 _ _ _ _)
   | (with_reducible exact ih3 _ _ _ _ _ _)
   | (with_reducible exact spec_l1Cur_plane.mono _ _ _ _ _)
   | (with_reducible exact spec_l2Plane.mono _ _ _)
   | (with_reducible exact spec_l2TableOf.mono _ _ _ _)
   | (with_reducible exact LeO.refl _)
   | (with_reducible exact LeO.none _)
   | (with_reducible refine LeO.ite ?_ ?_)
   | (with_reducible refine LeO.bind ?_ (fun _ => ?_))
   | exact ih0 _ _ _ _ _ _
   | exact ih1 _ _ _ _ _ _ _ _
   | exact ih2 _ _ _ _
   | exact ih3 _ _ _ _ _ _
   | exact spec_l1Cur_plane.mono _ _ _ _ _
   | exact spec_l2Plane.mono _ _ _
   | exact spec_l2TableOf.mono _ _ _ _
   | exact LeO.none _
   | refine LeO.ite ?_ ?_
   | refine LeO.bind ?_ (fun _ => ?_)
theorem spec_l1Cur_table.mono : ∀ a0 a1 a2 a3 k, LeO (spec_l1Cur_table.f k a0 a1 a2 a3) (spec_l1Cur_table.f (k + 1) a0 a1 a2 a3) := by
 intro a0 a1 a2 a3 k
 obtain ⟨ih0, ih1, ih2, ih3⟩ := spec_l1Cur_table.mono_l k
 unfold spec_l1Cur_table.f
 repeat' first
   | (with_reducible exact ih0 _ _ _ _ _ _)
   | (with_reducible exact ih1 _ _ _ _ _ _ _ _)
   | (with_reducible exact ih2 _ _ _ _)
   | (with_reducible exact ih3 _ _ _ _ _ _)
   | (with_reducible exact spec_l1Cur_plane.mono _ _ _ _ _)
   | (with_reducible exact spec_l2Plane.mono _ _ _)
   | (with_reducible exact spec_l2TableOf.mono _ _ _ _)
   | (with_reducible exact LeO.refl _)
   | (with_reducible exact LeO.none _)
   | (with_reducible refine LeO.ite ?_ ?_)
   | (with_reducible refine LeO.bind ?_ (fun _ => ?_))
   | exact ih0 _ _ _ _ _ _
   | exact ih1 _ _ _ _ _ _ _ _
   | exact ih2 _ _ _ _
   | exact ih3 _ _ _ _ _ _
   | exact spec_l1Cur_plane.mono _ _ _ _ _
   | exact spec_l2Plane.mono _ _ _
   | exact spec_l2TableOf.mono _ _ _ _
   | exact LeO.none _
   | refine LeO.ite ?_ ?_
   | refine LeO.bind ?_ (fun _ => ?_)
set_option maxHeartbeats 8000000 in
set_option maxRecDepth 100000 in
theorem spec_l1Cur_table.calls (k : Nat) (g : Nat) (s0_0 : List Int) (s0_1 : Int) (s0_2 : Int) (a1 : Int) (r1 : List Int) (r2 : Int) (r3 : Int) (w0 w : World) (hI : IsS75 w0 w g s0_0 s0_1 s0_2) (hB : Below w0.heap.size w0 w) (h : spec_l1Cur_table.f k s0_0 s0_1 s0_2 a1 = some (r1, r2, r3)) :
  Calls Try.prog 58 #[.pointer (some ⟨g, 0, none⟩), .int .i64 a1] w fun e w' => ∃ v0_ : Value, e = .returned (v0_) ∧ Kd.R (Kd.int .i64) 3 w' w.heap.size (fun _ => True) v0_ r1 ∧ IsS75 w0 w' g s0_0 r2 r3 ∧ Below w0.heap.size w0 w' ∧ KeepBut w w' g none := by
 have hu26 := Try.underlying26
 have HI0 := aM hI
 have HK := aM (KeepBut.refl w g none)
 have HL := aM hB.size
 clear hI
 have HW0 := aM hB.size
 have HB := aM hB
 clear hB
 have H : ((some (([] : List Int) : List Int)).bind fun y242 => (if a1 < 0 then (spec_l1Cur_table.j0 k a1 y242 true s0_0 s0_1 s0_2) else (spec_l1Cur_table.j0 k a1 y242 (decide (a1 > 5)) s0_0 s0_1 s0_2))) = some (r1, r2, r3) := h
 clear h
 obtain ⟨y242, hy242⟩ : ∃ y_ : List Int, y_ = (([] : List Int)) := ⟨_, rfl⟩
 replace H : (if a1 < 0 then (spec_l1Cur_table.j0 k a1 y242 true s0_0 s0_1 s0_2) else (spec_l1Cur_table.j0 k a1 y242 (decide (a1 > 5)) s0_0 s0_1 s0_2)) = some (r1, r2, r3) := by first | (rw [hy242]; with_reducible exact H) | (have H2_ := (Option.bind_some _ _).symm.trans H; rw [hy242]; with_reducible exact H2_) | (have H2_ := (Option.bind_some _ _).symm.trans H; with_reducible exact H2_) | with_reducible exact H | (rw [hy242]; exact H) | exact H
 have Ny242 := aM hy242
 clear hy242
 have HC3 := aM H
 clear H
 go_enter Try.func58, Try.ntmps58
 go_upto_region 2 with (first | ((with_reducible refine gate_dst (N := 8) rfl ?_); (try (refine gate_guard (by rfl) ?_; dsimp only)); refine Kd.R_lit (Kd.int .i64) _ 3 ?hg (N := 8) ?hd (xs := ([] : List Int)) (inner := []) (ok := fun _ => True) (okp := fun _ => True) ?hr ?hp (fun _ hk => hk) trivial (Below.refl _ _) (Nat.le_refl _) (by simp) ?_; (case hd => rfl); (case hg => rfl); (case hr => first | (go_simp; done) | (go_simp; rfl)); (case hp => exact (Reps.none _ _)); intro v243 w4 ho5 hb hg_ hnew_; clear hg_ hnew_; (first | rw [← Ny242.out] at ho5 | (simp only [Int.reduceToNat] at ho5; rw [← Ny242.out] at ho5)); have HO244 := aM (Kd.R_lower ho5 (keep_size (w := w) (g := g) (row := none) (xK0 HK.out))); replace HK := aM (KeepBut.trans (xK0 HK.out) (KeepBut.of_below hb g none) (.inl rfl)); replace HB := aM (below_step (xG1 HB.out (IsS75.ge HI0.out)) hb); replace HI0 := aM (IsS75.below (IsS75.x0 HI0.out) hb); clear hb ho5))
 (try simp only [Act.put, sA, sZ, sU])
 go_cut [14] (fun v14 wc => ∃ (kq : Nat) (x14_2 : Bool), v14 = .bool x14_2 ∧ Aside0 (spec_l1Cur_table.j0 kq a1 y242 x14_2 s0_0 s0_1 s0_2 = some (r1, r2, r3)) ∧ Aside0 (kq ≤ k) ∧ Aside0 (Kd.R (Kd.int .i64) 3 wc w.heap.size (fun _ => True) v243 y242) ∧ Aside0 (IsS75 w0 wc g s0_0 s0_1 s0_2) ∧ Aside0 (KeepBut w wc g none) ∧ Aside0 (Below w0.heap.size w0 wc))
 case first =>
  have H := HC3.out
  clear HC3
  by_cases c6 : a1 < 0
  ·
   rw [if_pos c6] at H
   have c6b0 : decide (a1 < 0) = true := decide_eq_true c6
   clear c6
   (first | rw [c6b0] | (simp only [i64_w, i32_w]; rw [c6b0]) | skip)
   have H' := aM H
   clear H
   go_wp2
   go_meet
   case rel => exact ⟨_, (true), (by first | rfl | (simp; done) | (simp [*]; done)), H', ⟨by first | omega | exact Nat.le_refl _⟩, ⟨xR HO244.out⟩, ⟨IsS75.x0 HI0.out⟩, ⟨xK0 HK.out⟩, ⟨xG1 HB.out (IsS75.ge HI0.out)⟩⟩
  ·
   rw [if_neg c6] at H
   have c6b0 : decide (a1 < 0) = false := decide_eq_false c6
   clear c6
   (first | rw [c6b0] | (simp only [i64_w, i32_w]; rw [c6b0]) | skip)
   have H' := aM H
   clear H
   go_wp2
   go_meet
   case rel => exact ⟨_, (decide (a1 > 5)), (by first | rfl | (simp; done) | (simp [*]; done)), H', ⟨by first | omega | exact Nat.le_refl _⟩, ⟨xR HO244.out⟩, ⟨IsS75.x0 HI0.out⟩, ⟨xK0 HK.out⟩, ⟨xG1 HB.out (IsS75.ge HI0.out)⟩⟩
 case rest =>
  clear HC3
  try clear p2; try clear c5; try clear c6; try clear c6b0
  obtain ⟨kq, x14_2, rfl, HA, HJ2, HO_5, HI0, HK, HB⟩ := hcut
  cases kq with
  | zero => exact absurd HA.out (by simp [spec_l1Cur_table.j0])
  | succ kj2 =>
   have H := HA.out
   clear HA
   simp only [spec_l1Cur_table.j0] at H
   by_cases c7 : x14_2 = true
   ·
    subst c7
    have H1 : (some (y242, s0_1, s0_2)) = some (r1, r2, r3) := by rw [if_pos rfl] at H; exact H
    clear H
    have H := H1
    clear H1
    simp only [Option.some.injEq, Prod.mk.injEq] at H
    obtain ⟨rfl, rfl, rfl⟩ := H
    go_wp2
    go_ret
    exact ⟨_, by first | rfl | (simp [errW_none, errW_some] <;> rfl) | (simp [*, errW_none, errW_some] <;> rfl), by (with_reducible repeat (first | apply rA | apply rN | apply rD)); exact HO_5.out, IsS75.x0 HI0.out, xG1 HB.out (IsS75.ge HI0.out), xK0 HK.out⟩
   ·
    replace c7 := Bool.eq_false_iff.mpr c7
    subst c7
    have H1 : ((spec_l1Cur_plane.f kj2 s0_0 s0_1 s0_2 a1).bind fun bt245 => (if a1 > 0 then ((spec_l2Plane.f kj2 bt245.1 bt245.2.1).bind fun t252 => (if t252 = true then (if (bt245.1.length : Int) = a1 then ((spec_l1Cur_one.f s0_0 bt245.2.2.1 bt245.2.2.2 2).bind fun bt253 => (spec_l1Cur_table.j1 kj2 a1 y242 bt253.1 s0_0 bt253.2.1 bt253.2.2 bt245.1 bt245.2.1)) else (spec_l1Cur_table.j1 kj2 a1 y242 false s0_0 bt245.2.2.1 bt245.2.2.2 bt245.1 bt245.2.1)) else (spec_l1Cur_table.j1 kj2 a1 y242 false s0_0 bt245.2.2.1 bt245.2.2.2 bt245.1 bt245.2.1))) else (spec_l1Cur_table.j1 kj2 a1 y242 false s0_0 bt245.2.2.1 bt245.2.2.2 bt245.1 bt245.2.1))) = some (r1, r2, r3) := by rw [if_neg (show ¬ (false = true) by decide)] at H; exact H
    clear H
    have H := H1
    clear H1
    replace H := oB.mp H
    obtain ⟨⟨t245, t248, t249, t250⟩, A80, H⟩ := H
    replace H : (if a1 > 0 then ((spec_l2Plane.f kj2 t245 t248).bind fun t252 => (if t252 = true then (if (t245.length : Int) = a1 then ((spec_l1Cur_one.f s0_0 t249 t250 2).bind fun bt253 => (spec_l1Cur_table.j1 kj2 a1 y242 bt253.1 s0_0 bt253.2.1 bt253.2.2 t245 t248)) else (spec_l1Cur_table.j1 kj2 a1 y242 false s0_0 t249 t250 t245 t248)) else (spec_l1Cur_table.j1 kj2 a1 y242 false s0_0 t249 t250 t245 t248))) else (spec_l1Cur_table.j1 kj2 a1 y242 false s0_0 t249 t250 t245 t248)) = some (r1, r2, r3) := H
    have A8 := aM A80
    clear A80
    have HC9 := aM H
    clear H
    go_upto_region 5 with (first | ((with_reducible refine gate_callee (f := 105) rfl ?_); refine goesL_ (some 18) rfl rfl Try.func105 (by kernel_rfl) rfl #[.pointer (some ⟨g, 0, none⟩), .int .i64 a1] rfl xL ?_; (with_reducible refine (spec_l1Cur_plane.calls kj2 g s0_0 s0_1 s0_2 a1 t245 t248 t249 t250 w0 _ ?side1 ?side2 A8.out).mono ?_); (case side1 => exact IsS75.x0 HI0.out); (case side2 => exact xG1 HB.out (IsS75.ge HI0.out)); rintro e w10 ⟨v246, rfl, ho0, hi, hb, hk⟩; refine ⟨_, rfl, ?_⟩; have HO247 := aM (Kd.R_lower (Kd.R_new' ho0 (Kd.R_lt (xR HO_5.out))) (keep_size (w := w) (g := g) (row := none) (xK0 HK.out))); replace HO_5 := aM (rM (Kd.R_told (Kd.R_oldK (IsS75.apart (show IsS75 w0 _ g s0_0 s0_1 s0_2 from IsS75.x0 HI0.out) (xR HO_5.out) (by decide)) hk) (Kd.R_base ho0)) (fun _ h_ => h_.1)); replace HK := aM (KeepBut.trans (xK0 HK.out) hk (.inl rfl)); replace HB := aM (hb); replace HI0 := aM (hi); (try clear hb; try clear hb2; try clear hk; try clear hi; try clear ho0)) | ((with_reducible refine gate_dst (N := 6) rfl ?_); (try (refine gate_guard (by rfl) ?_; dsimp only)); refine box_event ?hg (N := 6) ?hd (cs := #[.slice none 0 0, .int .i64 0]) (t := 26) ?hr ?_; (case hd => rfl); (case hg => rfl); (case hr => first | (go_simp; done) | (go_simp; rfl)); intro gb251 hg w11 hbox hb; replace HO_5 := aM (Kd.R_below (xR HO_5.out) hb); replace HO247 := aM (Kd.R_below (xR HO247.out) hb); replace HB := aM (below_step (xG1 HB.out (IsS75.ge HI0.out)) hb); have BK251 := aM (hbox); have GW251 := aM ((by rw [hg]; exact (keep_size (w := w) (g := g) (row := none) (xK0 HK.out)) : w.heap.size ≤ gb251)); have GE251 := aM ((Nat.le_trans HW0.out (by rw [hg]; exact (keep_size (w := w) (g := g) (row := none) (xK0 HK.out)) : w.heap.size ≤ gb251) : w0.heap.size ≤ gb251)); replace HK := aM (KeepBut.trans (xK0 HK.out) (KeepBut.of_below hb g none) (.inl rfl)); have NB0_251 := aM ((by rw [hg]; exact Nat.ne_of_lt (IsS75.lt (show IsS75 w0 _ g s0_0 t249 t250 from IsS75.x0 HI0.out)) : g ≠ gb251)); have NB251_0 := aM ((by rw [hg]; exact Nat.ne_of_gt (IsS75.lt (show IsS75 w0 _ g s0_0 t249 t250 from IsS75.x0 HI0.out)) : gb251 ≠ g)); replace HI0 := aM (IsS75.below (IsS75.x0 HI0.out) hb); clear hb hbox hg; obtain ⟨Ao12, co12, eo12⟩ := Kd.R_slice HO247.out; subst eo12; have hnb13 := NB251_0.out; have hnc13 := NB0_251.out; have hcz14_0 : w11.cell? ⟨gb251, 0, none⟩ = some (.slice none 0 0) := (bC BK251.out 0).trans rfl; have hcz14_1 : w11.cell? ⟨gb251, 1, none⟩ = some (.int .i64 0) := (bC BK251.out 1).trans rfl; have hfz14_0 := bF BK251.out 0; have hfz14_1 := bF BK251.out 1))
    (try simp only [Act.put, sA, sZ, sU])
    go_cut [35] (fun v35 wc => ∃ (kq : Nat) (x35_8 : Bool) (x1001_8 : Int) (x1002_8 : Int), v35 = .bool x35_8 ∧ Aside0 (spec_l1Cur_table.j1 kq a1 y242 x35_8 s0_0 x1001_8 x1002_8 t245 t248 = some (r1, r2, r3)) ∧ Aside0 (kq ≤ kj2) ∧ Aside0 (Kd.R (Kd.int .i64) 3 wc w.heap.size (fun k_ => some k_ ≠ ((.slice Ao12 t245.length co12) : Value).ownBlock) v243 y242) ∧ Aside0 (Kd.R (Kd.int .i64) 3 wc w.heap.size (fun k_ => some k_ ≠ (v243 : Value).ownBlock) (.slice Ao12 t245.length co12) t245) ∧ Aside0 (wc.heap[gb251]? = some (.cells #[(.slice Ao12 t245.length co12), .int .i64 t248] 26 (0, 0))) ∧ Aside0 (IsS75 w0 wc g s0_0 x1001_8 x1002_8) ∧ Aside0 (KeepBut w wc g none) ∧ Aside0 (Below w0.heap.size w0 wc))
    case first =>
     have H := HC9.out
     clear HC9
     by_cases c15 : a1 > 0
     ·
      rw [if_pos c15] at H
      have c15b0 : decide (0 < a1) = true := decide_eq_true c15
      clear c15
      (first | rw [c15b0] | (simp only [i64_w, i32_w]; rw [c15b0]) | skip)
      replace H := oB.mp H
      obtain ⟨t252, A160, H⟩ := H
      replace H : (if t252 = true then (if (t245.length : Int) = a1 then ((spec_l1Cur_one.f s0_0 t249 t250 2).bind fun bt253 => (spec_l1Cur_table.j1 kj2 a1 y242 bt253.1 s0_0 bt253.2.1 bt253.2.2 t245 t248)) else (spec_l1Cur_table.j1 kj2 a1 y242 false s0_0 t249 t250 t245 t248)) else (spec_l1Cur_table.j1 kj2 a1 y242 false s0_0 t249 t250 t245 t248)) = some (r1, r2, r3) := H
      have A16 := aM A160
      clear A160
      by_cases c17 : t252 = true
      ·
       subst c17
       have H1 : (if (t245.length : Int) = a1 then ((spec_l1Cur_one.f s0_0 t249 t250 2).bind fun bt253 => (spec_l1Cur_table.j1 kj2 a1 y242 bt253.1 s0_0 bt253.2.1 bt253.2.2 t245 t248)) else (spec_l1Cur_table.j1 kj2 a1 y242 false s0_0 t249 t250 t245 t248)) = some (r1, r2, r3) := by rw [if_pos rfl] at H; exact H
       clear H
       have H := H1
       clear H1
       by_cases c18 : (t245.length : Int) = a1
       ·
        rw [if_pos c18] at H
        have c18b0 : ((t245.length : Int) == a1) = true := beq_iff_eq.mpr c18
        have c18b1 : ((t245.length : Int) != a1) = false := bne_eq_false_iff_eq.mpr c18
        clear c18
        replace H := oB.mp H
        obtain ⟨⟨t253, t254, t255⟩, A190, H⟩ := H
        replace H : (spec_l1Cur_table.j1 kj2 a1 y242 t253 s0_0 t254 t255 t245 t248) = some (r1, r2, r3) := H
        have A19 := aM A190
        clear A190
        have H' := aM H
        clear H
        have hnb20 := NB251_0.out
        have hnc20 := NB0_251.out
        have hcz21_0 : w11.cell? ⟨gb251, 0, none⟩ = some (.slice none 0 0) := (bC BK251.out 0).trans rfl
        have hcz21_1 : w11.cell? ⟨gb251, 1, none⟩ = some (.int .i64 0) := (bC BK251.out 1).trans rfl
        have hfz21_0 := bF BK251.out 0
        have hfz21_1 := bF BK251.out 1
        go_wp2_with (first | (go_at_call 53; (with_reducible refine (spec_l2Plane.calls kj2 _ _ t245 t248 true _ ?side1 ?side2 A16.out).mono ?_); (case side1 => refine (Kd.R_reads' (e := 3) (base := w.heap.size) (ok := fun k_ => (True ∧ some k_ ≠ (v243 : Value).ownBlock)) (n := t245.length) (c := co12) ?_).2.2; exact (by (with_reducible repeat (first | apply rA | apply rN | apply rD)); exact (rM (Kd.R_far (p := ⟨gb251, 1, none⟩) (Kd.R_far (p := ⟨gb251, 0, none⟩) (Kd.R_types HO247.out BK251.out (by decide)) (fun _ hk => hk.2) (.slice Ao12 t245.length co12)) (fun _ hk => hk.2) (.int .i64 t248)) (fun _ h_ => h_.1)))); (case side2 => exact (Kd.R_reads' HO247.out).2.1); rintro e w22 ⟨rfl, hb⟩; replace HO_5 := aM (Kd.R_below (by (with_reducible repeat (first | apply rA | apply rN | apply rD)); exact (rM (Kd.R_far (p := ⟨gb251, 1, none⟩) (Kd.R_far (p := ⟨gb251, 0, none⟩) (Kd.R_types HO_5.out BK251.out (by decide)) (fun _ hk => hk.2) (.slice Ao12 t245.length co12)) (fun _ hk => hk.2) (.int .i64 t248)) (fun _ h_ => h_.1))) hb); replace HO247 := aM (Kd.R_below (by (with_reducible repeat (first | apply rA | apply rN | apply rD)); exact (rM (Kd.R_far (p := ⟨gb251, 1, none⟩) (Kd.R_far (p := ⟨gb251, 0, none⟩) (Kd.R_types HO247.out BK251.out (by decide)) (fun _ hk => hk.2) (.slice Ao12 t245.length co12)) (fun _ hk => hk.2) (.int .i64 t248)) (fun _ h_ => h_.1))) hb); replace BK251 := aM (bB (g := gb251) (o := .cells #[.slice Ao12 t245.length co12, .int .i64 t248] 26 (0, 0)) (by (with_reducible repeat (first | refine bN ?_ _ | refine bD ?_ | refine bA ?_ _)); refine blk_put (cs := #[.slice Ao12 t245.length co12, .int .i64 0]) ?_ 1 _ rfl; (with_reducible repeat (first | refine bN ?_ _ | refine bD ?_ | refine bA ?_ _)); refine blk_put (cs := #[.slice none 0 0, .int .i64 0]) ?_ 0 _ rfl; (with_reducible repeat (first | refine bN ?_ _ | refine bD ?_ | refine bA ?_ _)); exact BK251.out) hb); replace HK := aM (KeepBut.trans (xK1 HK.out GW251.out) (KeepBut.of_below hb g none) (.inl rfl)); replace HB := aM (below_step (xG2 HB.out (IsS75.ge HI0.out) GE251.out) hb); replace HI0 := aM (IsS75.below (show IsS75 w0 ((w11.setCell ⟨gb251, 0, none⟩ (.slice Ao12 t245.length co12)).setCell ⟨gb251, 1, none⟩ (.int .i64 t248)) g s0_0 t249 t250 from IsS75.x1 HI0.out NB0_251.out) hb); (try clear hb; try clear hb2; try clear hk; try clear hi); have hcz23_0 : w22.cell? ⟨gb251, 0, none⟩ = some (.slice Ao12 t245.length co12) := (bC BK251.out 0).trans rfl; have hcz23_1 : w22.cell? ⟨gb251, 1, none⟩ = some (.int .i64 t248) := (bC BK251.out 1).trans rfl; have hfz23_0 := bF BK251.out 0; have hfz23_1 := bF BK251.out 1) | (go_at_call 74; (with_reducible refine (spec_l1Cur_one.calls g s0_0 t249 t250 2 t253 t254 t255 w0 _ ?side1 ?side2 A19.out).mono ?_); (case side1 => exact IsS75.x1 HI0.out NB0_251.out); (case side2 => exact xG2 HB.out (IsS75.ge HI0.out) GE251.out); rintro e w24 ⟨rfl, hi, hb, hk⟩; replace HO_5 := aM (rM (Kd.R_keep (IsS75.apart (show IsS75 w0 _ g s0_0 t249 t250 from IsS75.x1 HI0.out NB0_251.out) (xR HO_5.out) (by decide)) hk (fun _ h => h.2)) (fun _ h => h.1)); replace HO247 := aM (rM (Kd.R_keep (IsS75.apart (show IsS75 w0 _ g s0_0 t249 t250 from IsS75.x1 HI0.out NB0_251.out) (xR HO247.out) (by decide)) hk (fun _ h => h.2)) (fun _ h => h.1)); replace BK251 := aM (KeepBut.blk hk (g' := gb251) (o := .cells #[.slice Ao12 t245.length co12, .int .i64 t248] 26 (0, 0)) (xB BK251.out) NB251_0.out (by simp)); replace HK := aM (KeepBut.trans (xK1 HK.out GW251.out) hk (.inl rfl)); replace HB := aM (hb); replace HI0 := aM (hi); (try clear hb; try clear hb2; try clear hk; try clear hi)))
        go_meet
        case rel => exact ⟨_, (t253), (t254), (t255), (by first | rfl | (simp; done) | (simp [*]; done)), H', ⟨by have := HJ2.out; first | omega | exact Nat.le_refl _⟩, ⟨by (with_reducible repeat (first | apply rA | apply rN | apply rD)); exact rM HO_5.out (fun _ hk => hk.2)⟩, ⟨by (with_reducible repeat (first | apply rA | apply rN | apply rD)); exact rM HO247.out (fun _ hk => by first | exact hk.2 | exact trivial)⟩, ⟨xB BK251.out⟩, ⟨IsS75.x1 HI0.out NB0_251.out⟩, ⟨xK1 HK.out GW251.out⟩, ⟨xG2 HB.out (IsS75.ge HI0.out) GE251.out⟩⟩
       ·
        rw [if_neg c18] at H
        have c18b0 : ((t245.length : Int) == a1) = false := beq_eq_false_iff_ne.mpr c18
        have c18b1 : ((t245.length : Int) != a1) = true := bne_iff_ne.mpr c18
        have H' := aM H
        clear H
        have hnb25 := NB251_0.out
        have hnc25 := NB0_251.out
        have hcz26_0 : w11.cell? ⟨gb251, 0, none⟩ = some (.slice none 0 0) := (bC BK251.out 0).trans rfl
        have hcz26_1 : w11.cell? ⟨gb251, 1, none⟩ = some (.int .i64 0) := (bC BK251.out 1).trans rfl
        have hfz26_0 := bF BK251.out 0
        have hfz26_1 := bF BK251.out 1
        go_wp2_with (first | (go_at_call 53; (with_reducible refine (spec_l2Plane.calls kj2 _ _ t245 t248 true _ ?side1 ?side2 A16.out).mono ?_); (case side1 => refine (Kd.R_reads' (e := 3) (base := w.heap.size) (ok := fun k_ => (True ∧ some k_ ≠ (v243 : Value).ownBlock)) (n := t245.length) (c := co12) ?_).2.2; exact (by (with_reducible repeat (first | apply rA | apply rN | apply rD)); exact (rM (Kd.R_far (p := ⟨gb251, 1, none⟩) (Kd.R_far (p := ⟨gb251, 0, none⟩) (Kd.R_types HO247.out BK251.out (by decide)) (fun _ hk => hk.2) (.slice Ao12 t245.length co12)) (fun _ hk => hk.2) (.int .i64 t248)) (fun _ h_ => h_.1)))); (case side2 => exact (Kd.R_reads' HO247.out).2.1); rintro e w27 ⟨rfl, hb⟩; replace HO_5 := aM (Kd.R_below (by (with_reducible repeat (first | apply rA | apply rN | apply rD)); exact (rM (Kd.R_far (p := ⟨gb251, 1, none⟩) (Kd.R_far (p := ⟨gb251, 0, none⟩) (Kd.R_types HO_5.out BK251.out (by decide)) (fun _ hk => hk.2) (.slice Ao12 t245.length co12)) (fun _ hk => hk.2) (.int .i64 t248)) (fun _ h_ => h_.1))) hb); replace HO247 := aM (Kd.R_below (by (with_reducible repeat (first | apply rA | apply rN | apply rD)); exact (rM (Kd.R_far (p := ⟨gb251, 1, none⟩) (Kd.R_far (p := ⟨gb251, 0, none⟩) (Kd.R_types HO247.out BK251.out (by decide)) (fun _ hk => hk.2) (.slice Ao12 t245.length co12)) (fun _ hk => hk.2) (.int .i64 t248)) (fun _ h_ => h_.1))) hb); replace BK251 := aM (bB (g := gb251) (o := .cells #[.slice Ao12 t245.length co12, .int .i64 t248] 26 (0, 0)) (by (with_reducible repeat (first | refine bN ?_ _ | refine bD ?_ | refine bA ?_ _)); refine blk_put (cs := #[.slice Ao12 t245.length co12, .int .i64 0]) ?_ 1 _ rfl; (with_reducible repeat (first | refine bN ?_ _ | refine bD ?_ | refine bA ?_ _)); refine blk_put (cs := #[.slice none 0 0, .int .i64 0]) ?_ 0 _ rfl; (with_reducible repeat (first | refine bN ?_ _ | refine bD ?_ | refine bA ?_ _)); exact BK251.out) hb); replace HK := aM (KeepBut.trans (xK1 HK.out GW251.out) (KeepBut.of_below hb g none) (.inl rfl)); replace HB := aM (below_step (xG2 HB.out (IsS75.ge HI0.out) GE251.out) hb); replace HI0 := aM (IsS75.below (show IsS75 w0 ((w11.setCell ⟨gb251, 0, none⟩ (.slice Ao12 t245.length co12)).setCell ⟨gb251, 1, none⟩ (.int .i64 t248)) g s0_0 t249 t250 from IsS75.x1 HI0.out NB0_251.out) hb); (try clear hb; try clear hb2; try clear hk; try clear hi); have hcz28_0 : w27.cell? ⟨gb251, 0, none⟩ = some (.slice Ao12 t245.length co12) := (bC BK251.out 0).trans rfl; have hcz28_1 : w27.cell? ⟨gb251, 1, none⟩ = some (.int .i64 t248) := (bC BK251.out 1).trans rfl; have hfz28_0 := bF BK251.out 0; have hfz28_1 := bF BK251.out 1))
        go_meet
        case rel => exact ⟨_, (false), (t249), (t250), (by first | rfl | (simp; done) | (simp [*]; done)), H', ⟨by have := HJ2.out; first | omega | exact Nat.le_refl _⟩, ⟨by (with_reducible repeat (first | apply rA | apply rN | apply rD)); exact rM HO_5.out (fun _ hk => hk.2)⟩, ⟨by (with_reducible repeat (first | apply rA | apply rN | apply rD)); exact rM HO247.out (fun _ hk => by first | exact hk.2 | exact trivial)⟩, ⟨xB BK251.out⟩, ⟨IsS75.x1 HI0.out NB0_251.out⟩, ⟨xK1 HK.out GW251.out⟩, ⟨xG2 HB.out (IsS75.ge HI0.out) GE251.out⟩⟩
      ·
       replace c17 := Bool.eq_false_iff.mpr c17
       subst c17
       have H1 : (spec_l1Cur_table.j1 kj2 a1 y242 false s0_0 t249 t250 t245 t248) = some (r1, r2, r3) := by rw [if_neg (show ¬ (false = true) by decide)] at H; exact H
       clear H
       have H := H1
       clear H1
       have H' := aM H
       clear H
       have hnb29 := NB251_0.out
       have hnc29 := NB0_251.out
       have hcz30_0 : w11.cell? ⟨gb251, 0, none⟩ = some (.slice none 0 0) := (bC BK251.out 0).trans rfl
       have hcz30_1 : w11.cell? ⟨gb251, 1, none⟩ = some (.int .i64 0) := (bC BK251.out 1).trans rfl
       have hfz30_0 := bF BK251.out 0
       have hfz30_1 := bF BK251.out 1
       go_wp2_with (first | (go_at_call 53; (with_reducible refine (spec_l2Plane.calls kj2 _ _ t245 t248 false _ ?side1 ?side2 A16.out).mono ?_); (case side1 => refine (Kd.R_reads' (e := 3) (base := w.heap.size) (ok := fun k_ => (True ∧ some k_ ≠ (v243 : Value).ownBlock)) (n := t245.length) (c := co12) ?_).2.2; exact (by (with_reducible repeat (first | apply rA | apply rN | apply rD)); exact (rM (Kd.R_far (p := ⟨gb251, 1, none⟩) (Kd.R_far (p := ⟨gb251, 0, none⟩) (Kd.R_types HO247.out BK251.out (by decide)) (fun _ hk => hk.2) (.slice Ao12 t245.length co12)) (fun _ hk => hk.2) (.int .i64 t248)) (fun _ h_ => h_.1)))); (case side2 => exact (Kd.R_reads' HO247.out).2.1); rintro e w31 ⟨rfl, hb⟩; replace HO_5 := aM (Kd.R_below (by (with_reducible repeat (first | apply rA | apply rN | apply rD)); exact (rM (Kd.R_far (p := ⟨gb251, 1, none⟩) (Kd.R_far (p := ⟨gb251, 0, none⟩) (Kd.R_types HO_5.out BK251.out (by decide)) (fun _ hk => hk.2) (.slice Ao12 t245.length co12)) (fun _ hk => hk.2) (.int .i64 t248)) (fun _ h_ => h_.1))) hb); replace HO247 := aM (Kd.R_below (by (with_reducible repeat (first | apply rA | apply rN | apply rD)); exact (rM (Kd.R_far (p := ⟨gb251, 1, none⟩) (Kd.R_far (p := ⟨gb251, 0, none⟩) (Kd.R_types HO247.out BK251.out (by decide)) (fun _ hk => hk.2) (.slice Ao12 t245.length co12)) (fun _ hk => hk.2) (.int .i64 t248)) (fun _ h_ => h_.1))) hb); replace BK251 := aM (bB (g := gb251) (o := .cells #[.slice Ao12 t245.length co12, .int .i64 t248] 26 (0, 0)) (by (with_reducible repeat (first | refine bN ?_ _ | refine bD ?_ | refine bA ?_ _)); refine blk_put (cs := #[.slice Ao12 t245.length co12, .int .i64 0]) ?_ 1 _ rfl; (with_reducible repeat (first | refine bN ?_ _ | refine bD ?_ | refine bA ?_ _)); refine blk_put (cs := #[.slice none 0 0, .int .i64 0]) ?_ 0 _ rfl; (with_reducible repeat (first | refine bN ?_ _ | refine bD ?_ | refine bA ?_ _)); exact BK251.out) hb); replace HK := aM (KeepBut.trans (xK1 HK.out GW251.out) (KeepBut.of_below hb g none) (.inl rfl)); replace HB := aM (below_step (xG2 HB.out (IsS75.ge HI0.out) GE251.out) hb); replace HI0 := aM (IsS75.below (show IsS75 w0 ((w11.setCell ⟨gb251, 0, none⟩ (.slice Ao12 t245.length co12)).setCell ⟨gb251, 1, none⟩ (.int .i64 t248)) g s0_0 t249 t250 from IsS75.x1 HI0.out NB0_251.out) hb); (try clear hb; try clear hb2; try clear hk; try clear hi)))
       go_meet
       case rel => exact ⟨_, (false), (t249), (t250), (by first | rfl | (simp; done) | (simp [*]; done)), H', ⟨by have := HJ2.out; first | omega | exact Nat.le_refl _⟩, ⟨by (with_reducible repeat (first | apply rA | apply rN | apply rD)); exact rM HO_5.out (fun _ hk => hk.2)⟩, ⟨by (with_reducible repeat (first | apply rA | apply rN | apply rD)); exact rM HO247.out (fun _ hk => by first | exact hk.2 | exact trivial)⟩, ⟨xB BK251.out⟩, ⟨IsS75.x1 HI0.out NB0_251.out⟩, ⟨xK1 HK.out GW251.out⟩, ⟨xG2 HB.out (IsS75.ge HI0.out) GE251.out⟩⟩
     ·
      rw [if_neg c15] at H
      have c15b0 : decide (0 < a1) = false := decide_eq_false c15
      clear c15
      (first | rw [c15b0] | (simp only [i64_w, i32_w]; rw [c15b0]) | skip)
      have H' := aM H
      clear H
      go_wp2
      go_meet
      case rel => exact ⟨_, (false), (t249), (t250), (by first | rfl | (simp; done) | (simp [*]; done)), H', ⟨by have := HJ2.out; first | omega | exact Nat.le_refl _⟩, ⟨by (with_reducible repeat (first | apply rA | apply rN | apply rD)); exact rM (Kd.R_far (p := ⟨gb251, 1, none⟩) (Kd.R_far (p := ⟨gb251, 0, none⟩) (Kd.R_types HO_5.out BK251.out (by decide)) (fun _ hk => hk.2) (.slice Ao12 t245.length co12)) (fun _ hk => hk.2) (.int .i64 t248)) (fun _ hk => hk.1.2)⟩, ⟨by (with_reducible repeat (first | apply rA | apply rN | apply rD)); exact rM (Kd.R_far (p := ⟨gb251, 1, none⟩) (Kd.R_far (p := ⟨gb251, 0, none⟩) (Kd.R_types HO247.out BK251.out (by decide)) (fun _ hk => hk.2) (.slice Ao12 t245.length co12)) (fun _ hk => hk.2) (.int .i64 t248)) (fun _ hk => hk.1.2)⟩, ⟨by (with_reducible repeat (first | refine bN ?_ _ | refine bD ?_ | refine bA ?_ _)); refine blk_put (cs := #[.slice Ao12 t245.length co12, .int .i64 0]) ?_ 1 _ rfl; (with_reducible repeat (first | refine bN ?_ _ | refine bD ?_ | refine bA ?_ _)); refine blk_put (cs := #[.slice none 0 0, .int .i64 0]) ?_ 0 _ rfl; (with_reducible repeat (first | refine bN ?_ _ | refine bD ?_ | refine bA ?_ _)); exact BK251.out⟩, ⟨IsS75.x1 HI0.out NB0_251.out⟩, ⟨xK1 HK.out GW251.out⟩, ⟨xG2 HB.out (IsS75.ge HI0.out) GE251.out⟩⟩
    case rest =>
     clear HC9
     try clear c1; try clear c2; try clear p2; try clear c5; try clear c6; try clear c6b0; try clear c7; try clear c10; try clear c13; try clear c15; try clear c15b0; try clear c17; try clear c18; try clear c18b0; try clear c18b1; try clear c20; try clear c25; try clear c29; try clear hcz14_0; try clear hcz14_1; try clear hcz21_0; try clear hcz21_1; try clear hcz23_0; try clear hcz23_1; try clear hcz26_0; try clear hcz26_1; try clear hcz28_0; try clear hcz28_1; try clear hcz30_0; try clear hcz30_1; try clear hfz14_0; try clear hfz14_1; try clear hfz21_0; try clear hfz21_1; try clear hfz23_0; try clear hfz23_1; try clear hfz26_0; try clear hfz26_1; try clear hfz28_0; try clear hfz28_1; try clear hfz30_0; try clear hfz30_1; try clear p2
     obtain ⟨kq, x35_8, x1001_8, x1002_8, rfl, HA, HJ8, HO_5, HO_252000, BK251, HI0, HK, HB⟩ := hcut
     cases kq with
     | zero => exact absurd HA.out (by simp [spec_l1Cur_table.j1])
     | succ kj8 =>
      have H := HA.out
      clear HA
      simp only [spec_l1Cur_table.j1] at H
      have HC32 := aM H
      clear H
      go_upto_if 35 with (fail)
      go_cut [5] (fun v5 wc => ∃ (kq : Nat) (x5_31 : List Int) (x1001_31 : Int) (x1002_31 : Int), Aside0 (spec_l1Cur_table.j3 kq x5_31 s0_0 x1001_31 x1002_31 = some (r1, r2, r3)) ∧ Aside0 (kq ≤ kj8) ∧ Aside0 (Kd.R (Kd.int .i64) 3 wc w.heap.size (fun k_ => some k_ ≠ ((.slice Ao12 t245.length co12) : Value).ownBlock) v5 x5_31) ∧ Aside0 (Kd.R (Kd.int .i64) 3 wc w.heap.size (fun k_ => some k_ ≠ (v5 : Value).ownBlock) (.slice Ao12 t245.length co12) t245) ∧ Aside0 (wc.heap[gb251]? = some (.cells #[(.slice Ao12 t245.length co12), .int .i64 t248] 26 (0, 0))) ∧ Aside0 (IsS75 w0 wc g s0_0 x1001_31 x1002_31) ∧ Aside0 (KeepBut w wc g none) ∧ Aside0 (Below w0.heap.size w0 wc))
      case first =>
       have H := HC32.out
       clear HC32
       by_cases c33 : x35_8 = true
       ·
        subst c33
        have H1 : ((spec_l2TableOf.f kj8 a1 t245 t248).bind fun t256 => (spec_l1Cur_table.j3 kj8 t256 s0_0 x1001_8 x1002_8)) = some (r1, r2, r3) := by rw [if_pos rfl] at H; exact H
        clear H
        have H := H1
        clear H1
        replace H := oB.mp H
        obtain ⟨t256, A340, H⟩ := H
        replace H : (spec_l1Cur_table.j3 kj8 t256 s0_0 x1001_8 x1002_8) = some (r1, r2, r3) := H
        have A34 := aM A340
        clear A340
        have H' := aM H
        clear H
        have hnb35 := NB251_0.out
        have hnc35 := NB0_251.out
        have hcz36_0 : wc.cell? ⟨gb251, 0, none⟩ = some (.slice Ao12 t245.length co12) := (bC BK251.out 0).trans rfl
        have hcz36_1 : wc.cell? ⟨gb251, 1, none⟩ = some (.int .i64 t248) := (bC BK251.out 1).trans rfl
        have hfz36_0 := bF BK251.out 0
        have hfz36_1 := bF BK251.out 1
        go_wp2_with (first | ((with_reducible refine gate_callee (f := 54) rfl ?_); refine goesL_ (some 38) rfl rfl Try.func54 (by kernel_rfl) rfl #[.int .i64 a1, .agg #[.slice Ao12 t245.length co12, .int .i64 t248]] rfl xL ?_; (with_reducible refine (spec_l2TableOf.calls kj8 a1 _ _ t245 t248 t256 _ ?side1 ?side2 A34.out).mono ?_); (case side1 => exact xC (Kd.R_reads' HO_252000.out).2.2); (case side2 => exact (Kd.R_reads' HO_252000.out).2.1); rintro e w37 ⟨v257, rfl, ho0, hb⟩; refine ⟨_, rfl, ?_⟩; have HO258 := aM (Kd.R_lower (Kd.R_new' (Kd.R_new' ho0 (Kd.R_lt (xR HO_5.out))) (Kd.R_lt (xR HO_252000.out))) (keep_size (w := w) (g := g) (row := none) (xK1 HK.out GW251.out))); replace HO_5 := aM (Kd.R_elder' (xR HO_5.out) (Kd.R_base ho0) hb); replace HO_252000 := aM (Kd.R_elder' (xR HO_252000.out) (Kd.R_base ho0) hb); replace BK251 := aM (bB (g := gb251) (o := .cells #[.slice Ao12 t245.length co12, .int .i64 t248] 26 (0, 0)) (xB BK251.out) hb); replace HK := aM (KeepBut.trans (xK1 HK.out GW251.out) (KeepBut.of_below hb g none) (.inl rfl)); replace HB := aM (below_step (xG2 HB.out (IsS75.ge HI0.out) GE251.out) hb); replace HI0 := aM (IsS75.below (IsS75.x1 HI0.out NB0_251.out) hb); (try clear hb; try clear hb2; try clear hk; try clear hi; try clear ho0)))
        go_meet
        case rel => exact ⟨_, (t256), (x1001_8), (x1002_8), H', ⟨by have := HJ2.out; have := HJ8.out; first | omega | exact Nat.le_refl _⟩, ⟨by (with_reducible repeat (first | apply rA | apply rN | apply rD)); exact rM HO258.out (fun _ hk => by first | exact hk.2 | exact trivial)⟩, ⟨by (with_reducible repeat (first | apply rA | apply rN | apply rD)); exact rM HO_252000.out (fun _ hk => hk.2)⟩, ⟨xB BK251.out⟩, ⟨IsS75.x1 HI0.out NB0_251.out⟩, ⟨xK1 HK.out GW251.out⟩, ⟨xG2 HB.out (IsS75.ge HI0.out) GE251.out⟩⟩
       ·
        replace c33 := Bool.eq_false_iff.mpr c33
        subst c33
        have H1 : (spec_l1Cur_table.l0 kj8 a1 y242 0 s0_0 x1001_8 x1002_8) = some (r1, r2, r3) := by rw [if_neg (show ¬ (false = true) by decide)] at H; exact H
        clear H
        have H := H1
        clear H1
        have H' := aM H
        clear H
        go_wp2
        go_loopg [5, 7] kj8 (fun kq v5 v7 w' => ∃ (x5_3 : List Int) (x7_3 : Int) (x1001_3 : Int) (x1002_3 : Int), v7 = .int .i64 x7_3 ∧ Aside0 (spec_l1Cur_table.l0 kq a1 x5_3 x7_3 s0_0 x1001_3 x1002_3 = some (r1, r2, r3)) ∧ Aside0 (kq ≤ kj8) ∧ Aside0 (Kd.R (Kd.int .i64) 3 w' w.heap.size (fun k_ => some k_ ≠ ((.slice Ao12 t245.length co12) : Value).ownBlock) v5 x5_3) ∧ Aside0 (Kd.R (Kd.int .i64) 3 w' w.heap.size (fun k_ => some k_ ≠ (v5 : Value).ownBlock) (.slice Ao12 t245.length co12) t245) ∧ Aside0 (w'.heap[gb251]? = some (.cells #[(.slice Ao12 t245.length co12), .int .i64 t248] 26 (0, 0))) ∧ Aside0 (IsS75 w0 w' g s0_0 x1001_3 x1002_3) ∧ Aside0 (KeepBut w w' g none) ∧ Aside0 (Below w0.heap.size w0 w'))
        case atStart => exact ⟨(y242), (0), (x1001_8), (x1002_8), (by first | rfl | (simp; done) | (simp [*]; done)), H', ⟨Nat.le_refl _⟩, ⟨xR HO_5.out⟩, ⟨xR HO_252000.out⟩, ⟨xB BK251.out⟩, ⟨IsS75.x1 HI0.out NB0_251.out⟩, ⟨xK1 HK.out GW251.out⟩, ⟨xG2 HB.out (IsS75.ge HI0.out) GE251.out⟩⟩
        case round =>
         clear H'
         try clear c1; try clear c2; try clear p2; try clear c3; try clear c5; try clear c6; try clear c6b0; try clear c7; try clear c10; try clear c13; try clear c15; try clear c15b0; try clear c17; try clear c18; try clear c18b0; try clear c18b1; try clear c20; try clear c25; try clear c29; try clear c33; try clear c35; try clear hcz14_0; try clear hcz14_1; try clear hcz21_0; try clear hcz21_1; try clear hcz23_0; try clear hcz23_1; try clear hcz26_0; try clear hcz26_1; try clear hcz28_0; try clear hcz28_1; try clear hcz30_0; try clear hcz30_1; try clear hcz36_0; try clear hcz36_1; try clear hfz14_0; try clear hfz14_1; try clear hfz21_0; try clear hfz21_1; try clear hfz23_0; try clear hfz23_1; try clear hfz26_0; try clear hfz26_1; try clear hfz28_0; try clear hfz28_1; try clear hfz30_0; try clear hfz30_1; try clear hfz36_0; try clear hfz36_1; try clear p2
         obtain ⟨x5_3, x7_3, x1001_3, x1002_3, rfl, HA, HK3, HO_5, HO_252000, BK251, HI0, HK, HB⟩ := hrel
         cases gk with
         | zero => exact absurd HA.out (by simp [spec_l1Cur_table.l0])
         | succ k3 =>
          have H := HA.out
          clear HA
          simp only [spec_l1Cur_table.l0] at H
          by_cases c38 : 0 ≤ a1
          ·
           rw [if_pos c38] at H
           have c38b0 := eq_true c38
           have c38b1 : decide (0 ≤ a1) = true := decide_eq_true c38
           clear c38
           obtain ⟨ji39, hji39⟩ : ∃ j_ : Int, (shl .i64 1 a1) = j_ := ⟨_, rfl⟩
           replace H : (if x7_3 < (ji39) then ((spec_l1Cur_pick.f s0_0 x1001_3 x1002_3 2).bind fun bt259 => (if x5_3.length < 17592186044416 then (spec_l1Cur_table.l0 k3 a1 (x5_3 ++ [bt259.1]) (wrap64 (x7_3 + 1)) s0_0 bt259.2.1 bt259.2.2) else (none))) else (spec_l1Cur_table.j3 k3 x5_3 s0_0 x1001_3 x1002_3)) = some (r1, r2, r3) := by first | (rw [hji39] at H; exact H) | (simp only [hji39] at H ⊢; exact H)
           have hji39_ : (IntKind.i64.wrap (1 * 2 ^ min a1.toNat 64)) = ji39 := hji39
           have hji39z : a1 ≤ 64 → (IntKind.i64.wrap (1 * 2 ^ a1.toNat)) = ji39 := shl_small hji39
           have hji39u : (IntKind.i64.wrap (2 ^ min a1.toNat 64)) = ji39 := by have h_ := hji39_; rw [Int.one_mul] at h_; exact h_
           have hji39v : a1 ≤ 64 → (IntKind.i64.wrap (2 ^ a1.toNat)) = ji39 := fun hle_ => by have h_ := hji39z hle_; rw [Int.one_mul] at h_; exact h_
           have hji39y : (wrap64 (1 * 2 ^ min a1.toNat 64)) = ji39 := (i64_w _).symm.trans hji39_
           have hji39x : a1 ≤ 64 → (wrap64 (1 * 2 ^ a1.toNat)) = ji39 := fun h_ => (i64_w _).symm.trans (hji39z h_)
           by_cases c40 : x7_3 < (ji39)
           ·
            rw [if_pos c40] at H
            have c40b0 : decide (x7_3 < (ji39)) = true := decide_eq_true c40
            clear c40
            (first | rw [c40b0] | (simp only [i64_w, i32_w]; rw [c40b0]) | skip)
            replace H := oB.mp H
            obtain ⟨⟨t259, t260, t261⟩, A410, H⟩ := H
            replace H : (if x5_3.length < 17592186044416 then (spec_l1Cur_table.l0 k3 a1 (x5_3 ++ [t259]) (wrap64 (x7_3 + 1)) s0_0 t260 t261) else (none)) = some (r1, r2, r3) := H
            have A41 := aM A410
            clear A410
            by_cases c42 : x5_3.length < 17592186044416
            ·
             rw [if_pos c42] at H
             have LMc42 := aM c42
             clear c42
             obtain ⟨y262, hy262⟩ : ∃ y_ : List Int, y_ = (x5_3 ++ [t259]) := ⟨_, rfl⟩
             replace H : (spec_l1Cur_table.l0 k3 a1 y262 (wrap64 (x7_3 + 1)) s0_0 t260 t261) = some (r1, r2, r3) := by first | (rw [hy262]; with_reducible exact H) | (have H2_ := (Option.bind_some _ _).symm.trans H; rw [hy262]; with_reducible exact H2_) | (have H2_ := (Option.bind_some _ _).symm.trans H; with_reducible exact H2_) | with_reducible exact H | (rw [hy262]; exact H) | exact H
             have Ny262 := aM hy262
             clear hy262
             have H' := aM H
             clear H
             go_wp2_with (first | ((with_reducible refine gate_callee (f := 108) rfl ?_); refine goesL_ (some 47) rfl rfl Try.func108 (by kernel_rfl) rfl #[.pointer (some ⟨g, 0, none⟩), .int .i64 2] rfl xL ?_; (with_reducible refine (spec_l1Cur_pick.calls g s0_0 x1001_3 x1002_3 2 t259 t260 t261 w0 _ ?side1 ?side2 A41.out).mono ?_); (case side1 => exact IsS75.x1 HI0.out NB0_251.out); (case side2 => exact xG2 HB.out (IsS75.ge HI0.out) GE251.out); rintro e w43 ⟨rfl, hi, hb, hk⟩; refine ⟨_, rfl, ?_⟩; replace HO_5 := aM (rM (Kd.R_keep (IsS75.apart (show IsS75 w0 _ g s0_0 x1001_3 x1002_3 from IsS75.x1 HI0.out NB0_251.out) (xR HO_5.out) (by decide)) hk (fun _ h => h.2)) (fun _ h => h.1)); replace HO_252000 := aM (rM (Kd.R_keep (IsS75.apart (show IsS75 w0 _ g s0_0 x1001_3 x1002_3 from IsS75.x1 HI0.out NB0_251.out) (xR HO_252000.out) (by decide)) hk (fun _ h => h.2)) (fun _ h => h.1)); replace BK251 := aM (KeepBut.blk hk (g' := gb251) (o := .cells #[.slice Ao12 t245.length co12, .int .i64 t248] 26 (0, 0)) (xB BK251.out) NB251_0.out (by simp)); replace HK := aM (KeepBut.trans (xK1 HK.out GW251.out) hk (.inl rfl)); replace HB := aM (hb); replace HI0 := aM (hi); (try clear hb; try clear hb2; try clear hk; try clear hi)) | ((with_reducible refine gate_builtin (b := .append) (xs := #[.tmp 45, .tmp 48]) rfl ?_); (try (refine gate_guard (by rfl) ?_; dsimp only)); at_builtin; refine Kd.R_append (Kd.int .i64) w.heap.size rfl (.tmp 45) (.tmp 48) 24 3 (.int .i64 0) 8 rfl Try.underlying24 info3 rfl (by decide) (by omega) u5 x5_3 t259 [.int .i64 t259] (fun k_ => some k_ ≠ (.slice Ao12 t245.length co12 : Value).ownBlock) (fun _ => False) rfl rfl ?aP (fun _ hk => hk.elim) ?aF ?aO (Below.refl _ _) ?aS ?aL ?_; (case aP => exact rfl); (case aF => exact (fun k_ hk => Kd.fresh' (Kd.R_lt (xR HO_252000.out)) k_ hk)); (case aO => exact (xR HO_5.out)); (case aS => exact (keep_size (w := w) (g := g) (row := none) (xK1 HK.out GW251.out))); (case aL => have := LMc42.out; omega); intro v263 w44 ho hb hg hat; rw [← Ny262.out] at ho; replace HO_252000 := aM (Kd.R_after (ok := (fun _ => True)) (by (with_reducible repeat (first | apply rA | apply rN | apply rD)); exact rM HO_252000.out (fun _ hk => ⟨trivial, hk⟩)) hg hat); replace BK251 := aM (blk_grown (g := gb251) (o := .cells #[.slice Ao12 t245.length co12, .int .i64 t248] 26 (0, 0)) (xB BK251.out) hg (Kd.R_ne HO_5.out BK251.out (by decide))); replace HB := aM (below_weaken (xG2 HB.out (IsS75.ge HI0.out) GE251.out) HL.out hb); replace HI0 := aM (IsS75.grown (IsS75.x1 HI0.out NB0_251.out) hg (IsS75.own_ne HI0.out HO_5.out (by decide))); replace HK := aM (KeepBut.trans (xK1 HK.out GW251.out) (KeepBut.of_grown hg g) (Kd.R_base2 HO_5.out)); have HO264 := aM (ho); clear HO_5; clear ho hb hg hat))
             go_roundg k3
             case measure => have := HJ2.out; have := HJ8.out; have := HK3.out; omega
             case rel => exact ⟨(y262), (wrap64 (x7_3 + 1)), (t260), (t261), (by first | rfl | (simp; done) | (simp [*]; done)), H', ⟨by have := HJ2.out; have := HJ8.out; have := HK3.out; omega⟩, ⟨xR HO264.out⟩, ⟨by (with_reducible repeat (first | apply rA | apply rN | apply rD)); exact rM HO_252000.out (fun _ hk => hk.2)⟩, ⟨xB BK251.out⟩, ⟨IsS75.x1 HI0.out NB0_251.out⟩, ⟨xK1 HK.out GW251.out⟩, ⟨xG2 HB.out (IsS75.ge HI0.out) GE251.out⟩⟩
            ·
             rw [if_neg c42] at H
             exact absurd H (by simp)
           ·
            rw [if_neg c40] at H
            have c40b0 : decide (x7_3 < (ji39)) = false := decide_eq_false c40
            clear c40
            (first | rw [c40b0] | (simp only [i64_w, i32_w]; rw [c40b0]) | skip)
            have H' := aM H
            clear H
            go_wp2
            (try subst hji39)
            go_meet
            case rel => exact ⟨_, (x5_3), (x1001_3), (x1002_3), H', ⟨by have := HJ2.out; have := HJ8.out; have := HK3.out; first | omega | exact Nat.le_refl _⟩, ⟨xR HO_5.out⟩, ⟨xR HO_252000.out⟩, ⟨xB BK251.out⟩, ⟨IsS75.x1 HI0.out NB0_251.out⟩, ⟨xK1 HK.out GW251.out⟩, ⟨xG2 HB.out (IsS75.ge HI0.out) GE251.out⟩⟩
          ·
           rw [if_neg c38] at H
           exact absurd H (by simp)
      case rest =>
       clear HC32
       try clear c1; try clear c2; try clear p2; try clear c3; try clear c4; try clear c5; try clear c6; try clear c6b0; try clear p6; try clear c7; try clear c10; try clear c13; try clear c15; try clear c15b0; try clear c17; try clear c18; try clear c18b0; try clear c18b1; try clear c20; try clear c25; try clear c29; try clear c33; try clear c35; try clear c38; try clear c38b0; try clear c38b1; try clear c40; try clear c40b0; try clear c42; try clear hcz14_0; try clear hcz14_1; try clear hcz21_0; try clear hcz21_1; try clear hcz23_0; try clear hcz23_1; try clear hcz26_0; try clear hcz26_1; try clear hcz28_0; try clear hcz28_1; try clear hcz30_0; try clear hcz30_1; try clear hcz36_0; try clear hcz36_1; try clear hfz14_0; try clear hfz14_1; try clear hfz21_0; try clear hfz21_1; try clear hfz23_0; try clear hfz23_1; try clear hfz26_0; try clear hfz26_1; try clear hfz28_0; try clear hfz28_1; try clear hfz30_0; try clear hfz30_1; try clear hfz36_0; try clear hfz36_1; try clear p2
       obtain ⟨kq, x5_31, x1001_31, x1002_31, HA, HJ31, HO_5, HO_252000, BK251, HI0, HK, HB⟩ := hcut
       cases kq with
       | zero => exact absurd HA.out (by simp [spec_l1Cur_table.j3])
       | succ kj31 =>
        have H := HA.out
        clear HA
        simp only [spec_l1Cur_table.j3] at H
        replace H := oB.mp H
        obtain ⟨⟨t265, t266, t267⟩, A450, H⟩ := H
        replace H : (if t265 = true then ((spec_l1Cur_pick.f s0_0 t266 t267 (x5_31.length : Int)).bind fun bt268 => ((spec_l1Cur_among.f s0_0 bt268.2.1 bt268.2.2 (([2, (-1)] : List Int))).bind fun bt274 => (if 0 ≤ bt268.1 then (if bt268.1 < (x5_31.length : Int) then ((some (x5_31.set (bt268.1 : Int).toNat bt274.1 : List Int)).bind fun y277 => ((spec_l1Cur_one.f s0_0 bt274.2.1 bt274.2.2 40).bind fun bt278 => (if bt278.1 = true then (if y277.length < 17592186044416 then (some ((y277 ++ [0]), bt278.2.1, bt278.2.2)) else (none)) else (some (y277, bt278.2.1, bt278.2.2))))) else (none)) else (none)))) else ((spec_l1Cur_one.f s0_0 t266 t267 40).bind fun bt284 => (if bt284.1 = true then (if x5_31.length < 17592186044416 then (some ((x5_31 ++ [0]), bt284.2.1, bt284.2.2)) else (none)) else (some (x5_31, bt284.2.1, bt284.2.2))))) = some (r1, r2, r3) := H
        have A45 := aM A450
        clear A450
        by_cases c46 : t265 = true
        ·
         subst c46
         have H1 : ((spec_l1Cur_pick.f s0_0 t266 t267 (x5_31.length : Int)).bind fun bt268 => ((spec_l1Cur_among.f s0_0 bt268.2.1 bt268.2.2 (([2, (-1)] : List Int))).bind fun bt274 => (if 0 ≤ bt268.1 then (if bt268.1 < (x5_31.length : Int) then ((some (x5_31.set (bt268.1 : Int).toNat bt274.1 : List Int)).bind fun y277 => ((spec_l1Cur_one.f s0_0 bt274.2.1 bt274.2.2 40).bind fun bt278 => (if bt278.1 = true then (if y277.length < 17592186044416 then (some ((y277 ++ [0]), bt278.2.1, bt278.2.2)) else (none)) else (some (y277, bt278.2.1, bt278.2.2))))) else (none)) else (none)))) = some (r1, r2, r3) := by rw [if_pos rfl] at H; exact H
         clear H
         have H := H1
         clear H1
         replace H := oB.mp H
         obtain ⟨⟨t268, t269, t270⟩, A470, H⟩ := H
         replace H : ((spec_l1Cur_among.f s0_0 t269 t270 (([2, (-1)] : List Int))).bind fun bt274 => (if 0 ≤ t268 then (if t268 < (x5_31.length : Int) then ((some (x5_31.set (t268 : Int).toNat bt274.1 : List Int)).bind fun y277 => ((spec_l1Cur_one.f s0_0 bt274.2.1 bt274.2.2 40).bind fun bt278 => (if bt278.1 = true then (if y277.length < 17592186044416 then (some ((y277 ++ [0]), bt278.2.1, bt278.2.2)) else (none)) else (some (y277, bt278.2.1, bt278.2.2))))) else (none)) else (none))) = some (r1, r2, r3) := H
         have A47 := aM A470
         clear A470
         obtain ⟨y271, hy271⟩ : ∃ y_ : List Int, y_ = (([2, (-1)] : List Int)) := ⟨_, rfl⟩
         replace H : ((spec_l1Cur_among.f s0_0 t269 t270 y271).bind fun bt274 => (if 0 ≤ t268 then (if t268 < (x5_31.length : Int) then ((some (x5_31.set (t268 : Int).toNat bt274.1 : List Int)).bind fun y277 => ((spec_l1Cur_one.f s0_0 bt274.2.1 bt274.2.2 40).bind fun bt278 => (if bt278.1 = true then (if y277.length < 17592186044416 then (some ((y277 ++ [0]), bt278.2.1, bt278.2.2)) else (none)) else (some (y277, bt278.2.1, bt278.2.2))))) else (none)) else (none))) = some (r1, r2, r3) := by first | (rw [hy271]; with_reducible exact H) | (have H2_ := (Option.bind_some _ _).symm.trans H; rw [hy271]; with_reducible exact H2_) | (have H2_ := (Option.bind_some _ _).symm.trans H; with_reducible exact H2_) | with_reducible exact H | (rw [hy271]; exact H) | exact H
         have Ny271 := aM hy271
         clear hy271
         replace H := oB.mp H
         obtain ⟨⟨t274, t275, t276⟩, A480, H⟩ := H
         replace H : (if 0 ≤ t268 then (if t268 < (x5_31.length : Int) then ((some (x5_31.set (t268 : Int).toNat t274 : List Int)).bind fun y277 => ((spec_l1Cur_one.f s0_0 t275 t276 40).bind fun bt278 => (if bt278.1 = true then (if y277.length < 17592186044416 then (some ((y277 ++ [0]), bt278.2.1, bt278.2.2)) else (none)) else (some (y277, bt278.2.1, bt278.2.2))))) else (none)) else (none)) = some (r1, r2, r3) := H
         have A48 := aM A480
         clear A480
         by_cases c49 : 0 ≤ t268
         ·
          rw [if_pos c49] at H
          have c49b0 : decide (0 ≤ t268) = true := decide_eq_true c49
          clear c49
          by_cases c50 : t268 < (x5_31.length : Int)
          ·
           rw [if_pos c50] at H
           have c50b0 : decide (t268 < (x5_31.length : Int)) = true := decide_eq_true c50
           clear c50
           obtain ⟨y277, hy277⟩ : ∃ y_ : List Int, y_ = (x5_31.set (t268 : Int).toNat t274) := ⟨_, rfl⟩
           replace H : ((spec_l1Cur_one.f s0_0 t275 t276 40).bind fun bt278 => (if bt278.1 = true then (if y277.length < 17592186044416 then (some ((y277 ++ [0]), bt278.2.1, bt278.2.2)) else (none)) else (some (y277, bt278.2.1, bt278.2.2)))) = some (r1, r2, r3) := by first | (rw [hy277]; with_reducible exact H) | (have H2_ := (Option.bind_some _ _).symm.trans H; rw [hy277]; with_reducible exact H2_) | (have H2_ := (Option.bind_some _ _).symm.trans H; with_reducible exact H2_) | with_reducible exact H | (rw [hy277]; exact H) | exact H
           have Ny277 := aM hy277
           clear hy277
           replace H := oB.mp H
           obtain ⟨⟨t278, t279, t280⟩, A520, H⟩ := H
           replace H : (if t278 = true then (if y277.length < 17592186044416 then (some ((y277 ++ [0]), t279, t280)) else (none)) else (some (y277, t279, t280))) = some (r1, r2, r3) := H
           have A52 := aM A520
           clear A520
           by_cases c53 : t278 = true
           ·
            subst c53
            have H1 : (if y277.length < 17592186044416 then (some ((y277 ++ [0]), t279, t280)) else (none)) = some (r1, r2, r3) := by rw [if_pos rfl] at H; exact H
            clear H
            have H := H1
            clear H1
            by_cases c54 : y277.length < 17592186044416
            ·
             rw [if_pos c54] at H
             have LMc54 := aM c54
             clear c54
             obtain ⟨y281, hy281⟩ : ∃ y_ : List Int, y_ = (y277 ++ [0]) := ⟨_, rfl⟩
             replace H : (some (y281, t279, t280)) = some (r1, r2, r3) := by first | (rw [hy281]; with_reducible exact H) | (have H2_ := (Option.bind_some _ _).symm.trans H; rw [hy281]; with_reducible exact H2_) | (have H2_ := (Option.bind_some _ _).symm.trans H; with_reducible exact H2_) | with_reducible exact H | (rw [hy281]; exact H) | exact H
             have Ny281 := aM hy281
             clear hy281
             simp only [Option.some.injEq, Prod.mk.injEq] at H
             obtain ⟨rfl, rfl, rfl⟩ := H
             go_wp2_with (first | ((with_reducible refine gate_callee (f := 74) rfl ?_); refine goesL_ (some 51) rfl rfl Try.func74 (by kernel_rfl) rfl #[.pointer (some ⟨g, 0, none⟩), .int .i64 40] rfl xL ?_; (with_reducible refine (spec_l1Cur_one.calls g s0_0 x1001_31 x1002_31 40 true t266 t267 w0 _ ?side1 ?side2 A45.out).mono ?_); (case side1 => exact IsS75.x1 HI0.out NB0_251.out); (case side2 => exact xG2 HB.out (IsS75.ge HI0.out) GE251.out); rintro e w55 ⟨rfl, hi, hb, hk⟩; refine ⟨_, rfl, ?_⟩; replace HO_5 := aM (rM (Kd.R_keep (IsS75.apart (show IsS75 w0 _ g s0_0 x1001_31 x1002_31 from IsS75.x1 HI0.out NB0_251.out) (xR HO_5.out) (by decide)) hk (fun _ h => h.2)) (fun _ h => h.1)); replace HO_252000 := aM (rM (Kd.R_keep (IsS75.apart (show IsS75 w0 _ g s0_0 x1001_31 x1002_31 from IsS75.x1 HI0.out NB0_251.out) (xR HO_252000.out) (by decide)) hk (fun _ h => h.2)) (fun _ h => h.1)); replace BK251 := aM (KeepBut.blk hk (g' := gb251) (o := .cells #[.slice Ao12 t245.length co12, .int .i64 t248] 26 (0, 0)) (xB BK251.out) NB251_0.out (by simp)); replace HK := aM (KeepBut.trans (xK1 HK.out GW251.out) hk (.inl rfl)); replace HB := aM (hb); replace HI0 := aM (hi); (try clear hb; try clear hb2; try clear hk; try clear hi); obtain ⟨Ao56, co56, eo56⟩ := Kd.R_slice HO_5.out; subst eo56) | ((with_reducible refine gate_callee (f := 108) rfl ?_); refine goesL_ (some 56) rfl rfl Try.func108 (by kernel_rfl) rfl #[.pointer (some ⟨g, 0, none⟩), .int .i64 (x5_31.length : Int)] rfl xL ?_; (with_reducible refine (spec_l1Cur_pick.calls g s0_0 t266 t267 (x5_31.length : Int) t268 t269 t270 w0 _ ?side1 ?side2 A47.out).mono ?_); (case side1 => exact IsS75.x1 HI0.out NB0_251.out); (case side2 => exact xG2 HB.out (IsS75.ge HI0.out) GE251.out); rintro e w57 ⟨rfl, hi, hb, hk⟩; refine ⟨_, rfl, ?_⟩; replace HO_5 := aM (rM (Kd.R_keep (IsS75.apart (show IsS75 w0 _ g s0_0 t266 t267 from IsS75.x1 HI0.out NB0_251.out) (xR HO_5.out) (by decide)) hk (fun _ h => h.2)) (fun _ h => h.1)); replace HO_252000 := aM (rM (Kd.R_keep (IsS75.apart (show IsS75 w0 _ g s0_0 t266 t267 from IsS75.x1 HI0.out NB0_251.out) (xR HO_252000.out) (by decide)) hk (fun _ h => h.2)) (fun _ h => h.1)); replace BK251 := aM (KeepBut.blk hk (g' := gb251) (o := .cells #[.slice Ao12 t245.length co12, .int .i64 t248] 26 (0, 0)) (xB BK251.out) NB251_0.out (by simp)); replace HK := aM (KeepBut.trans (xK1 HK.out GW251.out) hk (.inl rfl)); replace HB := aM (hb); replace HI0 := aM (hi); (try clear hb; try clear hb2; try clear hk; try clear hi)) | ((with_reducible refine gate_dst (N := 58) rfl ?_); (try (refine gate_guard (by rfl) ?_; dsimp only)); refine Kd.R_lit (Kd.int .i64) _ 3 ?hg (N := 58) ?hd (xs := ([2, (-1)] : List Int)) (inner := [.int .i64 2, .int .i64 (-1)]) (ok := fun _ => True) (okp := fun _ => True) ?hr ?hp (fun _ hk => hk) trivial (Below.refl _ _) (Nat.le_refl _) (by simp) ?_; (case hd => rfl); (case hg => rfl); (case hr => first | (go_simp; done) | (go_simp; rfl)); (case hp => exact (Reps.one (show Kd.M (Kd.int .i64) _ _ _ 2 [.int .i64 2] from rfl) (Reps.one (show Kd.M (Kd.int .i64) _ _ _ (-1) [.int .i64 (-1)] from rfl) (Reps.none _ _)))); intro v272 w58 ho59 hb hg_ hnew_; clear hg_ hnew_; (first | rw [← Ny271.out] at ho59 | (simp only [Int.reduceToNat] at ho59; rw [← Ny271.out] at ho59)); have HO273 := aM (Kd.R_lower (Kd.R_new' (Kd.R_new' ho59 (Kd.R_lt (xR HO_5.out))) (Kd.R_lt (xR HO_252000.out))) (keep_size (w := w) (g := g) (row := none) (xK1 HK.out GW251.out))); replace HO_5 := aM (Kd.R_elder' (xR HO_5.out) (Kd.R_base ho59) hb); replace HO_252000 := aM (Kd.R_elder' (xR HO_252000.out) (Kd.R_base ho59) hb); replace BK251 := aM (bB (g := gb251) (o := .cells #[.slice Ao12 t245.length co12, .int .i64 t248] 26 (0, 0)) (xB BK251.out) hb); replace HK := aM (KeepBut.trans (xK1 HK.out GW251.out) (KeepBut.of_below hb g none) (.inl rfl)); replace HB := aM (below_step (xG2 HB.out (IsS75.ge HI0.out) GE251.out) hb); replace HI0 := aM (IsS75.below (IsS75.x1 HI0.out NB0_251.out) hb); clear hb ho59; obtain ⟨Ao60, co60, eo60⟩ := Kd.R_slice HO273.out; subst eo60) | ((with_reducible refine gate_callee (f := 57) rfl ?_); refine goesL_ (some 59) rfl rfl Try.func57 (by kernel_rfl) rfl #[.pointer (some ⟨g, 0, none⟩), .slice Ao60 y271.length co60] rfl xL ?_; (with_reducible refine (spec_l1Cur_among.calls g s0_0 t269 t270 _ _ y271 t274 t275 t276 w0 _ ?side1 ?side2 ?side3 ?side4 ?side5 A48.out).mono ?_); (case side1 => exact IsS75.x1 HI0.out NB0_251.out); (case side2 => exact xG2 HB.out (IsS75.ge HI0.out) GE251.out); (case side3 => exact xC (Kd.R_reads' HO273.out).2.2); (case side4 => exact (Kd.R_reads' HO273.out).2.1); (case side5 => exact far_slice (IsS75.own_ne HI0.out HO273.out (by decide))); rintro e w61 ⟨rfl, hi, hb, hk⟩; refine ⟨_, rfl, ?_⟩; replace HO_5 := aM (rM (Kd.R_keep (IsS75.apart (show IsS75 w0 _ g s0_0 t269 t270 from IsS75.x1 HI0.out NB0_251.out) (xR HO_5.out) (by decide)) hk (fun _ h => h.2)) (fun _ h => h.1)); replace HO_252000 := aM (rM (Kd.R_keep (IsS75.apart (show IsS75 w0 _ g s0_0 t269 t270 from IsS75.x1 HI0.out NB0_251.out) (xR HO_252000.out) (by decide)) hk (fun _ h => h.2)) (fun _ h => h.1)); replace BK251 := aM (KeepBut.blk hk (g' := gb251) (o := .cells #[.slice Ao12 t245.length co12, .int .i64 t248] 26 (0, 0)) (xB BK251.out) NB251_0.out (by simp)); replace HO273 := aM (rM (Kd.R_keep (IsS75.apart (show IsS75 w0 _ g s0_0 t269 t270 from IsS75.x1 HI0.out NB0_251.out) (xR HO273.out) (by decide)) hk (fun _ h => h.2)) (fun _ h => h.1)); replace HK := aM (KeepBut.trans (xK1 HK.out GW251.out) hk (.inl rfl)); replace HB := aM (hb); replace HI0 := aM (hi); (try clear hb; try clear hb2; try clear hk; try clear hi); have p51 : 0 ≤ (t268 : Int) := of_decide_eq_true (by first | (with_reducible assumption) | assumption); have q51 : (t268 : Int) < ((x5_31.length : Int) : Int) := of_decide_eq_true (by first | (with_reducible assumption) | assumption); obtain ⟨go51, co51, eo51, gb51, gl51, cl51, HG51⟩ := Kd.R_form HO_5.out (by omega); (first | cases eo51 | (injection eo51 with ea_ en_ ec_; (first | subst ea_ | (injection ea_ with ea_; subst ea_)); subst ec_; clear en_)); have GB51 := aM gb51; have GG51 := aM HG51; clear gb51 gl51 HG51; obtain ⟨hx51_0, hf51_0⟩ := Kd.R_celln 0 HO_5.out (t268 : Int) p51 q51; replace p51 := eq_true p51; replace q51 := eq_true q51; obtain ⟨hy62_, hz62_⟩ := Kd.R_celln 0 HO_5.out (t268 : Int) (of_decide_eq_true (by first | (with_reducible assumption) | assumption)) (of_decide_eq_true (by first | (with_reducible assumption) | assumption)); have HP62 := Kd.R_putg HO_5.out (t268 : Int) t274) | ((with_reducible refine gate_store (t := 3) (p := 60) rfl ?_); refine store_event (t := 3) (p := 60) (v := ?vo_w63) (w1 := (w61.setCell ⟨go51, (t268 : Int).toNat, none⟩ (.int .i64 t274))) ?hg ?ho ?hn ?hr ?_; (case ho => rfl); (case hg => rfl); (case hn => rfl); (case hr => first | (go_simp; done) | (go_simp; rfl)); intro w63 hw; have hg : w61.grownBy w63 (some go51) := (by rw [hw]; exact HP62.2); have hp_ : Kd.R (Kd.int .i64) 3 w63 w.heap.size (fun k_ => some k_ ≠ (.slice Ao12 t245.length co12 : Value).ownBlock ∧ some k_ ≠ (.slice Ao60 y271.length co60 : Value).ownBlock) (.slice (some ⟨go51, 0, none⟩) x5_31.length co56) y277 := (by rw [hw, Ny277.out]; exact HP62.1); clear HP62; replace HO_252000 := aM (Kd.R_after (v := (.slice (some ⟨go51, 0, none⟩) x5_31.length co56)) (v1 := (.slice (some ⟨go51, 0, none⟩) x5_31.length co56)) (ok := (fun k_ => some k_ ≠ (.slice Ao60 y271.length co60 : Value).ownBlock)) (by (with_reducible repeat (first | apply rA | apply rN | apply rD)); exact rM HO_252000.out (fun _ hk => ⟨hk.2, hk.1⟩)) hg (.inl rfl)); replace BK251 := aM (blk_grown (g := gb251) (o := .cells #[.slice Ao12 t245.length co12, .int .i64 t248] 26 (0, 0)) (xB BK251.out) hg (Kd.R_ne HO_5.out BK251.out (by decide))); replace HI0 := aM (IsS75.grown (IsS75.x1 HI0.out NB0_251.out) hg (IsS75.own_ne HI0.out HO_5.out (by decide))); replace HO273 := aM (Kd.R_after (v := (.slice (some ⟨go51, 0, none⟩) x5_31.length co56)) (v1 := (.slice (some ⟨go51, 0, none⟩) x5_31.length co56)) (ok := (fun k_ => some k_ ≠ (.slice Ao12 t245.length co12 : Value).ownBlock)) (by (with_reducible repeat (first | apply rA | apply rN | apply rD)); exact rM HO273.out (fun _ hk => ⟨hk.2, hk.1.2⟩)) hg (.inl rfl)); replace HB := aM ((by rw [hw]; exact eS (HB.out) (Nat.le_trans HL.out GB51.out) : Below w0.heap.size w0 w63)); replace HK := aM (KeepBut.trans (xK1 HK.out GW251.out) (KeepBut.of_grown hg g) (Kd.R_base2 HO_5.out)); replace HO_5 := aM (hp_); clear hg hw hp_) | ((with_reducible refine gate_callee (f := 74) rfl ?_); refine goesL_ (some 62) rfl rfl Try.func74 (by kernel_rfl) rfl #[.pointer (some ⟨g, 0, none⟩), .int .i64 40] rfl xL ?_; (with_reducible refine (spec_l1Cur_one.calls g s0_0 t275 t276 40 true t279 t280 w0 _ ?side1 ?side2 A52.out).mono ?_); (case side1 => exact IsS75.x1 HI0.out NB0_251.out); (case side2 => exact xG2 HB.out (IsS75.ge HI0.out) GE251.out); rintro e w64 ⟨rfl, hi, hb, hk⟩; refine ⟨_, rfl, ?_⟩; replace HO_5 := aM (rM (Kd.R_keep (IsS75.apart (show IsS75 w0 _ g s0_0 t275 t276 from IsS75.x1 HI0.out NB0_251.out) (xR HO_5.out) (by decide)) hk (fun _ h => h.2)) (fun _ h => h.1)); replace HO_252000 := aM (rM (Kd.R_keep (IsS75.apart (show IsS75 w0 _ g s0_0 t275 t276 from IsS75.x1 HI0.out NB0_251.out) (xR HO_252000.out) (by decide)) hk (fun _ h => h.2)) (fun _ h => h.1)); replace BK251 := aM (KeepBut.blk hk (g' := gb251) (o := .cells #[.slice Ao12 t245.length co12, .int .i64 t248] 26 (0, 0)) (xB BK251.out) NB251_0.out (by simp)); replace HO273 := aM (rM (Kd.R_keep (IsS75.apart (show IsS75 w0 _ g s0_0 t275 t276 from IsS75.x1 HI0.out NB0_251.out) (xR HO273.out) (by decide)) hk (fun _ h => h.2)) (fun _ h => h.1)); replace HK := aM (KeepBut.trans (xK1 HK.out GW251.out) hk (.inl rfl)); replace HB := aM (hb); replace HI0 := aM (hi); (try clear hb; try clear hb2; try clear hk; try clear hi)) | ((with_reducible refine gate_builtin (b := .append) (xs := #[.tmp 63, .tmp 64]) rfl ?_); (try (refine gate_guard (by rfl) ?_; dsimp only)); at_builtin; refine Kd.R_append (Kd.int .i64) w.heap.size rfl (.tmp 63) (.tmp 64) 24 3 (.int .i64 0) 8 rfl Try.underlying24 info3 rfl (by decide) (by omega) (.slice (some ⟨go51, 0, none⟩) x5_31.length co56) y277 0 [.int .i64 0] (fun k_ => some k_ ≠ (.slice Ao12 t245.length co12 : Value).ownBlock ∧ some k_ ≠ (.slice Ao60 y271.length co60 : Value).ownBlock) (fun _ => False) rfl rfl ?aP (fun _ hk => hk.elim) ?aF ?aO (Below.refl _ _) ?aS ?aL ?_; (case aP => exact rfl); (case aF => exact (fun k_ hk => ⟨Kd.fresh' (Kd.R_lt (xR HO_252000.out)) k_ hk, Kd.fresh' (Kd.R_lt (xR HO273.out)) k_ hk⟩)); (case aO => exact (xR HO_5.out)); (case aS => exact (keep_size (w := w) (g := g) (row := none) (xK1 HK.out GW251.out))); (case aL => have := LMc54.out; omega); intro v282 w65 ho hb hg hat; rw [← Ny281.out] at ho; replace HO_252000 := aM (Kd.R_after (ok := (fun k_ => some k_ ≠ (.slice Ao60 y271.length co60 : Value).ownBlock)) (xR HO_252000.out) hg hat); replace BK251 := aM (blk_grown (g := gb251) (o := .cells #[.slice Ao12 t245.length co12, .int .i64 t248] 26 (0, 0)) (xB BK251.out) hg (Kd.R_ne HO_5.out BK251.out (by decide))); replace HO273 := aM (Kd.R_after (ok := (fun k_ => some k_ ≠ (.slice Ao12 t245.length co12 : Value).ownBlock)) (xR HO273.out) hg hat); replace HB := aM (below_weaken (xG2 HB.out (IsS75.ge HI0.out) GE251.out) HL.out hb); replace HI0 := aM (IsS75.grown (IsS75.x1 HI0.out NB0_251.out) hg (IsS75.own_ne HI0.out HO_5.out (by decide))); replace HK := aM (KeepBut.trans (xK1 HK.out GW251.out) (KeepBut.of_grown hg g) (Kd.R_base2 HO_5.out)); have HO283 := aM (ho); clear HO_5; clear ho hb hg hat))
             go_ret
             exact ⟨_, by first | rfl | (simp [errW_none, errW_some] <;> rfl) | (simp [*, errW_none, errW_some] <;> rfl), by (with_reducible repeat (first | apply rA | apply rN | apply rD)); exact rM HO283.out (fun _ hk => trivial), IsS75.x1 HI0.out NB0_251.out, xG2 HB.out (IsS75.ge HI0.out) GE251.out, xK1 HK.out GW251.out⟩
            ·
             rw [if_neg c54] at H
             exact absurd H (by simp)
           ·
            replace c53 := Bool.eq_false_iff.mpr c53
            subst c53
            have H1 : (some (y277, t279, t280)) = some (r1, r2, r3) := by rw [if_neg (show ¬ (false = true) by decide)] at H; exact H
            clear H
            have H := H1
            clear H1
            simp only [Option.some.injEq, Prod.mk.injEq] at H
            obtain ⟨rfl, rfl, rfl⟩ := H
            go_wp2_with (first | ((with_reducible refine gate_callee (f := 74) rfl ?_); refine goesL_ (some 51) rfl rfl Try.func74 (by kernel_rfl) rfl #[.pointer (some ⟨g, 0, none⟩), .int .i64 40] rfl xL ?_; (with_reducible refine (spec_l1Cur_one.calls g s0_0 x1001_31 x1002_31 40 true t266 t267 w0 _ ?side1 ?side2 A45.out).mono ?_); (case side1 => exact IsS75.x1 HI0.out NB0_251.out); (case side2 => exact xG2 HB.out (IsS75.ge HI0.out) GE251.out); rintro e w66 ⟨rfl, hi, hb, hk⟩; refine ⟨_, rfl, ?_⟩; replace HO_5 := aM (rM (Kd.R_keep (IsS75.apart (show IsS75 w0 _ g s0_0 x1001_31 x1002_31 from IsS75.x1 HI0.out NB0_251.out) (xR HO_5.out) (by decide)) hk (fun _ h => h.2)) (fun _ h => h.1)); replace HO_252000 := aM (rM (Kd.R_keep (IsS75.apart (show IsS75 w0 _ g s0_0 x1001_31 x1002_31 from IsS75.x1 HI0.out NB0_251.out) (xR HO_252000.out) (by decide)) hk (fun _ h => h.2)) (fun _ h => h.1)); replace BK251 := aM (KeepBut.blk hk (g' := gb251) (o := .cells #[.slice Ao12 t245.length co12, .int .i64 t248] 26 (0, 0)) (xB BK251.out) NB251_0.out (by simp)); replace HK := aM (KeepBut.trans (xK1 HK.out GW251.out) hk (.inl rfl)); replace HB := aM (hb); replace HI0 := aM (hi); (try clear hb; try clear hb2; try clear hk; try clear hi); obtain ⟨Ao67, co67, eo67⟩ := Kd.R_slice HO_5.out; subst eo67) | ((with_reducible refine gate_callee (f := 108) rfl ?_); refine goesL_ (some 56) rfl rfl Try.func108 (by kernel_rfl) rfl #[.pointer (some ⟨g, 0, none⟩), .int .i64 (x5_31.length : Int)] rfl xL ?_; (with_reducible refine (spec_l1Cur_pick.calls g s0_0 t266 t267 (x5_31.length : Int) t268 t269 t270 w0 _ ?side1 ?side2 A47.out).mono ?_); (case side1 => exact IsS75.x1 HI0.out NB0_251.out); (case side2 => exact xG2 HB.out (IsS75.ge HI0.out) GE251.out); rintro e w68 ⟨rfl, hi, hb, hk⟩; refine ⟨_, rfl, ?_⟩; replace HO_5 := aM (rM (Kd.R_keep (IsS75.apart (show IsS75 w0 _ g s0_0 t266 t267 from IsS75.x1 HI0.out NB0_251.out) (xR HO_5.out) (by decide)) hk (fun _ h => h.2)) (fun _ h => h.1)); replace HO_252000 := aM (rM (Kd.R_keep (IsS75.apart (show IsS75 w0 _ g s0_0 t266 t267 from IsS75.x1 HI0.out NB0_251.out) (xR HO_252000.out) (by decide)) hk (fun _ h => h.2)) (fun _ h => h.1)); replace BK251 := aM (KeepBut.blk hk (g' := gb251) (o := .cells #[.slice Ao12 t245.length co12, .int .i64 t248] 26 (0, 0)) (xB BK251.out) NB251_0.out (by simp)); replace HK := aM (KeepBut.trans (xK1 HK.out GW251.out) hk (.inl rfl)); replace HB := aM (hb); replace HI0 := aM (hi); (try clear hb; try clear hb2; try clear hk; try clear hi)) | ((with_reducible refine gate_dst (N := 58) rfl ?_); (try (refine gate_guard (by rfl) ?_; dsimp only)); refine Kd.R_lit (Kd.int .i64) _ 3 ?hg (N := 58) ?hd (xs := ([2, (-1)] : List Int)) (inner := [.int .i64 2, .int .i64 (-1)]) (ok := fun _ => True) (okp := fun _ => True) ?hr ?hp (fun _ hk => hk) trivial (Below.refl _ _) (Nat.le_refl _) (by simp) ?_; (case hd => rfl); (case hg => rfl); (case hr => first | (go_simp; done) | (go_simp; rfl)); (case hp => exact (Reps.one (show Kd.M (Kd.int .i64) _ _ _ 2 [.int .i64 2] from rfl) (Reps.one (show Kd.M (Kd.int .i64) _ _ _ (-1) [.int .i64 (-1)] from rfl) (Reps.none _ _)))); intro v272 w69 ho70 hb hg_ hnew_; clear hg_ hnew_; (first | rw [← Ny271.out] at ho70 | (simp only [Int.reduceToNat] at ho70; rw [← Ny271.out] at ho70)); have HO273 := aM (Kd.R_lower (Kd.R_new' (Kd.R_new' ho70 (Kd.R_lt (xR HO_5.out))) (Kd.R_lt (xR HO_252000.out))) (keep_size (w := w) (g := g) (row := none) (xK1 HK.out GW251.out))); replace HO_5 := aM (Kd.R_elder' (xR HO_5.out) (Kd.R_base ho70) hb); replace HO_252000 := aM (Kd.R_elder' (xR HO_252000.out) (Kd.R_base ho70) hb); replace BK251 := aM (bB (g := gb251) (o := .cells #[.slice Ao12 t245.length co12, .int .i64 t248] 26 (0, 0)) (xB BK251.out) hb); replace HK := aM (KeepBut.trans (xK1 HK.out GW251.out) (KeepBut.of_below hb g none) (.inl rfl)); replace HB := aM (below_step (xG2 HB.out (IsS75.ge HI0.out) GE251.out) hb); replace HI0 := aM (IsS75.below (IsS75.x1 HI0.out NB0_251.out) hb); clear hb ho70; obtain ⟨Ao71, co71, eo71⟩ := Kd.R_slice HO273.out; subst eo71) | ((with_reducible refine gate_callee (f := 57) rfl ?_); refine goesL_ (some 59) rfl rfl Try.func57 (by kernel_rfl) rfl #[.pointer (some ⟨g, 0, none⟩), .slice Ao71 y271.length co71] rfl xL ?_; (with_reducible refine (spec_l1Cur_among.calls g s0_0 t269 t270 _ _ y271 t274 t275 t276 w0 _ ?side1 ?side2 ?side3 ?side4 ?side5 A48.out).mono ?_); (case side1 => exact IsS75.x1 HI0.out NB0_251.out); (case side2 => exact xG2 HB.out (IsS75.ge HI0.out) GE251.out); (case side3 => exact xC (Kd.R_reads' HO273.out).2.2); (case side4 => exact (Kd.R_reads' HO273.out).2.1); (case side5 => exact far_slice (IsS75.own_ne HI0.out HO273.out (by decide))); rintro e w72 ⟨rfl, hi, hb, hk⟩; refine ⟨_, rfl, ?_⟩; replace HO_5 := aM (rM (Kd.R_keep (IsS75.apart (show IsS75 w0 _ g s0_0 t269 t270 from IsS75.x1 HI0.out NB0_251.out) (xR HO_5.out) (by decide)) hk (fun _ h => h.2)) (fun _ h => h.1)); replace HO_252000 := aM (rM (Kd.R_keep (IsS75.apart (show IsS75 w0 _ g s0_0 t269 t270 from IsS75.x1 HI0.out NB0_251.out) (xR HO_252000.out) (by decide)) hk (fun _ h => h.2)) (fun _ h => h.1)); replace BK251 := aM (KeepBut.blk hk (g' := gb251) (o := .cells #[.slice Ao12 t245.length co12, .int .i64 t248] 26 (0, 0)) (xB BK251.out) NB251_0.out (by simp)); replace HO273 := aM (rM (Kd.R_keep (IsS75.apart (show IsS75 w0 _ g s0_0 t269 t270 from IsS75.x1 HI0.out NB0_251.out) (xR HO273.out) (by decide)) hk (fun _ h => h.2)) (fun _ h => h.1)); replace HK := aM (KeepBut.trans (xK1 HK.out GW251.out) hk (.inl rfl)); replace HB := aM (hb); replace HI0 := aM (hi); (try clear hb; try clear hb2; try clear hk; try clear hi); have p51 : 0 ≤ (t268 : Int) := of_decide_eq_true (by first | (with_reducible assumption) | assumption); have q51 : (t268 : Int) < ((x5_31.length : Int) : Int) := of_decide_eq_true (by first | (with_reducible assumption) | assumption); obtain ⟨go51, co51, eo51, gb51, gl51, cl51, HG51⟩ := Kd.R_form HO_5.out (by omega); (first | cases eo51 | (injection eo51 with ea_ en_ ec_; (first | subst ea_ | (injection ea_ with ea_; subst ea_)); subst ec_; clear en_)); have GB51 := aM gb51; have GG51 := aM HG51; clear gb51 gl51 HG51; obtain ⟨hx51_0, hf51_0⟩ := Kd.R_celln 0 HO_5.out (t268 : Int) p51 q51; replace p51 := eq_true p51; replace q51 := eq_true q51; obtain ⟨hy73_, hz73_⟩ := Kd.R_celln 0 HO_5.out (t268 : Int) (of_decide_eq_true (by first | (with_reducible assumption) | assumption)) (of_decide_eq_true (by first | (with_reducible assumption) | assumption)); have HP73 := Kd.R_putg HO_5.out (t268 : Int) t274) | ((with_reducible refine gate_store (t := 3) (p := 60) rfl ?_); refine store_event (t := 3) (p := 60) (v := ?vo_w74) (w1 := (w72.setCell ⟨go51, (t268 : Int).toNat, none⟩ (.int .i64 t274))) ?hg ?ho ?hn ?hr ?_; (case ho => rfl); (case hg => rfl); (case hn => rfl); (case hr => first | (go_simp; done) | (go_simp; rfl)); intro w74 hw; have hg : w72.grownBy w74 (some go51) := (by rw [hw]; exact HP73.2); have hp_ : Kd.R (Kd.int .i64) 3 w74 w.heap.size (fun k_ => some k_ ≠ (.slice Ao12 t245.length co12 : Value).ownBlock ∧ some k_ ≠ (.slice Ao71 y271.length co71 : Value).ownBlock) (.slice (some ⟨go51, 0, none⟩) x5_31.length co67) y277 := (by rw [hw, Ny277.out]; exact HP73.1); clear HP73; replace HO_252000 := aM (Kd.R_after (v := (.slice (some ⟨go51, 0, none⟩) x5_31.length co67)) (v1 := (.slice (some ⟨go51, 0, none⟩) x5_31.length co67)) (ok := (fun k_ => some k_ ≠ (.slice Ao71 y271.length co71 : Value).ownBlock)) (by (with_reducible repeat (first | apply rA | apply rN | apply rD)); exact rM HO_252000.out (fun _ hk => ⟨hk.2, hk.1⟩)) hg (.inl rfl)); replace BK251 := aM (blk_grown (g := gb251) (o := .cells #[.slice Ao12 t245.length co12, .int .i64 t248] 26 (0, 0)) (xB BK251.out) hg (Kd.R_ne HO_5.out BK251.out (by decide))); replace HI0 := aM (IsS75.grown (IsS75.x1 HI0.out NB0_251.out) hg (IsS75.own_ne HI0.out HO_5.out (by decide))); replace HO273 := aM (Kd.R_after (v := (.slice (some ⟨go51, 0, none⟩) x5_31.length co67)) (v1 := (.slice (some ⟨go51, 0, none⟩) x5_31.length co67)) (ok := (fun k_ => some k_ ≠ (.slice Ao12 t245.length co12 : Value).ownBlock)) (by (with_reducible repeat (first | apply rA | apply rN | apply rD)); exact rM HO273.out (fun _ hk => ⟨hk.2, hk.1.2⟩)) hg (.inl rfl)); replace HB := aM ((by rw [hw]; exact eS (HB.out) (Nat.le_trans HL.out GB51.out) : Below w0.heap.size w0 w74)); replace HK := aM (KeepBut.trans (xK1 HK.out GW251.out) (KeepBut.of_grown hg g) (Kd.R_base2 HO_5.out)); replace HO_5 := aM (hp_); clear hg hw hp_) | ((with_reducible refine gate_callee (f := 74) rfl ?_); refine goesL_ (some 62) rfl rfl Try.func74 (by kernel_rfl) rfl #[.pointer (some ⟨g, 0, none⟩), .int .i64 40] rfl xL ?_; (with_reducible refine (spec_l1Cur_one.calls g s0_0 t275 t276 40 false t279 t280 w0 _ ?side1 ?side2 A52.out).mono ?_); (case side1 => exact IsS75.x1 HI0.out NB0_251.out); (case side2 => exact xG2 HB.out (IsS75.ge HI0.out) GE251.out); rintro e w75 ⟨rfl, hi, hb, hk⟩; refine ⟨_, rfl, ?_⟩; replace HO_5 := aM (rM (Kd.R_keep (IsS75.apart (show IsS75 w0 _ g s0_0 t275 t276 from IsS75.x1 HI0.out NB0_251.out) (xR HO_5.out) (by decide)) hk (fun _ h => h.2)) (fun _ h => h.1)); replace HO_252000 := aM (rM (Kd.R_keep (IsS75.apart (show IsS75 w0 _ g s0_0 t275 t276 from IsS75.x1 HI0.out NB0_251.out) (xR HO_252000.out) (by decide)) hk (fun _ h => h.2)) (fun _ h => h.1)); replace BK251 := aM (KeepBut.blk hk (g' := gb251) (o := .cells #[.slice Ao12 t245.length co12, .int .i64 t248] 26 (0, 0)) (xB BK251.out) NB251_0.out (by simp)); replace HO273 := aM (rM (Kd.R_keep (IsS75.apart (show IsS75 w0 _ g s0_0 t275 t276 from IsS75.x1 HI0.out NB0_251.out) (xR HO273.out) (by decide)) hk (fun _ h => h.2)) (fun _ h => h.1)); replace HK := aM (KeepBut.trans (xK1 HK.out GW251.out) hk (.inl rfl)); replace HB := aM (hb); replace HI0 := aM (hi); (try clear hb; try clear hb2; try clear hk; try clear hi)))
            go_ret
            exact ⟨_, by first | rfl | (simp [errW_none, errW_some] <;> rfl) | (simp [*, errW_none, errW_some] <;> rfl), by (with_reducible repeat (first | apply rA | apply rN | apply rD)); exact rM HO_5.out (fun _ hk => trivial), IsS75.x1 HI0.out NB0_251.out, xG2 HB.out (IsS75.ge HI0.out) GE251.out, xK1 HK.out GW251.out⟩
          ·
           rw [if_neg c50] at H
           exact absurd H (by simp)
         ·
          rw [if_neg c49] at H
          exact absurd H (by simp)
        ·
         replace c46 := Bool.eq_false_iff.mpr c46
         subst c46
         have H1 : ((spec_l1Cur_one.f s0_0 t266 t267 40).bind fun bt284 => (if bt284.1 = true then (if x5_31.length < 17592186044416 then (some ((x5_31 ++ [0]), bt284.2.1, bt284.2.2)) else (none)) else (some (x5_31, bt284.2.1, bt284.2.2)))) = some (r1, r2, r3) := by rw [if_neg (show ¬ (false = true) by decide)] at H; exact H
         clear H
         have H := H1
         clear H1
         replace H := oB.mp H
         obtain ⟨⟨t284, t285, t286⟩, A760, H⟩ := H
         replace H : (if t284 = true then (if x5_31.length < 17592186044416 then (some ((x5_31 ++ [0]), t285, t286)) else (none)) else (some (x5_31, t285, t286))) = some (r1, r2, r3) := H
         have A76 := aM A760
         clear A760
         by_cases c77 : t284 = true
         ·
          subst c77
          have H1 : (if x5_31.length < 17592186044416 then (some ((x5_31 ++ [0]), t285, t286)) else (none)) = some (r1, r2, r3) := by rw [if_pos rfl] at H; exact H
          clear H
          have H := H1
          clear H1
          by_cases c78 : x5_31.length < 17592186044416
          ·
           rw [if_pos c78] at H
           have LMc78 := aM c78
           clear c78
           obtain ⟨y287, hy287⟩ : ∃ y_ : List Int, y_ = (x5_31 ++ [0]) := ⟨_, rfl⟩
           replace H : (some (y287, t285, t286)) = some (r1, r2, r3) := by first | (rw [hy287]; with_reducible exact H) | (have H2_ := (Option.bind_some _ _).symm.trans H; rw [hy287]; with_reducible exact H2_) | (have H2_ := (Option.bind_some _ _).symm.trans H; with_reducible exact H2_) | with_reducible exact H | (rw [hy287]; exact H) | exact H
           have Ny287 := aM hy287
           clear hy287
           simp only [Option.some.injEq, Prod.mk.injEq] at H
           obtain ⟨rfl, rfl, rfl⟩ := H
           go_wp2_with (first | ((with_reducible refine gate_callee (f := 74) rfl ?_); refine goesL_ (some 51) rfl rfl Try.func74 (by kernel_rfl) rfl #[.pointer (some ⟨g, 0, none⟩), .int .i64 40] rfl xL ?_; (with_reducible refine (spec_l1Cur_one.calls g s0_0 x1001_31 x1002_31 40 false t266 t267 w0 _ ?side1 ?side2 A45.out).mono ?_); (case side1 => exact IsS75.x1 HI0.out NB0_251.out); (case side2 => exact xG2 HB.out (IsS75.ge HI0.out) GE251.out); rintro e w79 ⟨rfl, hi, hb, hk⟩; refine ⟨_, rfl, ?_⟩; replace HO_5 := aM (rM (Kd.R_keep (IsS75.apart (show IsS75 w0 _ g s0_0 x1001_31 x1002_31 from IsS75.x1 HI0.out NB0_251.out) (xR HO_5.out) (by decide)) hk (fun _ h => h.2)) (fun _ h => h.1)); replace HO_252000 := aM (rM (Kd.R_keep (IsS75.apart (show IsS75 w0 _ g s0_0 x1001_31 x1002_31 from IsS75.x1 HI0.out NB0_251.out) (xR HO_252000.out) (by decide)) hk (fun _ h => h.2)) (fun _ h => h.1)); replace BK251 := aM (KeepBut.blk hk (g' := gb251) (o := .cells #[.slice Ao12 t245.length co12, .int .i64 t248] 26 (0, 0)) (xB BK251.out) NB251_0.out (by simp)); replace HK := aM (KeepBut.trans (xK1 HK.out GW251.out) hk (.inl rfl)); replace HB := aM (hb); replace HI0 := aM (hi); (try clear hb; try clear hb2; try clear hk; try clear hi)) | ((with_reducible refine gate_callee (f := 74) rfl ?_); refine goesL_ (some 62) rfl rfl Try.func74 (by kernel_rfl) rfl #[.pointer (some ⟨g, 0, none⟩), .int .i64 40] rfl xL ?_; (with_reducible refine (spec_l1Cur_one.calls g s0_0 t266 t267 40 true t285 t286 w0 _ ?side1 ?side2 A76.out).mono ?_); (case side1 => exact IsS75.x1 HI0.out NB0_251.out); (case side2 => exact xG2 HB.out (IsS75.ge HI0.out) GE251.out); rintro e w80 ⟨rfl, hi, hb, hk⟩; refine ⟨_, rfl, ?_⟩; replace HO_5 := aM (rM (Kd.R_keep (IsS75.apart (show IsS75 w0 _ g s0_0 t266 t267 from IsS75.x1 HI0.out NB0_251.out) (xR HO_5.out) (by decide)) hk (fun _ h => h.2)) (fun _ h => h.1)); replace HO_252000 := aM (rM (Kd.R_keep (IsS75.apart (show IsS75 w0 _ g s0_0 t266 t267 from IsS75.x1 HI0.out NB0_251.out) (xR HO_252000.out) (by decide)) hk (fun _ h => h.2)) (fun _ h => h.1)); replace BK251 := aM (KeepBut.blk hk (g' := gb251) (o := .cells #[.slice Ao12 t245.length co12, .int .i64 t248] 26 (0, 0)) (xB BK251.out) NB251_0.out (by simp)); replace HK := aM (KeepBut.trans (xK1 HK.out GW251.out) hk (.inl rfl)); replace HB := aM (hb); replace HI0 := aM (hi); (try clear hb; try clear hb2; try clear hk; try clear hi)) | ((with_reducible refine gate_builtin (b := .append) (xs := #[.tmp 63, .tmp 64]) rfl ?_); (try (refine gate_guard (by rfl) ?_; dsimp only)); at_builtin; refine Kd.R_append (Kd.int .i64) w.heap.size rfl (.tmp 63) (.tmp 64) 24 3 (.int .i64 0) 8 rfl Try.underlying24 info3 rfl (by decide) (by omega) u5 x5_31 0 [.int .i64 0] (fun k_ => some k_ ≠ (.slice Ao12 t245.length co12 : Value).ownBlock) (fun _ => False) rfl rfl ?aP (fun _ hk => hk.elim) ?aF ?aO (Below.refl _ _) ?aS ?aL ?_; (case aP => exact rfl); (case aF => exact (fun k_ hk => Kd.fresh' (Kd.R_lt (xR HO_252000.out)) k_ hk)); (case aO => exact (xR HO_5.out)); (case aS => exact (keep_size (w := w) (g := g) (row := none) (xK1 HK.out GW251.out))); (case aL => have := LMc78.out; omega); intro v288 w81 ho hb hg hat; rw [← Ny287.out] at ho; replace HO_252000 := aM (Kd.R_after (ok := (fun _ => True)) (by (with_reducible repeat (first | apply rA | apply rN | apply rD)); exact rM HO_252000.out (fun _ hk => ⟨trivial, hk⟩)) hg hat); replace BK251 := aM (blk_grown (g := gb251) (o := .cells #[.slice Ao12 t245.length co12, .int .i64 t248] 26 (0, 0)) (xB BK251.out) hg (Kd.R_ne HO_5.out BK251.out (by decide))); replace HB := aM (below_weaken (xG2 HB.out (IsS75.ge HI0.out) GE251.out) HL.out hb); replace HI0 := aM (IsS75.grown (IsS75.x1 HI0.out NB0_251.out) hg (IsS75.own_ne HI0.out HO_5.out (by decide))); replace HK := aM (KeepBut.trans (xK1 HK.out GW251.out) (KeepBut.of_grown hg g) (Kd.R_base2 HO_5.out)); have HO289 := aM (ho); clear HO_5; clear ho hb hg hat))
           go_ret
           exact ⟨_, by first | rfl | (simp [errW_none, errW_some] <;> rfl) | (simp [*, errW_none, errW_some] <;> rfl), by (with_reducible repeat (first | apply rA | apply rN | apply rD)); exact rM HO289.out (fun _ hk => trivial), IsS75.x1 HI0.out NB0_251.out, xG2 HB.out (IsS75.ge HI0.out) GE251.out, xK1 HK.out GW251.out⟩
          ·
           rw [if_neg c78] at H
           exact absurd H (by simp)
         ·
          replace c77 := Bool.eq_false_iff.mpr c77
          subst c77
          have H1 : (some (x5_31, t285, t286)) = some (r1, r2, r3) := by rw [if_neg (show ¬ (false = true) by decide)] at H; exact H
          clear H
          have H := H1
          clear H1
          simp only [Option.some.injEq, Prod.mk.injEq] at H
          obtain ⟨rfl, rfl, rfl⟩ := H
          go_wp2_with (first | ((with_reducible refine gate_callee (f := 74) rfl ?_); refine goesL_ (some 51) rfl rfl Try.func74 (by kernel_rfl) rfl #[.pointer (some ⟨g, 0, none⟩), .int .i64 40] rfl xL ?_; (with_reducible refine (spec_l1Cur_one.calls g s0_0 x1001_31 x1002_31 40 false t266 t267 w0 _ ?side1 ?side2 A45.out).mono ?_); (case side1 => exact IsS75.x1 HI0.out NB0_251.out); (case side2 => exact xG2 HB.out (IsS75.ge HI0.out) GE251.out); rintro e w82 ⟨rfl, hi, hb, hk⟩; refine ⟨_, rfl, ?_⟩; replace HO_5 := aM (rM (Kd.R_keep (IsS75.apart (show IsS75 w0 _ g s0_0 x1001_31 x1002_31 from IsS75.x1 HI0.out NB0_251.out) (xR HO_5.out) (by decide)) hk (fun _ h => h.2)) (fun _ h => h.1)); replace HO_252000 := aM (rM (Kd.R_keep (IsS75.apart (show IsS75 w0 _ g s0_0 x1001_31 x1002_31 from IsS75.x1 HI0.out NB0_251.out) (xR HO_252000.out) (by decide)) hk (fun _ h => h.2)) (fun _ h => h.1)); replace BK251 := aM (KeepBut.blk hk (g' := gb251) (o := .cells #[.slice Ao12 t245.length co12, .int .i64 t248] 26 (0, 0)) (xB BK251.out) NB251_0.out (by simp)); replace HK := aM (KeepBut.trans (xK1 HK.out GW251.out) hk (.inl rfl)); replace HB := aM (hb); replace HI0 := aM (hi); (try clear hb; try clear hb2; try clear hk; try clear hi)) | ((with_reducible refine gate_callee (f := 74) rfl ?_); refine goesL_ (some 62) rfl rfl Try.func74 (by kernel_rfl) rfl #[.pointer (some ⟨g, 0, none⟩), .int .i64 40] rfl xL ?_; (with_reducible refine (spec_l1Cur_one.calls g s0_0 t266 t267 40 false t285 t286 w0 _ ?side1 ?side2 A76.out).mono ?_); (case side1 => exact IsS75.x1 HI0.out NB0_251.out); (case side2 => exact xG2 HB.out (IsS75.ge HI0.out) GE251.out); rintro e w83 ⟨rfl, hi, hb, hk⟩; refine ⟨_, rfl, ?_⟩; replace HO_5 := aM (rM (Kd.R_keep (IsS75.apart (show IsS75 w0 _ g s0_0 t266 t267 from IsS75.x1 HI0.out NB0_251.out) (xR HO_5.out) (by decide)) hk (fun _ h => h.2)) (fun _ h => h.1)); replace HO_252000 := aM (rM (Kd.R_keep (IsS75.apart (show IsS75 w0 _ g s0_0 t266 t267 from IsS75.x1 HI0.out NB0_251.out) (xR HO_252000.out) (by decide)) hk (fun _ h => h.2)) (fun _ h => h.1)); replace BK251 := aM (KeepBut.blk hk (g' := gb251) (o := .cells #[.slice Ao12 t245.length co12, .int .i64 t248] 26 (0, 0)) (xB BK251.out) NB251_0.out (by simp)); replace HK := aM (KeepBut.trans (xK1 HK.out GW251.out) hk (.inl rfl)); replace HB := aM (hb); replace HI0 := aM (hi); (try clear hb; try clear hb2; try clear hk; try clear hi)))
          go_ret
          exact ⟨_, by first | rfl | (simp [errW_none, errW_some] <;> rfl) | (simp [*, errW_none, errW_some] <;> rfl), by (with_reducible repeat (first | apply rA | apply rN | apply rD)); exact rM HO_5.out (fun _ hk => trivial), IsS75.x1 HI0.out NB0_251.out, xG2 HB.out (IsS75.ge HI0.out) GE251.out, xK1 HK.out GW251.out⟩
end Go.Proofs.Ytkgekmpnbhomgaa.PFnBits
