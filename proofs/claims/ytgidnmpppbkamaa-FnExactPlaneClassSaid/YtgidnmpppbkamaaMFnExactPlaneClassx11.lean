-- Laid for this claim by a program of the session's own (wip/tool/myprint.py).
import Derived.Test.YtgidnmpppbkamaaMFnExactPlaneClassx0
import Derived.Test.YtgidnmpppbkamaaMFnExactPlaneClassx10
namespace Go.Proofs.Ytgidnmpppbkamaa.PFnExactPlaneClass
open Go.RowKit Go.Proofs.YtgidnmpppbkamaaW.PrintWords Go.Proofs.YtgidnmpppbkamaaW.PrintLast Go.Proofs.YtgidnmpppbkamaaW.PrintMore
attribute [local go_sem] max2_int min2_int max_two min_two max_three min_three max_four min_four
set_option linter.unusedVariables false
set_option maxHeartbeats 8000000
set_option maxRecDepth 100000
set_option linter.unusedSimpArgs false
def impl_allWithin.l0 : Nat → Int → Int → List Int → Int → Int → Option (Bool)
 | 0, _, _, _, _, _ => none
 | k + 1, x1, x2, x9, x10, x11 => if x11 < x10 then (if 0 ≤ x11 then (if x11 < (x9.length : Int) then ((impl_within.f (rd x9 x11) x1 x2).bind fun t346 => (if t346 = true then (impl_allWithin.l0 k x1 x2 x9 x10 (wrap64 (x11 + 1))) else (some false))) else (none)) else (none)) else (some true)
def impl_allWithin.f (k : Nat) (l0 : List Int) (a1 : Int) (a2 : Int) : Option (Bool) := impl_allWithin.l0 k a1 a2 l0 (l0.length : Int) 0
theorem impl_allWithin.calls (k : Nat) (A0 : Option Addr) (c0 : Nat) (l0 : List Int) (a1 : Int) (a2 : Int) (r : Bool) (w : World) (hr0 : Kd.C (Kd.int .i64) w A0 l0.length l0) (hc0 : l0.length ≤ c0) (h : impl_allWithin.f k l0 a1 a2 = some r) :
  Calls Try.prog 36 #[.slice A0 l0.length c0, .int .i64 a1, .int .i64 a2] w fun e w' => e = .returned (.bool r) ∧ Drawn0 w w' := by
 have HR0 := aM hr0
 have HC0 := aM hc0
 clear hr0 hc0
 have H : (impl_allWithin.l0 k a1 a2 l0 (l0.length : Int) 0) = some r := h
 clear h
 have H' := aM H
 clear H
 go_enter Try.func36, Try.ntmps36
 go_wp2
 go_loopg [11] k (fun kq v11 w' => ∃ (x11_1 : Int), v11 = .int .i64 x11_1 ∧ Aside0 (impl_allWithin.l0 kq a1 a2 l0 (l0.length : Int) x11_1 = some r) ∧ Aside0 (kq ≤ k) ∧ Drawn0 w w')
 case atStart => exact ⟨(0), yZ, H', ⟨Nat.le_refl _⟩, by repeat (first | exact Drawn0.refl _ | apply Drawn0.step)⟩
 case round =>
  clear H'
  try clear c3
  obtain ⟨x11_1, rfl, HA, HK1, ⟨m1, rfl⟩⟩ := hrel
  cases gk with
  | zero => exact absurd HA.out (by simp [impl_allWithin.l0])
  | succ k1 =>
   have H := HA.out
   clear HA
   simp only [impl_allWithin.l0] at H
   by_cases c4 : x11_1 < (l0.length : Int)
   rotate_left
   ·
    rw [if_neg c4] at H
    have c4b0 := decide_eq_false c4
    clear c4
    obtain rfl := Option.some.inj H
    go_wp2
    go_ret
    exact ⟨by first | rfl | (simp; done) | (simp [*]; done), by repeat (first | exact Drawn0.refl _ | apply Drawn0.step)⟩
   rw [if_pos c4] at H
   have c4b0 := decide_eq_true c4
   clear c4
   by_cases c5 : 0 ≤ x11_1
   rotate_left
   ·
    rw [if_neg c5] at H
    exact absurd H (by simp)
   rw [if_pos c5] at H
   have c5b0 := decide_eq_true c5
   clear c5
   by_cases c6 : x11_1 < (l0.length : Int)
   rotate_left
   ·
    rw [if_neg c6] at H
    exact absurd H (by simp)
   rw [if_pos c6] at H
   have c6b0 := decide_eq_true c6
   clear c6
   replace H := oB.mp H
   obtain ⟨t346, A70, H⟩ := H
   have A7 := aM A70
   clear A70
   by_cases c8 : t346 = true
   ·
    subst c8
    rw [if_pos rfl] at H
    have H' := aM H
    clear H
    have p345 : 0 ≤ (x11_1 : Int) := yA
    have q345 : x11_1 < (l0.length : Int) := yA
    obtain ⟨ad345, e345, hx345_0⟩ := Kd.at_int HR0.out x11_1 p345 q345
    cases e345
    replace p345 := eq_true p345
    replace q345 := eq_true q345
    go_wp2_with (first | (refine yL 18 Try.func54 #[.int .i64 (rd l0 x11_1), .int .i64 a1, .int .i64 a2] ?_; (with_reducible refine (impl_within.calls (rd l0 x11_1) a1 a2 true _ A7.out).mono ?_); rintro e w' ⟨rfl, ⟨nd, rfl⟩⟩; refine ⟨_, rfl, ?_⟩))
    go_roundg k1
    case measure => have := HK1.out; omega
    case rel => exact ⟨(wrap64 (x11_1 + 1)), yZ, H', ⟨by have := HK1.out; omega⟩, by repeat (first | exact Drawn0.refl _ | apply Drawn0.step)⟩
   replace c8 := Bool.eq_false_iff.mpr c8
   subst c8
   rw [if_neg (show ¬ (false = true) by decide)] at H
   obtain rfl := Option.some.inj H
   have p345 : 0 ≤ (x11_1 : Int) := yA
   have q345 : x11_1 < (l0.length : Int) := yA
   obtain ⟨ad345, e345, hx345_0⟩ := Kd.at_int HR0.out x11_1 p345 q345
   cases e345
   replace p345 := eq_true p345
   replace q345 := eq_true q345
   go_wp2_with (first | (refine yL 18 Try.func54 #[.int .i64 (rd l0 x11_1), .int .i64 a1, .int .i64 a2] ?_; (with_reducible refine (impl_within.calls (rd l0 x11_1) a1 a2 false _ A7.out).mono ?_); rintro e w' ⟨rfl, ⟨nd, rfl⟩⟩; refine ⟨_, rfl, ?_⟩))
   go_ret
   exact ⟨by first | rfl | (simp; done) | (simp [*]; done), by repeat (first | exact Drawn0.refl _ | apply Drawn0.step)⟩
def impl_IsPoint.f (k : Nat) (l0 : List Int) : Option (Bool) := (impl_within.f (l0.length : Int) 1 4).bind fun t347 => (if t347 = true then ((impl_allWithin.f k l0 (-9) 9).bind fun t348 => (some t348)) else (some false))
theorem impl_IsPoint.calls (k : Nat) (A0 : Option Addr) (c0 : Nat) (l0 : List Int) (r : Bool) (w : World) (hr0 : Kd.C (Kd.int .i64) w A0 l0.length l0) (hc0 : l0.length ≤ c0) (h : impl_IsPoint.f k l0 = some r) :
  Calls Try.prog 85 #[.slice A0 l0.length c0] w fun e w' => e = .returned (.bool r) ∧ Drawn0 w w' := by
 have HR0 := aM hr0
 have HC0 := aM hc0
 clear hr0 hc0
 have H : ((impl_within.f (l0.length : Int) 1 4).bind fun t347 => (if t347 = true then ((impl_allWithin.f k l0 (-9) 9).bind fun t348 => (some t348)) else (some false))) = some r := h
 clear h
 replace H := oB.mp H
 obtain ⟨t347, A20, H⟩ := H
 have A2 := aM A20
 clear A20
 by_cases c3 : t347 = true
 rotate_left
 ·
  replace c3 := Bool.eq_false_iff.mpr c3
  subst c3
  rw [if_neg (show ¬ (false = true) by decide)] at H
  obtain rfl := Option.some.inj H
  go_enter Try.func85, Try.ntmps85
  go_wp2_with (first | (refine yL 5 Try.func54 #[.int .i64 (l0.length : Int), .int .i64 1, .int .i64 4] ?_; (with_reducible refine (impl_within.calls (l0.length : Int) 1 4 false _ A2.out).mono ?_); rintro e w' ⟨rfl, ⟨nd, rfl⟩⟩; refine ⟨_, rfl, ?_⟩))
  go_ret
  exact ⟨by first | rfl | (simp; done) | (simp [*]; done), by repeat (first | exact Drawn0.refl _ | apply Drawn0.step)⟩
 subst c3
 rw [if_pos rfl] at H
 replace H := oB.mp H
 obtain ⟨t348, A40, H⟩ := H
 have A4 := aM A40
 clear A40
 obtain rfl := Option.some.inj H
 go_enter Try.func85, Try.ntmps85
 go_wp2_with (first | (refine yL 5 Try.func54 #[.int .i64 (l0.length : Int), .int .i64 1, .int .i64 4] ?_; (with_reducible refine (impl_within.calls (l0.length : Int) 1 4 true _ A2.out).mono ?_); rintro e w' ⟨rfl, ⟨nd, rfl⟩⟩; refine ⟨_, rfl, ?_⟩) | (go_at_call 36; (with_reducible refine (impl_allWithin.calls k _ _ l0 (-9) 9 t348 _ ?side1 ?side2 A4.out).mono ?_); (case side1 => exact xC HR0.out); (case side2 => exact HC0.out); rintro e w' ⟨rfl, ⟨nd, rfl⟩⟩))
 go_ret
 exact ⟨by first | rfl | (simp; done) | (simp [*]; done), by repeat (first | exact Drawn0.refl _ | apply Drawn0.step)⟩
def impl_isLabel.f (a0 : Int) : Option (Bool) := if a0 = 1 then (some true) else (some (a0 == (-1)))
theorem impl_isLabel.calls (a0 : Int) (r : Bool) (w : World) (h : impl_isLabel.f a0 = some r) :
  Calls Try.prog 86 #[.int .i64 a0] w fun e w' => e = .returned (.bool r) ∧ Drawn0 w w' := by
 have H : (if a0 = 1 then (some true) else (some (a0 == (-1)))) = some r := h
 clear h
 by_cases c2 : a0 = 1
 rotate_left
 ·
  rw [if_neg c2] at H
  have c2b0 : (a0 == 1) = false := beq_eq_false_iff_ne.mpr c2
  have c2b1 : (a0 != 1) = true := bne_iff_ne.mpr c2
  obtain rfl := Option.some.inj H
  go_enter Try.func86, Try.ntmps86
  go_wp2
  go_ret
  exact ⟨by first | rfl | (simp; done) | (simp [*]; done), by repeat (first | exact Drawn0.refl _ | apply Drawn0.step)⟩
 rw [if_pos c2] at H
 have c2b0 : (a0 == 1) = true := beq_iff_eq.mpr c2
 have c2b1 : (a0 != 1) = false := bne_eq_false_iff_eq.mpr c2
 clear c2
 obtain rfl := Option.some.inj H
 go_enter Try.func86, Try.ntmps86
 go_wp2
 go_ret
 exact ⟨by first | rfl | (simp; done) | (simp [*]; done), by repeat (first | exact Drawn0.refl _ | apply Drawn0.step)⟩
mutual
def impl_IsSample.j0 : Nat → Bool → List (List Int) → List Int → Option (Bool)
 | 0, _, _, _ => none
 | k + 1, x17, x350000, x350001 => if x17 = true then (some false) else (impl_IsSample.l0 k x350000 (x350000.length : Int) 0 x350000 x350001)
def impl_IsSample.l0 : Nat → List (List Int) → Int → Int → List (List Int) → List Int → Option (Bool)
 | 0, _, _, _, _, _ => none
 | k + 1, x19, x20, x21, x350000, x350001 => if x21 < x20 then (if 0 ≤ x21 then (if x21 < (x19.length : Int) then ((impl_IsPoint.f k (rd_L1 x19 x21)).bind fun t351 => (if t351 = true then (if 0 < (x350000.length : Int) then (if ((rd_L1 x19 x21).length : Int) = ((rd_L1 x350000 0).length : Int) then (if x21 < (x350001.length : Int) then ((impl_isLabel.f (rd x350001 x21)).bind fun t354 => (if t354 = true then (impl_IsSample.l0 k x19 x20 (wrap64 (x21 + 1)) x350000 x350001) else (some false))) else (none)) else (some false)) else (none)) else (some false))) else (none)) else (none)) else (some true)
end
def impl_IsSample.f (k : Nat) (l0_0 : List (List Int)) (l0_1 : List Int) : Option (Bool) := if (l0_0.length : Int) > 16 then (impl_IsSample.j0 k true l0_0 l0_1) else (impl_IsSample.j0 k ((l0_1.length : Int) != (l0_0.length : Int)) l0_0 l0_1)
theorem impl_IsSample.calls (k : Nat) (A0_0 : Option Addr) (c0_0 : Nat) (l0_0 : List (List Int)) (A0_1 : Option Addr) (c0_1 : Nat) (l0_1 : List Int) (r : Bool) (w : World) (hr0_0 : Kd.C (Kd.slice 3 (Kd.int .i64)) w A0_0 l0_0.length l0_0) (hc0_0 : l0_0.length ≤ c0_0) (hr0_1 : Kd.C (Kd.int .i64) w A0_1 l0_1.length l0_1) (hc0_1 : l0_1.length ≤ c0_1) (h : impl_IsSample.f k l0_0 l0_1 = some r) :
  Calls Try.prog 64 #[.agg #[.slice A0_0 l0_0.length c0_0, .slice A0_1 l0_1.length c0_1]] w fun e w' => e = .returned (.bool r) ∧ Below w.heap.size w w' := by
 have hu43 := Try.underlying43
 have HR0_0 := aM hr0_0
 have HC0_0 := aM hc0_0
 clear hr0_0 hc0_0
 have HR0_1 := aM hr0_1
 have HC0_1 := aM hc0_1
 clear hr0_1 hc0_1
 have HB := aM (Below.refl w.heap.size w)
 have H : (if (l0_0.length : Int) > 16 then (impl_IsSample.j0 k true l0_0 l0_1) else (impl_IsSample.j0 k ((l0_1.length : Int) != (l0_0.length : Int)) l0_0 l0_1)) = some r := h
 clear h
 have HC2 := aM H
 clear H
 go_enter Try.func64, Try.ntmps64
 go_upto_region 1 with (first | ((with_reducible refine gate_dst (N := 1) rfl ?_); (try (refine gate_guard (by rfl) ?_; dsimp only)); refine yB 1 #[.slice A0_0 l0_0.length c0_0, .slice A0_1 l0_1.length c0_1] 43 ?_; intro gb349 hg w3 hbox hb; have BK349 := aM (hbox); have GW349 := yV0 hg HB; have GE349 := yV0 hg HB; replace HB := yS0 HB hb; clear hb hbox hg))
 (try simp only [Act.put, sA, sZ, sU])
 go_cut [17] (fun v17 wc => ∃ (kq : Nat) (x17_1 : Bool), v17 = .bool x17_1 ∧ Aside0 (impl_IsSample.j0 kq x17_1 l0_0 l0_1 = some r) ∧ Aside0 (kq ≤ k) ∧ Aside0 (wc.heap[gb349]? = some (.cells #[(.slice A0_0 l0_0.length c0_0), (.slice A0_1 l0_1.length c0_1)] 43 (0, 0))) ∧ Aside0 (Below w.heap.size w wc))
 case first =>
  have H := HC2.out
  clear HC2
  by_cases c4 : (l0_0.length : Int) > 16
  ·
   rw [if_pos c4] at H
   have c4b0 : decide (16 < (l0_0.length : Int)) = true := decide_eq_true c4
   have c4b1 : decide (16 < l0_0.length) = true := decide_eq_true (by omega)
   clear c4
   (first | rw [c4b0] | (simp only [i64_w, i32_w]; rw [c4b0]) | rw [c4b1] | skip)
   have H' := aM H
   clear H
   have hcz5_0 := yC0 BK349
   have hcz5_1 := yC1 BK349
   have hfz5_0 := bF BK349.out 0
   have hfz5_1 := bF BK349.out 1
   go_wp2
   go_meet
   case rel => exact ⟨_, (true), yZ, H', ⟨yM⟩, ⟨xB BK349.out⟩, ⟨xG1 HB.out GE349.out⟩⟩
  rw [if_neg c4] at H
  have c4b0 : decide (16 < (l0_0.length : Int)) = false := decide_eq_false c4
  have c4b1 : decide (16 < l0_0.length) = false := decide_eq_false (by omega)
  clear c4
  (first | rw [c4b0] | (simp only [i64_w, i32_w]; rw [c4b0]) | rw [c4b1] | skip)
  have H' := aM H
  clear H
  have hcz6_0 := yC0 BK349
  have hcz6_1 := yC1 BK349
  have hfz6_0 := bF BK349.out 0
  have hfz6_1 := bF BK349.out 1
  go_wp2
  go_meet
  case rel => exact ⟨_, (((l0_1.length : Int) != (l0_0.length : Int))), yZ, H', ⟨yM⟩, ⟨xB BK349.out⟩, ⟨xG1 HB.out GE349.out⟩⟩
 case rest =>
  clear HC2
  try clear c4; try clear c4b0; try clear c4b1; try clear c6; try clear hcz5_0; try clear hcz5_1; try clear hcz6_0; try clear hcz6_1; try clear hfz5_0; try clear hfz5_1; try clear hfz6_0; try clear hfz6_1
  obtain ⟨kq, x17_1, rfl, HA, HJ1, BK349, HB⟩ := hcut
  cases kq with
  | zero => exact absurd HA.out (by simp [impl_IsSample.j0])
  | succ kj1 =>
   have H := HA.out
   clear HA
   simp only [impl_IsSample.j0] at H
   by_cases c7 : x17_1 = true
   ·
    subst c7
    rw [if_pos rfl] at H
    obtain rfl := Option.some.inj H
    go_wp2
    go_ret
    exact ⟨yF, xG1 HB.out GE349.out⟩
   replace c7 := Bool.eq_false_iff.mpr c7
   subst c7
   rw [if_neg (show ¬ (false = true) by decide)] at H
   have H' := aM H
   clear H
   have hcz8_0 : wc.cell? ⟨gb349, 0, none⟩ = some (.slice A0_0 l0_0.length c0_0) := (bC BK349.out 0).trans rfl
   have hcz8_1 : wc.cell? ⟨gb349, 1, none⟩ = some (.slice A0_1 l0_1.length c0_1) := (bC BK349.out 1).trans rfl
   have hfz8_0 := bF BK349.out 0
   have hfz8_1 := bF BK349.out 1
   go_wp2
   go_loopg [21] kj1 (fun kq v21 w' => ∃ (x21_2 : Int), v21 = .int .i64 x21_2 ∧ Aside0 (impl_IsSample.l0 kq l0_0 (l0_0.length : Int) x21_2 l0_0 l0_1 = some r) ∧ Aside0 (kq ≤ kj1) ∧ Aside0 (w'.heap[gb349]? = some (.cells #[(.slice A0_0 l0_0.length c0_0), (.slice A0_1 l0_1.length c0_1)] 43 (0, 0))) ∧ Aside0 (Below w.heap.size w w'))
   case atStart => exact ⟨(0), yZ, H', ⟨Nat.le_refl _⟩, ⟨xB BK349.out⟩, ⟨xG1 HB.out GE349.out⟩⟩
   case round =>
    clear H'
    try clear c7; try clear hcz8_0; try clear hcz8_1; try clear hfz8_0; try clear hfz8_1
    obtain ⟨x21_2, rfl, HA, HK2, BK349, HB⟩ := hrel
    cases gk with
    | zero => exact absurd HA.out (by simp [impl_IsSample.l0])
    | succ k2 =>
     have H := HA.out
     clear HA
     simp only [impl_IsSample.l0] at H
     by_cases c9 : x21_2 < (l0_0.length : Int)
     rotate_left
     ·
      rw [if_neg c9] at H
      have c9b0 := decide_eq_false c9
      clear c9
      obtain rfl := Option.some.inj H
      go_wp2
      go_ret
      exact ⟨yF, xG1 HB.out GE349.out⟩
     rw [if_pos c9] at H
     have c9b0 := decide_eq_true c9
     clear c9
     by_cases c10 : 0 ≤ x21_2
     rotate_left
     ·
      rw [if_neg c10] at H
      exact absurd H (by simp)
     rw [if_pos c10] at H
     have c10b0 := decide_eq_true c10
     clear c10
     by_cases c11 : x21_2 < (l0_0.length : Int)
     rotate_left
     ·
      rw [if_neg c11] at H
      exact absurd H (by simp)
     rw [if_pos c11] at H
     have c11b0 := decide_eq_true c11
     clear c11
     replace H := oB.mp H
     obtain ⟨t351, A120, H⟩ := H
     have A12 := aM A120
     clear A120
     by_cases c13 : t351 = true
     rotate_left
     ·
      replace c13 := Bool.eq_false_iff.mpr c13
      subst c13
      rw [if_neg (show ¬ (false = true) by decide)] at H
      obtain rfl := Option.some.inj H
      have p350 : 0 ≤ (x21_2 : Int) := yA
      have q350 : x21_2 < (l0_0.length : Int) := yA
      obtain ⟨ad350, A350_0, c350_0, e350, hx350_0, hl350_0, hi350_0⟩ := at_L1 HR0_0.out x21_2 p350 q350
      cases e350
      replace hx350_0 := (HB.out.cell (World.block_lt_of_cell? w _ hx350_0)).trans hx350_0
      have HR350_0 := aM hi350_0
      have HC350_0 := aM hl350_0
      clear hi350_0 hl350_0
      replace p350 := eq_true p350
      replace q350 := eq_true q350
      go_wp2_with (first | (refine yL 27 Try.func85 #[.slice A350_0 (rd_L1 l0_0 x21_2).length c350_0] ?_; (with_reducible refine (impl_IsPoint.calls k2 _ _ (rd_L1 l0_0 x21_2) false _ ?side1 ?side2 A12.out).mono ?_); (case side1 => exact xC (Kd.C_below HR350_0.out HB.out)); (case side2 => exact HC350_0.out); rintro e w' ⟨rfl, ⟨nd, rfl⟩⟩; refine ⟨_, rfl, ?_⟩))
      go_ret
      exact ⟨yF, xG1 HB.out GE349.out⟩
     subst c13
     rw [if_pos rfl] at H
     by_cases c14 : 0 < (l0_0.length : Int)
     rotate_left
     ·
      rw [if_neg c14] at H
      exact absurd H (by simp)
     rw [if_pos c14] at H
     have c14b0 := decide_eq_true c14
     have c14b1 : decide (0 < l0_0.length) = true := decide_eq_true (by omega)
     clear c14
     by_cases c15 : ((rd_L1 l0_0 x21_2).length : Int) = ((rd_L1 l0_0 0).length : Int)
     rotate_left
     ·
      rw [if_neg c15] at H
      have c15b0 : (((rd_L1 l0_0 x21_2).length : Int) == ((rd_L1 l0_0 0).length : Int)) = false := beq_eq_false_iff_ne.mpr c15
      have c15b1 : (((rd_L1 l0_0 x21_2).length : Int) != ((rd_L1 l0_0 0).length : Int)) = true := bne_iff_ne.mpr c15
      have c15b2 : ((rd_L1 l0_0 x21_2).length == (rd_L1 l0_0 0).length) = false := by first | simpa using c15 | (simp at c15 ⊢; omega)
      obtain rfl := Option.some.inj H
      have p350 : 0 ≤ (x21_2 : Int) := yA
      have q350 : x21_2 < (l0_0.length : Int) := yA
      obtain ⟨ad350, A350_0, c350_0, e350, hx350_0, hl350_0, hi350_0⟩ := at_L1 HR0_0.out x21_2 p350 q350
      cases e350
      replace hx350_0 := (HB.out.cell (World.block_lt_of_cell? w _ hx350_0)).trans hx350_0
      have HR350_0 := aM hi350_0
      have HC350_0 := aM hl350_0
      clear hi350_0 hl350_0
      replace p350 := eq_true p350
      replace q350 := eq_true q350
      go_wp2_with (first | (refine yL 27 Try.func85 #[.slice A350_0 (rd_L1 l0_0 x21_2).length c350_0] ?_; (with_reducible refine (impl_IsPoint.calls k2 _ _ (rd_L1 l0_0 x21_2) true _ ?side1 ?side2 A12.out).mono ?_); (case side1 => exact xC (Kd.C_below HR350_0.out HB.out)); (case side2 => exact HC350_0.out); rintro e w' ⟨rfl, ⟨nd, rfl⟩⟩; refine ⟨_, rfl, ?_⟩; have hcz21_0 : wr.cell? ⟨gb349, 0, none⟩ = some (.slice (some ad350) l0_0.length c0_0) := (bC BK349.out 0).trans rfl; have hcz21_1 : wr.cell? ⟨gb349, 1, none⟩ = some (.slice A0_1 l0_1.length c0_1) := (bC BK349.out 1).trans rfl; have hfz21_0 := bF BK349.out 0; have hfz21_1 := bF BK349.out 1; have p352 : 0 ≤ (0 : Int) := (by omega); have q352 : 0 < (l0_0.length : Int) := yA; obtain ⟨ad352, A352_0, c352_0, e352, hx352_0, hl352_0, hi352_0⟩ := at_L1 HR0_0.out 0 p352 q352; obtain rfl : ad350 = ad352 := (by injection e352); have qi352 : (0 < l0_0.length) = True := eq_true (by omega); (try rw [show ((0 : Int)).toNat = 0 from rfl] at hx352_0); (try rw [Addr.add_zero'] at hx352_0); replace hx352_0 := (HB.out.cell (World.block_lt_of_cell? w _ hx352_0)).trans hx352_0; have HR352_0 := aM hi352_0; have HC352_0 := aM hl352_0; clear hi352_0 hl352_0; replace p352 := eq_true p352; replace q352 := eq_true q352))
      go_ret
      exact ⟨yF, xG1 HB.out GE349.out⟩
     rw [if_pos c15] at H
     have c15b0 : (((rd_L1 l0_0 x21_2).length : Int) == ((rd_L1 l0_0 0).length : Int)) = true := beq_iff_eq.mpr c15
     have c15b1 : (((rd_L1 l0_0 x21_2).length : Int) != ((rd_L1 l0_0 0).length : Int)) = false := bne_eq_false_iff_eq.mpr c15
     have c15b2 : ((rd_L1 l0_0 x21_2).length == (rd_L1 l0_0 0).length) = true := by first | simpa using c15 | (simp at c15 ⊢; omega)
     clear c15
     by_cases c16 : x21_2 < (l0_1.length : Int)
     rotate_left
     ·
      rw [if_neg c16] at H
      exact absurd H (by simp)
     rw [if_pos c16] at H
     have c16b0 := decide_eq_true c16
     clear c16
     replace H := oB.mp H
     obtain ⟨t354, A170, H⟩ := H
     have A17 := aM A170
     clear A170
     by_cases c18 : t354 = true
     rotate_left
     ·
      replace c18 := Bool.eq_false_iff.mpr c18
      subst c18
      rw [if_neg (show ¬ (false = true) by decide)] at H
      obtain rfl := Option.some.inj H
      have p350 : 0 ≤ (x21_2 : Int) := yA
      have q350 : x21_2 < (l0_0.length : Int) := yA
      obtain ⟨ad350, A350_0, c350_0, e350, hx350_0, hl350_0, hi350_0⟩ := at_L1 HR0_0.out x21_2 p350 q350
      cases e350
      replace hx350_0 := (HB.out.cell (World.block_lt_of_cell? w _ hx350_0)).trans hx350_0
      have HR350_0 := aM hi350_0
      have HC350_0 := aM hl350_0
      clear hi350_0 hl350_0
      replace p350 := eq_true p350
      replace q350 := eq_true q350
      go_wp2_with (first | (refine yL 27 Try.func85 #[.slice A350_0 (rd_L1 l0_0 x21_2).length c350_0] ?_; (with_reducible refine (impl_IsPoint.calls k2 _ _ (rd_L1 l0_0 x21_2) true _ ?side1 ?side2 A12.out).mono ?_); (case side1 => exact xC (Kd.C_below HR350_0.out HB.out)); (case side2 => exact HC350_0.out); rintro e w' ⟨rfl, ⟨nd, rfl⟩⟩; refine ⟨_, rfl, ?_⟩; have hcz20_0 : wr.cell? ⟨gb349, 0, none⟩ = some (.slice (some ad350) l0_0.length c0_0) := (bC BK349.out 0).trans rfl; have hcz20_1 : wr.cell? ⟨gb349, 1, none⟩ = some (.slice A0_1 l0_1.length c0_1) := (bC BK349.out 1).trans rfl; have hfz20_0 := bF BK349.out 0; have hfz20_1 := bF BK349.out 1; have p352 : 0 ≤ (0 : Int) := (by omega); have q352 : 0 < (l0_0.length : Int) := yA; obtain ⟨ad352, A352_0, c352_0, e352, hx352_0, hl352_0, hi352_0⟩ := at_L1 HR0_0.out 0 p352 q352; obtain rfl : ad350 = ad352 := (by injection e352); have qi352 : (0 < l0_0.length) = True := eq_true (by omega); (try rw [show ((0 : Int)).toNat = 0 from rfl] at hx352_0); (try rw [Addr.add_zero'] at hx352_0); replace hx352_0 := (HB.out.cell (World.block_lt_of_cell? w _ hx352_0)).trans hx352_0; have HR352_0 := aM hi352_0; have HC352_0 := aM hl352_0; clear hi352_0 hl352_0; replace p352 := eq_true p352; replace q352 := eq_true q352; have p353 : 0 ≤ (x21_2 : Int) := yA; have q353 : x21_2 < (l0_1.length : Int) := yA; obtain ⟨ad353, e353, hx353_0⟩ := Kd.at_int HR0_1.out x21_2 p353 q353; cases e353; replace hx353_0 := (HB.out.cell (World.block_lt_of_cell? w _ hx353_0)).trans hx353_0; replace p353 := eq_true p353; replace q353 := eq_true q353) | (go_at_call 86; (with_reducible refine (impl_isLabel.calls (rd l0_1 x21_2) false _ A17.out).mono ?_); rintro e w' ⟨rfl, ⟨nd, rfl⟩⟩))
      go_ret
      exact ⟨yF, xG1 HB.out GE349.out⟩
     subst c18
     rw [if_pos rfl] at H
     have H' := aM H
     clear H
     have p350 : 0 ≤ (x21_2 : Int) := yA
     have q350 : x21_2 < (l0_0.length : Int) := yA
     obtain ⟨ad350, A350_0, c350_0, e350, hx350_0, hl350_0, hi350_0⟩ := at_L1 HR0_0.out x21_2 p350 q350
     cases e350
     replace hx350_0 := (HB.out.cell (World.block_lt_of_cell? w _ hx350_0)).trans hx350_0
     have HR350_0 := aM hi350_0
     have HC350_0 := aM hl350_0
     clear hi350_0 hl350_0
     replace p350 := eq_true p350
     replace q350 := eq_true q350
     go_wp2_with (first | (refine yL 27 Try.func85 #[.slice A350_0 (rd_L1 l0_0 x21_2).length c350_0] ?_; (with_reducible refine (impl_IsPoint.calls k2 _ _ (rd_L1 l0_0 x21_2) true _ ?side1 ?side2 A12.out).mono ?_); (case side1 => exact xC (Kd.C_below HR350_0.out HB.out)); (case side2 => exact HC350_0.out); rintro e w' ⟨rfl, ⟨nd, rfl⟩⟩; refine ⟨_, rfl, ?_⟩; have hcz19_0 : wr.cell? ⟨gb349, 0, none⟩ = some (.slice (some ad350) l0_0.length c0_0) := (bC BK349.out 0).trans rfl; have hcz19_1 : wr.cell? ⟨gb349, 1, none⟩ = some (.slice A0_1 l0_1.length c0_1) := (bC BK349.out 1).trans rfl; have hfz19_0 := bF BK349.out 0; have hfz19_1 := bF BK349.out 1; have p352 : 0 ≤ (0 : Int) := (by omega); have q352 : 0 < (l0_0.length : Int) := yA; obtain ⟨ad352, A352_0, c352_0, e352, hx352_0, hl352_0, hi352_0⟩ := at_L1 HR0_0.out 0 p352 q352; obtain rfl : ad350 = ad352 := (by injection e352); have qi352 : (0 < l0_0.length) = True := eq_true (by omega); (try rw [show ((0 : Int)).toNat = 0 from rfl] at hx352_0); (try rw [Addr.add_zero'] at hx352_0); replace hx352_0 := (HB.out.cell (World.block_lt_of_cell? w _ hx352_0)).trans hx352_0; have HR352_0 := aM hi352_0; have HC352_0 := aM hl352_0; clear hi352_0 hl352_0; replace p352 := eq_true p352; replace q352 := eq_true q352; have p353 : 0 ≤ (x21_2 : Int) := yA; have q353 : x21_2 < (l0_1.length : Int) := yA; obtain ⟨ad353, e353, hx353_0⟩ := Kd.at_int HR0_1.out x21_2 p353 q353; cases e353; replace hx353_0 := (HB.out.cell (World.block_lt_of_cell? w _ hx353_0)).trans hx353_0; replace p353 := eq_true p353; replace q353 := eq_true q353) | (go_at_call 86; (with_reducible refine (impl_isLabel.calls (rd l0_1 x21_2) true _ A17.out).mono ?_); rintro e w' ⟨rfl, ⟨nd, rfl⟩⟩))
     go_roundg k2
     case measure => have := HJ1.out; have := HK2.out; omega
     case rel => exact ⟨(wrap64 (x21_2 + 1)), yZ, H', ⟨by have := HJ1.out; have := HK2.out; omega⟩, ⟨xB BK349.out⟩, ⟨xG1 HB.out GE349.out⟩⟩
def impl_areFew.l0 : Nat → List (List Int) → List Int → Int → Int → Option (Bool)
 | 0, _, _, _, _ => none
 | k + 1, x0, x3, x9, x10 => if x10 < x9 then (if 0 ≤ x10 then (if x10 < (x3.length : Int) then (impl_areFew.l0 k x0 (x3.set (x10 : Int).toNat 1) x9 (wrap64 (x10 + 1))) else (none)) else (none)) else (if (x0.length : Int) ≤ 8 then ((impl_IsSample.f k x0 x3).bind fun t359 => (some t359)) else (some false))
def impl_areFew.f (k : Nat) (l0 : List (List Int)) : Option (Bool) := if 0 ≤ (l0.length : Int) then (if ((l0.length : Int) : Int).toNat ≤ 35184372088832 then ((some (List.replicate ((l0.length : Int) : Int).toNat 0 : List Int)).bind fun y355 => (impl_areFew.l0 k l0 y355 (y355.length : Int) 0)) else (none)) else (none)
theorem impl_areFew.calls (k : Nat) (A0 : Option Addr) (c0 : Nat) (l0 : List (List Int)) (r : Bool) (w : World) (hr0 : Kd.C (Kd.slice 3 (Kd.int .i64)) w A0 l0.length l0) (hc0 : l0.length ≤ c0) (h : impl_areFew.f k l0 = some r) :
  Calls Try.prog 44 #[.slice A0 l0.length c0] w fun e w' => e = .returned (.bool r) ∧ Below w.heap.size w w' := by
 have hu43 := Try.underlying43
 have HR0 := aM hr0
 have HC0 := aM hc0
 clear hr0 hc0
 have HB := aM (Below.refl w.heap.size w)
 have H : (if 0 ≤ (l0.length : Int) then (if ((l0.length : Int) : Int).toNat ≤ 35184372088832 then ((some (List.replicate ((l0.length : Int) : Int).toNat 0 : List Int)).bind fun y355 => (impl_areFew.l0 k l0 y355 (y355.length : Int) 0)) else (none)) else (none)) = some r := h
 clear h
 by_cases c2 : 0 ≤ (l0.length : Int)
 rotate_left
 ·
  rw [if_neg c2] at H
  exact absurd H (by simp)
 rw [if_pos c2] at H
 have c2b0 := eq_true c2
 have c2b1 : decide (0 ≤ (l0.length : Int)) = true := decide_eq_true c2
 clear c2
 by_cases c3 : ((l0.length : Int) : Int).toNat ≤ 35184372088832
 rotate_left
 ·
  rw [if_neg c3] at H
  exact absurd H (by simp)
 rw [if_pos c3] at H
 have c3b0 := eq_true c3
 have c3b1 : decide (((l0.length : Int) : Int).toNat ≤ 35184372088832) = true := decide_eq_true c3
 clear c3
 obtain ⟨y355, hy355⟩ := yE (List.replicate ((l0.length : Int) : Int).toNat 0 : List Int)
 replace H : (impl_areFew.l0 k l0 y355 (y355.length : Int) 0) = some r := yI hy355 H
 have Ny355 := aM hy355
 clear hy355
 have H' := aM H
 clear H
 go_enter Try.func44, Try.ntmps44
 go_wp2_with (first | ((with_reducible refine gate_dst (N := 7) rfl ?_); refine Kd.R_make (Kd.int .i64) _ 3 rfl (N := 7) rfl 22 _ _ rfl (l0.length : Int) rfl rfl Try.underlying22 (.int .i64 0) 8 info3 rfl (by decide) (by omega) 0 (ok := fun _ => True) (okp := fun _ => True) rfl (fun _ hk => hk) trivial (yA) (Nat.le_trans (Nat.mul_le_mul_right _ (yA : (l0.length : Int).toNat ≤ 35184372088832)) (by omega)) (Below.refl _ _) (Nat.le_refl _) ?_; intro v356 w4 ho5 hb hg_ hnew_; clear hg_ hnew_; (first | rw [← Ny355.out] at ho5 | (simp only [Int.reduceToNat] at ho5; rw [← Ny355.out] at ho5)); have HO357 := aM (Kd.R_lower ho5 (below_size (xH HB.out))); replace HB := yS0 HB hb; clear hb ho5; obtain ⟨Ao6, co6, eo6⟩ := Kd.R_slice HO357.out; subst eo6))
 go_loopg [10] k (fun kq v10 w' => ∃ (x3_1 : List Int) (x10_1 : Int), v10 = .int .i64 x10_1 ∧ Aside0 (impl_areFew.l0 kq l0 x3_1 (y355.length : Int) x10_1 = some r) ∧ Aside0 (kq ≤ k) ∧ Aside0 (Kd.R (Kd.int .i64) 3 w' w.heap.size (fun _ => True) (.slice Ao6 y355.length co6) x3_1) ∧ Aside0 (Below w.heap.size w w'))
 case atStart => exact ⟨(y355), (0), yZ, H', ⟨Nat.le_refl _⟩, ⟨xR HO357.out⟩, ⟨xH HB.out⟩⟩
 case round =>
  clear H'
  try clear c2; try clear c2b0; try clear c2b1; try clear c3; try clear c3b0; try clear c3b1; try clear c4
  obtain ⟨x3_1, x10_1, rfl, HA, HK1, HO_3, HB⟩ := hrel
  have hl3_1 := (Kd.R_reads' HO_3.out).1
  rw [hl3_1] at HO_3
  (try simp only [hl3_1])
  cases gk with
  | zero => exact absurd HA.out (by simp [impl_areFew.l0])
  | succ k1 =>
   have H := HA.out
   clear HA
   simp only [impl_areFew.l0] at H
   by_cases c7 : x10_1 < (y355.length : Int)
   rotate_left
   ·
    rw [if_neg c7] at H
    have c7b0 := decide_eq_false c7
    have c7b9 := c7b0
    (try simp only [hl3_1] at c7b9)
    clear c7
    by_cases c13 : (l0.length : Int) ≤ 8
    rotate_left
    ·
     rw [if_neg c13] at H
     have c13b0 := decide_eq_false c13
     have c13b1 : decide (l0.length ≤ 8) = false := decide_eq_false (by omega)
     clear c13
     obtain rfl := Option.some.inj H
     go_wp2
     go_ret
     exact ⟨yF, by repeat (first | (with_reducible first | exact HB.out | apply eA | apply eN | apply eD) | exact HB.out)⟩
    rw [if_pos c13] at H
    have c13b0 := decide_eq_true c13
    have c13b1 : decide (l0.length ≤ 8) = true := decide_eq_true (by omega)
    clear c13
    replace H := oB.mp H
    obtain ⟨t359, A140, H⟩ := H
    have A14 := aM A140
    clear A140
    obtain rfl := Option.some.inj H
    go_wp2_with (first | (go_at_call 64; (with_reducible refine (impl_IsSample.calls k1 _ _ l0 _ _ x3_1 t359 _ ?side1 ?side2 ?side3 ?side4 A14.out).mono ?_); (case side1 => exact xC (Kd.C_below HR0.out HB.out)); (case side2 => exact HC0.out); (case side3 => exact xC (Kd.R_reads' HO_3.out).2.2); (case side4 => exact (Kd.R_reads' HO_3.out).2.1); rintro e w15 ⟨rfl, hb⟩; replace HO_3 := aM (Kd.R_below (xR HO_3.out) hb); replace HB := yS0 HB hb; (try clear hb; try clear hk; try clear hi)))
    go_ret
    exact ⟨yF, by repeat (first | (with_reducible first | exact HB.out | apply eA | apply eN | apply eD) | exact HB.out)⟩
   rw [if_pos c7] at H
   have c7b0 := decide_eq_true c7
   clear c7
   by_cases c8 : 0 ≤ x10_1
   rotate_left
   ·
    rw [if_neg c8] at H
    exact absurd H (by simp)
   rw [if_pos c8] at H
   have c8b0 := decide_eq_true c8
   clear c8
   by_cases c9 : x10_1 < (x3_1.length : Int)
   rotate_left
   ·
    rw [if_neg c9] at H
    exact absurd H (by simp)
   rw [if_pos c9] at H
   have c9b0 := decide_eq_true c9
   clear c9
   obtain ⟨y358, hy358⟩ := yE (x3_1.set (x10_1 : Int).toNat 1 : List Int)
   replace H : (impl_areFew.l0 k1 l0 y358 (y355.length : Int) (wrap64 (x10_1 + 1))) = some r := yI hy358 H
   have Ny358 := aM hy358
   clear hy358
   have H' := aM H
   clear H
   have p10 : 0 ≤ (x10_1 : Int) := yA
   have q10 : (x10_1 : Int) < ((x3_1.length : Int) : Int) := yA
   obtain ⟨go10, co10, eo10, gb10, gl10, cl10, HG10⟩ := Kd.R_form HO_3.out (by omega)
   (first | cases eo10 | (injection eo10 with ea_ en_ ec_; (first | subst ea_ | (injection ea_ with ea_; subst ea_)); subst ec_; clear en_))
   have GB10 := aM gb10
   have GG10 := aM HG10
   clear gb10 gl10 HG10
   obtain ⟨hx10_0, hf10_0⟩ := Kd.R_celln 0 HO_3.out (x10_1 : Int) p10 q10
   replace p10 := eq_true p10
   replace q10 := eq_true q10
   have HP11 := Kd.R_putg HO_3.out (x10_1 : Int) 1
   go_wp2_with (first | ((with_reducible refine gate_store (t := 3) (p := 15) rfl ?_); refine store_event (t := 3) (p := 15) (v := ?vo_w12) (w1 := (wr.setCell ⟨go10, (x10_1 : Int).toNat, none⟩ (.int .i64 1))) ?hg ?ho ?hn ?hr ?_; (case ho => rfl); (case hg => rfl); (case hn => rfl); (case hr => first | (go_simp; done) | (go_simp; rfl)); intro w12 hw; have hg : wr.grownBy w12 (some go10) := (by rw [hw]; exact HP11.2); have hp_ : Kd.R (Kd.int .i64) 3 w12 w.heap.size (fun _ => True) (.slice (some ⟨go10, 0, none⟩) x3_1.length co6) y358 := (by rw [hw, Ny358.out]; exact HP11.1); clear HP11; replace HO_3 := aM (hp_); replace HB := aM ((by rw [hw]; exact eS (HB.out) GB10.out : Below w.heap.size w w12)); clear hg hw hp_))
   (try simp only [← hl3_1])
   go_roundg k1
   case measure => have := HK1.out; omega
   case rel => exact ⟨(y358), (wrap64 (x10_1 + 1)), yZ, H', ⟨by have := HK1.out; omega⟩, ⟨by (try simp only [hl3_1]); (with_reducible repeat (first | apply rA | apply rN | apply rD)); exact HO_3.out⟩, ⟨xH HB.out⟩⟩
def labelsOf (m s : Nat) : List Int := (List.range m).map fun i : Nat => 2 * ((s / 2 ^ (m - 1 - i) % 2 : Nat) : Int) - 1
theorem labelsOf_take (m s i : Nat) (h : i < m) : ((List.range i).map fun i : Nat => 2 * ((s / 2 ^ (m - 1 - i) % 2 : Nat) : Int) - 1) ++ [2 * ((s / 2 ^ (m - 1 - i) % 2 : Nat) : Int) - 1] = (List.range (i + 1)).map fun i : Nat => 2 * ((s / 2 ^ (m - 1 - i) % 2 : Nat) : Int) - 1 := by
 rw [List.range_succ, List.map_append]; rfl
theorem labels_and (a : Nat) (ha : a < 2 ^ 62) : Go.bits .and .i64 (a : Int) 1 = ((a % 2 : Nat) : Int) := by
 have h := (bits_nat .i64 63 (by decide) (fun n h₀ h₁ => by rw [IntKind.wrap_i64]; omega) a 1 (by omega) (by decide)).1
 rw [show ((1 : Nat) : Int) = 1 from rfl] at h
 rw [h, Nat.and_one_is_mod]
theorem labels_wrap (q : Nat) (h : q < 2) : wrap64 (wrap64 (2 * (q : Int)) - 1) = 2 * (q : Int) - 1 := by unfold wrap64; omega
theorem labelings_calls (m : Nat) (hm : m ≤ 8) (G : FuncId) (fn : Func) (hG : Try.prog.funcs[G]? = some fn) (hname : (fn.name == "runtime.NumGoroutine") = false) (hbody : fn.body.isSome = true) (caps : Array Value) (f : List Int → Bool) (w : World)
  (hf : ∀ s : Nat, s < 2 ^ m → ∀ W A c, Below w.heap.size w W → Kd.C (Kd.int .i64) W A (labelsOf m s).length (labelsOf m s) → (labelsOf m s).length ≤ c → Calls Try.prog G (#[.slice A (labelsOf m s).length c] ++ caps) W fun e W' => e = .returned (.bool (f (labelsOf m s))) ∧ Below W.heap.size W W') :
  Calls Try.prog 45 #[.int .i64 (m : Int), .func (.func G) #[] caps] w fun e w' => ∃ v0_ : Value, e = .returned v0_ ∧ Kd.S (Kd.slice 3 (Kd.int .i64)) 22 w' w.heap.size (fun _ => True) v0_ (((List.range (2 ^ m)).map (labelsOf m)).filter f) ∧ Below w.heap.size w w' := by
 have HB := aM (Below.refl w.heap.size w)
 have HF := aM hf
 clear hf
 have hp : 2 ^ m ≤ 256 := Nat.pow_le_pow_right (n := 2) (by decide) hm
 have HP0 := hp
 obtain ⟨pw, hpw⟩ : ∃ p, 2 ^ m = p := ⟨_, rfl⟩
 have hcast : ((2 : Int) ^ m) = (pw : Int) := by rw [← hpw]; simp
 rw [hpw] at hp HF ⊢
 have hsh : Go.IntKind.i64.wrap (1 * 2 ^ min (m : Int).toNat 64) = (pw : Int) := by
  rw [Int.toNat_natCast, show min m 64 = m by omega, Int.one_mul, IntKind.wrap_i64, hcast]
  omega
 have hsh2 : Go.IntKind.i64.wrap (2 ^ m) = (pw : Int) := by rw [IntKind.wrap_i64, hcast]; omega
 have hsh3 : wrap64 (2 ^ m) = (pw : Int) := by rw [hcast]; unfold wrap64; omega
 have hwp : wrap64 (pw : Int) = (pw : Int) := by unfold wrap64; omega
 have HP := aM hp
 clear hp HP0
 have h0m : decide (0 ≤ (m : Int)) = true := decide_eq_true (by omega)
 have h0m' : (0 ≤ (m : Int)) = True := eq_true (by omega)
 go_enter Try.func45, Try.ntmps45
 go_wp2_with (first | ((with_reducible refine gate_dst (N := 9) rfl ?_); refine Kd.S_lit (Kd.slice 3 (Kd.int .i64)) _ 22 ?hg (N := 9) ?hd (xs := ([] : List (List Int))) (inner := []) (ok := fun _ => True) (okp := fun _ => True) ?hr ?hp (fun _ hk => hk) trivial (Below.refl _ _) (Nat.le_refl _) (by simp) ?_; (case hd => rfl); (case hg => rfl); (case hr => first | (go_simp; done) | (go_simp; rfl)); (case hp => exact (Reps.none _ _)); intro v102 w2 ho3 hb hg_ hnew_; clear hg_ hnew_; have HO := aM (Kd.S_lower ho3 (below_size HB.out)); replace HB := aM (below_step HB.out hb); clear hb ho3))
 (try rw [hwp])
 go_loopw [5, 12] (fun v5 v12 w' => ∃ s : Nat, v12 = .int .i64 (s : Int) ∧ Aside0 (s ≤ pw) ∧ Aside0 (Kd.S (Kd.slice 3 (Kd.int .i64)) 22 w' w.heap.size (fun _ => True) v5 (((List.range s).map (labelsOf m)).filter f)) ∧ Aside0 (Below w.heap.size w w')) (fun _ v12 _ => pw - (intOf v12).toNat)
 case atStart => exact ⟨0, rfl, ⟨Nat.zero_le _⟩, HO, HB⟩
 case round =>
  clear HO HB
  obtain ⟨s, rfl, HJ, HO, HB⟩ := hrel
  by_cases cs : s < pw
  ·
   have d0 : decide ((s : Int) < (pw : Int)) = true := decide_eq_true (by omega)
   have d1 : decide (s < pw) = true := decide_eq_true cs
   have HSL := aM cs
   go_wp2_with (first | ((with_reducible refine gate_dst (N := 15) rfl ?_); refine Kd.R_lit (Kd.int .i64) _ 3 ?hg (N := 15) ?hd (xs := ([] : List Int)) (inner := []) (ok := fun _ => True) (okp := fun _ => True) ?hr ?hp (fun _ hk => hk) trivial (Below.refl _ _) (Nat.le_refl _) (by simp) ?_; (case hd => rfl); (case hg => rfl); (case hr => first | (go_simp; done) | (go_simp; rfl)); (case hp => exact (Reps.none _ _)); intro v105 w7 ho8 hb hg_ hnew_; clear hg_ hnew_; replace HO := aM (Kd.S_elder' (xS HO.out) (Kd.R_base ho8) hb); have HH := aM (Kd.R_lower ho8 (below_size (xH HB.out))); replace HB := yS0 HB hb; clear hb ho8))
   go_loopw [7, 17] (fun v7 v17 w' => ∃ i : Nat, v17 = .int .i64 (i : Int) ∧ Aside0 (i ≤ m) ∧ Aside0 (Kd.S (Kd.slice 3 (Kd.int .i64)) 22 w' w.heap.size (fun k_ => some k_ ≠ (v7 : Value).ownBlock) u5 (((List.range s).map (labelsOf m)).filter f)) ∧ Aside0 (Kd.R (Kd.int .i64) 3 w' w.heap.size (fun _ => True) v7 ((List.range i).map (fun i : Nat => 2 * ((s / 2 ^ (m - 1 - i) % 2 : Nat) : Int) - 1))) ∧ Aside0 (Below w.heap.size w w')) (fun _ v17 _ => m - (intOf v17).toNat)
   case atStart => exact ⟨0, rfl, ⟨Nat.zero_le _⟩, ⟨Kd.S_mono HO.out (fun _ hk => hk.2)⟩, HH, HB⟩
   case round =>
    clear HO HB HH
    obtain ⟨i, rfl, HI, HO, HH, HB⟩ := hrel
    by_cases ci : i < m
    ·
     have d2 : decide ((i : Int) < (m : Int)) = true := decide_eq_true (by omega)
     have d3 : decide (i < m) = true := decide_eq_true ci
     have HIL := aM ci
     have hsb : (s : Int) ≤ 256 := by have := HP.out; have := HSL.out; omega
     have h0s : (0 : Int) ≤ (s : Int) := by omega
     have h0i : (0 : Int) ≤ (i : Int) := by omega
     have e3 : (s : Int) / 2 ^ (m - 1 - i) = ((s / 2 ^ (m - 1 - i) : Nat) : Int) := by simp
     have e2 := labels_and (s / 2 ^ (m - 1 - i)) (Nat.lt_of_le_of_lt (Nat.div_le_self _ _) (by have := HP.out; have := HSL.out; omega))
     have hdg0 : wrap64 (wrap64 (2 * Go.bits .and .i64 ((s : Int) / 2 ^ (m - 1 - i)) 1) - 1) = 2 * ((s / 2 ^ (m - 1 - i) % 2 : Nat) : Int) - 1 := by
      rw [e3, e2]; exact labels_wrap _ (Nat.mod_lt _ (by decide))
     obtain ⟨dg, hdg1⟩ : ∃ dg, wrap64 (wrap64 (2 * Go.bits .and .i64 ((s : Int) / 2 ^ (m - 1 - i)) 1) - 1) = dg := ⟨_, rfl⟩
     have hdg : 2 * ((s / 2 ^ (m - 1 - i) % 2 : Nat) : Int) - 1 = dg := by rw [← hdg0]; exact hdg1
     clear e3 e2 hdg0
     have HDG := aM hdg
     go_wp2_with (first | ((with_reducible refine gate_builtin (b := .append) (xs := #[.tmp 20, .tmp 30]) rfl ?_); at_builtin; refine Kd.R_append (Kd.int .i64) (w0 := w) w.heap.size rfl (.tmp 20) (.tmp 30) 22 3 (.int .i64 0) 8 rfl Try.underlying22 info3 rfl (by decide) (by omega) u7 ((List.range i).map (fun i : Nat => 2 * ((s / 2 ^ (m - 1 - i) % 2 : Nat) : Int) - 1)) dg [.int .i64 dg] (fun _ => True) (fun _ => False) rfl rfl ?aP (fun _ hk => hk.elim) ?aF ?aO ?aB ?aS ?aL ?_; (case aP => exact rfl); (case aB => exact (xH HB.out)); (case aF => exact (fun _ _ => trivial)); (case aO => exact (xR HH.out)); (case aS => exact (below_size (xH HB.out))); (case aL => rw [List.length_map, List.length_range]; omega); intro v108 w14 ho hb hg hat; replace HO := aM (Kd.S_after (ok := (fun _ => True)) (zS (Kd.S_mono HO.out (fun _ hk => ⟨trivial, hk⟩))) hg hat); replace HB := aM (hb); replace HH := aM (ho); clear ho hb hg hat))
     go_roundw
     case rel =>
      have h1 := HH.out
      rw [← HDG.out, labelsOf_take m s i HIL.out] at h1
      exact ⟨i + 1, by go_num, ⟨HIL.out⟩, ⟨Kd.S_mono HO.out (fun _ hk => hk.2)⟩, ⟨h1⟩, HB⟩
     case measure => have := HIL.out; simp [intOf]; omega
    ·
     have d2 : decide ((i : Int) < (m : Int)) = false := decide_eq_false (by omega)
     have d3 : decide (i < m) = false := decide_eq_false ci
     have ei : i = m := by have := HI.out; omega
     have h1 := HH.out
     rw [ei] at h1
     have h2 : Kd.R (Kd.int .i64) 3 wr w.heap.size (fun _ => True) u7 (labelsOf m s) := h1
     have hsb : (s : Int) ≤ 256 := by have := HP.out; have := HSL.out; omega
     have h0s : (0 : Int) ≤ (s : Int) := by omega
     have hlen : (((List.range s).map (labelsOf m)).filter f).length ≤ 256 := Nat.le_trans (List.length_filter_le _ _) (by rw [List.length_map, List.length_range]; have := HP.out; have := HSL.out; omega)
     obtain ⟨lab, hlab⟩ : ∃ l, labelsOf m s = l := ⟨_, rfl⟩
     have hfs := HF.out s HSL.out
     rw [hlab] at h2 hfs
     obtain ⟨Ah, ch, rfl⟩ := Kd.R_slice h2
     clear HH h1
     have HH := aM h2
     have HLAB := aM hlab
     have hke := hfs wr Ah ch HB.out (Kd.R_reads' h2).2.2 (Kd.R_reads' h2).2.1
     have hE := fun args W => enters_ hG hname hbody args W
     have HNX := aM (show ((List.range (s + 1)).map (labelsOf m)).filter f = ((List.range s).map (labelsOf m)).filter f ++ (if f lab = true then [lab] else []) by rw [List.range_succ, List.map_append, List.filter_append]; simp [hlab, List.filter_cons])
     clear h2 hlab hfs ei ci
     cases hb_ : f lab with
     | false =>
      rw [hb_] at hke
      have HKE := aM hke
      clear hke
      go_wp2_with (first | ((with_reducible refine HKE.out.mono ?_); rintro e w15 ⟨rfl, hb⟩; have HO := aM (Kd.S_below HO.out hb); have HH := aM (Kd.R_below HH.out hb); have HB := aM (below_step HB.out hb)))
      go_roundw
      case rel => exact ⟨s + 1, by go_num, ⟨HSL.out⟩, ⟨by rw [HNX.out, hb_, if_neg (by decide), List.append_nil]; exact Kd.S_mono HO.out (fun _ _ => trivial)⟩, HB⟩
      case measure => have := HSL.out; simp [intOf]; omega
     | true =>
      rw [hb_] at hke
      have HKE := aM hke
      clear hke
      go_wp2_with (first | ((with_reducible refine HKE.out.mono ?_); rintro e w15 ⟨rfl, hb⟩; have HO := aM (Kd.S_below HO.out hb); have HH := aM (Kd.R_below HH.out hb); have HB := aM (below_step HB.out hb)) | ((with_reducible refine gate_builtin (b := .append) (xs := #[.tmp 36, .tmp 38]) rfl ?_); at_builtin; refine Kd.S_append (Kd.slice 3 (Kd.int .i64)) (w0 := w) w.heap.size rfl (.tmp 36) (.tmp 38) 32 22 (.slice none 0 0) 24 rfl Try.underlying32 info22 rfl (by decide) (by omega) u5 (((List.range s).map (labelsOf m)).filter f) lab [.slice Ah lab.length ch] (fun _ => True) (fun k_ => some k_ = (.slice Ah lab.length ch : Value).ownBlock) rfl rfl ?aP (fun k_ hk_ => ((rM (ok' := fun k_ => ((fun _ => True)) k_ ∧ some k_ ≠ (u5 : Value).ownBlock) (Kd.R_apart' (HH.out) (Kd.S_typed HO.out) (by decide)) (fun k_ hk => ⟨trivial, hk.2⟩))).1 k_ hk_.symm) ?aF ?aO ?aB ?aS ?aL ?_; (case aP => exact Kd.M_row (rM (Kd.R_tight rfl (rM (ok' := fun k_ => ((fun _ => True)) k_ ∧ some k_ ≠ (u5 : Value).ownBlock) (Kd.R_apart' (HH.out) (Kd.S_typed HO.out) (by decide)) (fun k_ hk => ⟨trivial, hk.2⟩))) (fun _ h_ => h_))); (case aB => exact (xH HB.out)); (case aF => exact (fun _ _ => trivial)); (case aO => exact (zS (Kd.S_mono HO.out (fun k_ hk => ⟨trivial, fun e_ => hk e_⟩)))); (case aS => exact (below_size (xH HB.out))); (case aL => omega); intro v111 w16 ho hb hg hat; replace HB := aM (hb); replace HO := aM (ho); clear HH; clear ho hb hg hat))
      go_roundw
      case rel => exact ⟨s + 1, by go_num, ⟨HSL.out⟩, ⟨by rw [HNX.out, hb_, if_pos rfl]; exact HO.out⟩, HB⟩
      case measure => have := HSL.out; simp [intOf]; omega
  ·
   have d0 : decide ((s : Int) < (pw : Int)) = false := decide_eq_false (by omega)
   have d1 : decide (s < pw) = false := decide_eq_false cs
   have e : s = pw := by have := HJ.out; omega
   have HE := aM e
   clear e cs
   go_wp2
   go_ret
   exact ⟨_, rfl, by have h1 := HO.out; rw [HE.out] at h1; exact h1, HB.out⟩
end Go.Proofs.Ytgidnmpppbkamaa.PFnExactPlaneClass
