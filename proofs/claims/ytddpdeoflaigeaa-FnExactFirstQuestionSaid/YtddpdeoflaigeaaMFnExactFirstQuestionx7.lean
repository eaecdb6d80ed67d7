-- Laid for this claim by a program of the session's own (wip/tool/myprint.py).
import Derived.Test.YtddpdeoflaigeaaMFnExactFirstQuestionx0
import Derived.Test.YtddpdeoflaigeaaMFnExactFirstQuestionx6
namespace Go.Proofs.Ytddpdeoflaigeaa.PFnExactFirstQuestion
open Go.RowKit Go.Proofs.YtddpdeoflaigeaaW.PrintWords Go.Proofs.YtddpdeoflaigeaaW.PrintLast Go.Proofs.YtddpdeoflaigeaaW.PrintMore
attribute [local go_sem] max2_int min2_int max_two min_two max_three min_three max_four min_four   -- for this text's walks alone
set_option linter.unusedVariables false
set_option linter.unusedSimpArgs false

/-! ### impl_IsClass: function 70 -/
mutual
def impl_IsClass.j0 : Nat → List (List Int) → Bool → Option (Bool)
  | 0, _, _ => none
  | k + 1, x0, x15 => if x15 = true then (some false) else (impl_IsClass.l0 k x0 x0 (x0.length : Int) 0)
def impl_IsClass.l0 : Nat → List (List Int) → List (List Int) → Int → Int → Option (Bool)
  | 0, _, _, _, _ => none
  | k + 1, x0, x16, x17, x18 => if x18 < x17 then (if 0 ≤ x18 then (if x18 < (x16.length : Int) then (if 0 < (x0.length : Int) then (if ((rd_L1 x16 x18).length : Int) = ((rd_L1 x0 0).length : Int) then ((impl_areLabels.f k (rd_L1 x16 x18)).bind fun t201 => (if t201 = true then (if x18 > 0 then (if 0 ≤ (wrap64 (x18 - 1)) then (if (wrap64 (x18 - 1)) < (x0.length : Int) then ((slices_Compare_int_int.f k (rd_L1 x0 (wrap64 (x18 - 1))) (rd_L1 x16 x18)).bind fun t203 => (if t203 ≥ 0 then (some false) else (impl_IsClass.l0 k x0 x16 x17 (wrap64 (x18 + 1))))) else (none)) else (none)) else (impl_IsClass.l0 k x0 x16 x17 (wrap64 (x18 + 1)))) else (some false))) else (some false)) else (none)) else (none)) else (none)) else (some true)
end
def impl_IsClass.f (k : Nat) (l0 : List (List Int)) : Option (Bool) := (impl_within.f (l0.length : Int) 1 256).bind fun t197 => (if t197 = true then (if 0 < (l0.length : Int) then (impl_IsClass.j0 k l0 (decide (((rd_L1 l0 0).length : Int) > 8))) else (none)) else (impl_IsClass.j0 k l0 true))
theorem impl_IsClass.mono_l : ∀ k, (∀ y0 y1, LeO (impl_IsClass.j0 k y0 y1) (impl_IsClass.j0 (k + 1) y0 y1)) ∧ (∀ y0 y1 y2 y3, LeO (impl_IsClass.l0 k y0 y1 y2 y3) (impl_IsClass.l0 (k + 1) y0 y1 y2 y3))
  | 0 => ⟨fun _ _ r h => by simp [impl_IsClass.j0] at h, fun _ _ _ _ r h => by simp [impl_IsClass.l0] at h⟩
  | k + 1 => by
    obtain ⟨ih0, ih1⟩ := impl_IsClass.mono_l k
    refine ⟨?_, ?_⟩
    · intro y0 y1
      unfold impl_IsClass.j0
      repeat' first
      | (with_reducible exact ih0 _ _)
      | (with_reducible exact ih1 _ _ _ _)
      | (with_reducible exact impl_areLabels.mono _ _)
      | (with_reducible exact slices_Compare_int_int.mono _ _ _)
      | (with_reducible exact LeO.refl _)
      | (with_reducible exact LeO.none _)
      | (with_reducible refine LeO.ite ?_ ?_)
      | (with_reducible refine LeO.bind ?_ (fun _ => ?_))
      | exact ih0 _ _
      | exact ih1 _ _ _ _
      | exact impl_areLabels.mono _ _
      | exact slices_Compare_int_int.mono _ _ _
      | exact LeO.none _
      | refine LeO.ite ?_ ?_
      | refine LeO.bind ?_ (fun _ => ?_)
    · intro y0 y1 y2 y3
      unfold impl_IsClass.l0
      repeat' first
      | (with_reducible exact ih0 _ _)
      | (with_reducible exact ih1 _ _ _ _)
      | (with_reducible exact impl_areLabels.mono _ _)
      | (with_reducible exact slices_Compare_int_int.mono _ _ _)
      | (with_reducible exact LeO.refl _)
      | (with_reducible exact LeO.none _)
      | (with_reducible refine LeO.ite ?_ ?_)
      | (with_reducible refine LeO.bind ?_ (fun _ => ?_))
      | exact ih0 _ _
      | exact ih1 _ _ _ _
      | exact impl_areLabels.mono _ _
      | exact slices_Compare_int_int.mono _ _ _
      | exact LeO.none _
      | refine LeO.ite ?_ ?_
      | refine LeO.bind ?_ (fun _ => ?_)
theorem impl_IsClass.mono : ∀ a0 k, LeO (impl_IsClass.f k a0) (impl_IsClass.f (k + 1) a0) := by
  intro a0 k
  obtain ⟨ih0, ih1⟩ := impl_IsClass.mono_l k
  unfold impl_IsClass.f
  repeat' first
      | (with_reducible exact ih0 _ _)
      | (with_reducible exact ih1 _ _ _ _)
      | (with_reducible exact impl_areLabels.mono _ _)
      | (with_reducible exact slices_Compare_int_int.mono _ _ _)
      | (with_reducible exact LeO.refl _)
      | (with_reducible exact LeO.none _)
      | (with_reducible refine LeO.ite ?_ ?_)
      | (with_reducible refine LeO.bind ?_ (fun _ => ?_))
      | exact ih0 _ _
      | exact ih1 _ _ _ _
      | exact impl_areLabels.mono _ _
      | exact slices_Compare_int_int.mono _ _ _
      | exact LeO.none _
      | refine LeO.ite ?_ ?_
      | refine LeO.bind ?_ (fun _ => ?_)
set_option maxHeartbeats 8000000 in
set_option maxRecDepth 100000 in
theorem impl_IsClass.calls (k : Nat) (A0 : Option Addr) (c0 : Nat) (l0 : List (List Int)) (r : Bool) (w : World) (hr0 : Kd.C (Kd.slice 3 (Kd.int .i64)) w A0 l0.length l0) (hc0 : l0.length ≤ c0) (h : impl_IsClass.f k l0 = some r) :
    Calls Try.prog 70 #[.slice A0 l0.length c0] w fun e w' => e = .returned (.bool r) ∧ Drawn0 w w' := by
  have HR0 := Aside0.mk hr0
  have HC0 := Aside0.mk hc0
  clear hr0 hc0
  have H : ((impl_within.f (l0.length : Int) 1 256).bind fun t197 => (if t197 = true then (if 0 < (l0.length : Int) then (impl_IsClass.j0 k l0 (decide (((rd_L1 l0 0).length : Int) > 8))) else (none)) else (impl_IsClass.j0 k l0 true))) = some r := h
  clear h
  have HC2 := Aside0.mk H
  clear H
  go_enter Try.func70, Try.ntmps70
  go_upto_region 1 with (fail)
  go_cut [15] (fun v15 wc => ∃ (kq : Nat) (x15_1 : Bool), v15 = .bool x15_1 ∧ Aside0 (impl_IsClass.j0 kq l0 x15_1 = some r) ∧ Aside0 (kq ≤ k) ∧ Drawn0 w wc)
  case first =>
    have H := HC2.out
    clear HC2
    replace H := Option.bind_eq_some_iff.mp H
    obtain ⟨t197, A30, H⟩ := H
    replace H : (if t197 = true then (if 0 < (l0.length : Int) then (impl_IsClass.j0 k l0 (decide (((rd_L1 l0 0).length : Int) > 8))) else (none)) else (impl_IsClass.j0 k l0 true)) = some r := H
    have A3 := Aside0.mk A30
    clear A30
    by_cases c4 : t197 = true
    · subst c4
      have H1 : (if 0 < (l0.length : Int) then (impl_IsClass.j0 k l0 (decide (((rd_L1 l0 0).length : Int) > 8))) else (none)) = some r := by rw [if_pos rfl] at H; exact H
      clear H
      have H := H1
      clear H1
      by_cases c5 : 0 < (l0.length : Int)
      · rw [if_pos c5] at H
        have c5b0 : decide (0 < (l0.length : Int)) = true := decide_eq_true c5
        have c5b1 : decide (0 < l0.length) = true := decide_eq_true (by omega)
        clear c5
        (first | rw [c5b0] | (simp only [i64_w, i32_w]; rw [c5b0]) | skip)
        have H' := Aside0.mk H
        clear H
        go_wp2_with (first | ((with_reducible refine gate_callee (f := 60) rfl ?_); refine goesL_ (some 7) rfl rfl Try.func60 (by kernel_rfl) rfl #[.int .i64 (l0.length : Int), .int .i64 1, .int .i64 256] rfl (by (try simp only [List.map_toArray, List.map_cons, List.map_nil]); first | done | rfl | (simp only [List.length_drop, List.length_take]; rfl)) ?_; (with_reducible refine (impl_within.calls (l0.length : Int) 1 256 true _ A3.out).mono ?_); rintro e w' ⟨rfl, ⟨nd, rfl⟩⟩; refine ⟨_, rfl, ?_⟩; have p198 : 0 ≤ (0 : Int) := (by omega); have q198 : 0 < (l0.length : Int) := of_decide_eq_true (by first | (with_reducible assumption) | assumption); obtain ⟨ad198, A198_0, c198_0, e198, hx198_0, hl198_0, hi198_0⟩ := at_L1 HR0.out 0 p198 q198; cases e198; have qi198 : (0 < l0.length) = True := eq_true (by omega); (try rw [show ((0 : Int)).toNat = 0 from rfl] at hx198_0); (try rw [Addr.add_zero'] at hx198_0); have HR198_0 := Aside0.mk hi198_0; have HC198_0 := Aside0.mk hl198_0; clear hi198_0 hl198_0; replace p198 := eq_true p198; replace q198 := eq_true q198))
        go_meet
        case rel => exact ⟨_, (decide (((rd_L1 l0 0).length : Int) > 8)), (by first | rfl | (simp; done) | (simp [*]; done)), H', ⟨by first | omega | exact Nat.le_refl _⟩, by repeat (first | exact Drawn0.refl _ | apply Drawn0.step)⟩
      · rw [if_neg c5] at H
        exact absurd H (by simp)
    · replace c4 := Bool.eq_false_iff.mpr c4
      subst c4
      have H1 : (impl_IsClass.j0 k l0 true) = some r := by rw [if_neg (show ¬ (false = true) by decide)] at H; exact H
      clear H
      have H := H1
      clear H1
      have H' := Aside0.mk H
      clear H
      go_wp2_with (first | ((with_reducible refine gate_callee (f := 60) rfl ?_); refine goesL_ (some 7) rfl rfl Try.func60 (by kernel_rfl) rfl #[.int .i64 (l0.length : Int), .int .i64 1, .int .i64 256] rfl (by (try simp only [List.map_toArray, List.map_cons, List.map_nil]); first | done | rfl | (simp only [List.length_drop, List.length_take]; rfl)) ?_; (with_reducible refine (impl_within.calls (l0.length : Int) 1 256 false _ A3.out).mono ?_); rintro e w' ⟨rfl, ⟨nd, rfl⟩⟩; refine ⟨_, rfl, ?_⟩))
      go_meet
      case rel => exact ⟨_, (true), (by first | rfl | (simp; done) | (simp [*]; done)), H', ⟨by first | omega | exact Nat.le_refl _⟩, by repeat (first | exact Drawn0.refl _ | apply Drawn0.step)⟩
  case rest =>
    clear HC2
    try clear c1
    try clear p1
    try clear q1
    try clear hx1
    try clear qi1
    try clear p2
    try clear c4
    try clear c5
    try clear c5b0
    try clear c5b1
    try clear hx198_0
    try clear p198
    try clear q198
    obtain ⟨kq, x15_1, rfl, HA, HJ1, ⟨mc1, rfl⟩⟩ := hcut
    cases kq with
    | zero => exact absurd HA.out (by simp [impl_IsClass.j0])
    | succ kj1 =>
      have H := HA.out
      clear HA
      simp only [impl_IsClass.j0] at H
      by_cases c6 : x15_1 = true
      · subst c6
        have H1 : (some false) = some r := by rw [if_pos rfl] at H; exact H
        clear H
        have H := H1
        clear H1
        obtain rfl := Option.some.inj H
        go_wp2
        go_ret
        exact ⟨by first | rfl | (simp; done) | (simp [*]; done), by repeat (first | exact Drawn0.refl _ | apply Drawn0.step)⟩
      · replace c6 := Bool.eq_false_iff.mpr c6
        subst c6
        have H1 : (impl_IsClass.l0 kj1 l0 l0 (l0.length : Int) 0) = some r := by rw [if_neg (show ¬ (false = true) by decide)] at H; exact H
        clear H
        have H := H1
        clear H1
        have H' := Aside0.mk H
        clear H
        go_wp2
        go_loopg [18] kj1 (fun kq v18 w' => ∃ (x18_2 : Int), v18 = .int .i64 x18_2 ∧ Aside0 (impl_IsClass.l0 kq l0 l0 (l0.length : Int) x18_2 = some r) ∧ Aside0 (kq ≤ kj1) ∧ Drawn0 w w')
        case atStart => exact ⟨(0), (by first | rfl | (simp; done) | (simp [*]; done)), H', ⟨Nat.le_refl _⟩, by repeat (first | exact Drawn0.refl _ | apply Drawn0.step)⟩
        case round =>
          clear H'
          try clear c1
          try clear p1
          try clear q1
          try clear hx1
          try clear qi1
          try clear p2
          try clear c4
          try clear c5
          try clear c5b0
          try clear c5b1
          try clear c6
          try clear hx198_0
          try clear p1
          try clear p198
          try clear p2
          try clear q1
          try clear q198
          obtain ⟨x18_2, rfl, HA, HK2, ⟨m2, rfl⟩⟩ := hrel
          cases gk with
          | zero => exact absurd HA.out (by simp [impl_IsClass.l0])
          | succ k2 =>
            have H := HA.out
            clear HA
            simp only [impl_IsClass.l0] at H
            by_cases c7 : x18_2 < (l0.length : Int)
            · rw [if_pos c7] at H
              have c7b0 : decide (x18_2 < (l0.length : Int)) = true := decide_eq_true c7
              clear c7
              by_cases c8 : 0 ≤ x18_2
              · rw [if_pos c8] at H
                have c8b0 : decide (0 ≤ x18_2) = true := decide_eq_true c8
                clear c8
                by_cases c9 : x18_2 < (l0.length : Int)
                · rw [if_pos c9] at H
                  have c9b0 : decide (x18_2 < (l0.length : Int)) = true := decide_eq_true c9
                  clear c9
                  by_cases c10 : 0 < (l0.length : Int)
                  · rw [if_pos c10] at H
                    have c10b0 : decide (0 < (l0.length : Int)) = true := decide_eq_true c10
                    have c10b1 : decide (0 < l0.length) = true := decide_eq_true (by omega)
                    clear c10
                    by_cases c11 : ((rd_L1 l0 x18_2).length : Int) = ((rd_L1 l0 0).length : Int)
                    · rw [if_pos c11] at H
                      have c11b0 : (((rd_L1 l0 x18_2).length : Int) == ((rd_L1 l0 0).length : Int)) = true := beq_iff_eq.mpr c11
                      have c11b1 : (((rd_L1 l0 x18_2).length : Int) != ((rd_L1 l0 0).length : Int)) = false := bne_eq_false_iff_eq.mpr c11
                      have c11b2 : ((rd_L1 l0 x18_2).length == (rd_L1 l0 0).length) = true := by first | simpa using c11 | (simp at c11 ⊢; omega)
                      clear c11
                      replace H := Option.bind_eq_some_iff.mp H
                      obtain ⟨t201, A120, H⟩ := H
                      replace H : (if t201 = true then (if x18_2 > 0 then (if 0 ≤ (wrap64 (x18_2 - 1)) then (if (wrap64 (x18_2 - 1)) < (l0.length : Int) then ((slices_Compare_int_int.f k2 (rd_L1 l0 (wrap64 (x18_2 - 1))) (rd_L1 l0 x18_2)).bind fun t203 => (if t203 ≥ 0 then (some false) else (impl_IsClass.l0 k2 l0 l0 (l0.length : Int) (wrap64 (x18_2 + 1))))) else (none)) else (none)) else (impl_IsClass.l0 k2 l0 l0 (l0.length : Int) (wrap64 (x18_2 + 1)))) else (some false)) = some r := H
                      have A12 := Aside0.mk A120
                      clear A120
                      by_cases c13 : t201 = true
                      · subst c13
                        have H1 : (if x18_2 > 0 then (if 0 ≤ (wrap64 (x18_2 - 1)) then (if (wrap64 (x18_2 - 1)) < (l0.length : Int) then ((slices_Compare_int_int.f k2 (rd_L1 l0 (wrap64 (x18_2 - 1))) (rd_L1 l0 x18_2)).bind fun t203 => (if t203 ≥ 0 then (some false) else (impl_IsClass.l0 k2 l0 l0 (l0.length : Int) (wrap64 (x18_2 + 1))))) else (none)) else (none)) else (impl_IsClass.l0 k2 l0 l0 (l0.length : Int) (wrap64 (x18_2 + 1)))) = some r := by rw [if_pos rfl] at H; exact H
                        clear H
                        have H := H1
                        clear H1
                        by_cases c14 : x18_2 > 0
                        · rw [if_pos c14] at H
                          have c14b0 : decide (0 < x18_2) = true := decide_eq_true c14
                          clear c14
                          obtain ⟨ji15, hji15⟩ : ∃ j_ : Int, (wrap64 (x18_2 - 1)) = j_ := ⟨_, rfl⟩
                          replace H : (if 0 ≤ (ji15) then (if (ji15) < (l0.length : Int) then ((slices_Compare_int_int.f k2 (rd_L1 l0 (ji15)) (rd_L1 l0 x18_2)).bind fun t203 => (if t203 ≥ 0 then (some false) else (impl_IsClass.l0 k2 l0 l0 (l0.length : Int) (wrap64 (x18_2 + 1))))) else (none)) else (none)) = some r := by first | (rw [hji15] at H; exact H) | (simp only [hji15] at H ⊢; exact H)
                          (try rw [hji15] at A12)
                          have hji15w : (IntKind.i64.wrap (x18_2 - 1)) = ji15 := (i64_w _).trans hji15
                          by_cases c16 : 0 ≤ (ji15)
                          · rw [if_pos c16] at H
                            have c16b0 : decide (0 ≤ (ji15)) = true := decide_eq_true c16
                            clear c16
                            by_cases c17 : (ji15) < (l0.length : Int)
                            · rw [if_pos c17] at H
                              have c17b0 : decide ((ji15) < (l0.length : Int)) = true := decide_eq_true c17
                              clear c17
                              replace H := Option.bind_eq_some_iff.mp H
                              obtain ⟨t203, A180, H⟩ := H
                              replace H : (if t203 ≥ 0 then (some false) else (impl_IsClass.l0 k2 l0 l0 (l0.length : Int) (wrap64 (x18_2 + 1)))) = some r := H
                              have A18 := Aside0.mk A180
                              clear A180
                              by_cases c19 : t203 ≥ 0
                              · rw [if_pos c19] at H
                                have c19b0 : decide (0 ≤ t203) = true := decide_eq_true c19
                                clear c19
                                obtain rfl := Option.some.inj H
                                have p199 : 0 ≤ (x18_2 : Int) := of_decide_eq_true (by first | (with_reducible assumption) | assumption)
                                have q199 : x18_2 < (l0.length : Int) := of_decide_eq_true (by first | (with_reducible assumption) | assumption)
                                obtain ⟨ad199, A199_0, c199_0, e199, hx199_0, hl199_0, hi199_0⟩ := at_L1 HR0.out x18_2 p199 q199
                                cases e199
                                have HR199_0 := Aside0.mk hi199_0
                                have HC199_0 := Aside0.mk hl199_0
                                clear hi199_0 hl199_0
                                replace p199 := eq_true p199
                                replace q199 := eq_true q199
                                have p200 : 0 ≤ (0 : Int) := (by omega)
                                have q200 : 0 < (l0.length : Int) := of_decide_eq_true (by first | (with_reducible assumption) | assumption)
                                obtain ⟨ad200, A200_0, c200_0, e200, hx200_0, hl200_0, hi200_0⟩ := at_L1 HR0.out 0 p200 q200
                                obtain rfl : ad199 = ad200 := (by injection e200)
                                have qi200 : (0 < l0.length) = True := eq_true (by omega)
                                (try rw [show ((0 : Int)).toNat = 0 from rfl] at hx200_0)
                                (try rw [Addr.add_zero'] at hx200_0)
                                have HR200_0 := Aside0.mk hi200_0
                                have HC200_0 := Aside0.mk hl200_0
                                clear hi200_0 hl200_0
                                replace p200 := eq_true p200
                                replace q200 := eq_true q200
                                go_wp2_with (first | (go_at_call 77; (with_reducible refine (impl_areLabels.calls k2 _ _ (rd_L1 l0 x18_2) true _ ?side1 ?side2 A12.out).mono ?_); (case side1 => repeat (first | exact HR199_0.out | (with_reducible refine Kd.C_alloc ?_ _) | (with_reducible refine Kd.C_drewN ?_ _) | (with_reducible refine Kd.C_drew ?_))); (case side2 => exact HC199_0.out); rintro e w' ⟨rfl, ⟨nd, rfl⟩⟩; have p202 : 0 ≤ ((ji15) : Int) := of_decide_eq_true (by first | (with_reducible assumption) | assumption); have q202 : (ji15) < (l0.length : Int) := of_decide_eq_true (by first | (with_reducible assumption) | assumption); obtain ⟨ad202, A202_0, c202_0, e202, hx202_0, hl202_0, hi202_0⟩ := at_L1 HR0.out (ji15) p202 q202; obtain rfl : ad199 = ad202 := (by injection e202); have HR202_0 := Aside0.mk hi202_0; have HC202_0 := Aside0.mk hl202_0; clear hi202_0 hl202_0; replace p202 := eq_true p202; replace q202 := eq_true q202) | (go_at_call 106; (with_reducible refine (slices_Compare_int_int.calls k2 _ _ (rd_L1 l0 (ji15)) _ _ (rd_L1 l0 x18_2) t203 _ ?side1 ?side2 ?side3 ?side4 A18.out).mono ?_); (case side1 => repeat (first | exact HR202_0.out | (with_reducible refine Kd.C_alloc ?_ _) | (with_reducible refine Kd.C_drewN ?_ _) | (with_reducible refine Kd.C_drew ?_))); (case side2 => exact HC202_0.out); (case side3 => repeat (first | exact HR199_0.out | (with_reducible refine Kd.C_alloc ?_ _) | (with_reducible refine Kd.C_drewN ?_ _) | (with_reducible refine Kd.C_drew ?_))); (case side4 => exact HC199_0.out); rintro e w' ⟨rfl, ⟨nd, rfl⟩⟩))
                                go_ret
                                exact ⟨by first | rfl | (simp; done) | (simp only [← hji15] <;> (first | rfl | simp)) | (simp [*]; done), by repeat (first | exact Drawn0.refl _ | apply Drawn0.step)⟩
                              · rw [if_neg c19] at H
                                have c19b0 : decide (0 ≤ t203) = false := decide_eq_false c19
                                clear c19
                                have H' := Aside0.mk H
                                clear H
                                have p199 : 0 ≤ (x18_2 : Int) := of_decide_eq_true (by first | (with_reducible assumption) | assumption)
                                have q199 : x18_2 < (l0.length : Int) := of_decide_eq_true (by first | (with_reducible assumption) | assumption)
                                obtain ⟨ad199, A199_0, c199_0, e199, hx199_0, hl199_0, hi199_0⟩ := at_L1 HR0.out x18_2 p199 q199
                                cases e199
                                have HR199_0 := Aside0.mk hi199_0
                                have HC199_0 := Aside0.mk hl199_0
                                clear hi199_0 hl199_0
                                replace p199 := eq_true p199
                                replace q199 := eq_true q199
                                have p200 : 0 ≤ (0 : Int) := (by omega)
                                have q200 : 0 < (l0.length : Int) := of_decide_eq_true (by first | (with_reducible assumption) | assumption)
                                obtain ⟨ad200, A200_0, c200_0, e200, hx200_0, hl200_0, hi200_0⟩ := at_L1 HR0.out 0 p200 q200
                                obtain rfl : ad199 = ad200 := (by injection e200)
                                have qi200 : (0 < l0.length) = True := eq_true (by omega)
                                (try rw [show ((0 : Int)).toNat = 0 from rfl] at hx200_0)
                                (try rw [Addr.add_zero'] at hx200_0)
                                have HR200_0 := Aside0.mk hi200_0
                                have HC200_0 := Aside0.mk hl200_0
                                clear hi200_0 hl200_0
                                replace p200 := eq_true p200
                                replace q200 := eq_true q200
                                go_wp2_with (first | (go_at_call 77; (with_reducible refine (impl_areLabels.calls k2 _ _ (rd_L1 l0 x18_2) true _ ?side1 ?side2 A12.out).mono ?_); (case side1 => repeat (first | exact HR199_0.out | (with_reducible refine Kd.C_alloc ?_ _) | (with_reducible refine Kd.C_drewN ?_ _) | (with_reducible refine Kd.C_drew ?_))); (case side2 => exact HC199_0.out); rintro e w' ⟨rfl, ⟨nd, rfl⟩⟩; have p202 : 0 ≤ ((ji15) : Int) := of_decide_eq_true (by first | (with_reducible assumption) | assumption); have q202 : (ji15) < (l0.length : Int) := of_decide_eq_true (by first | (with_reducible assumption) | assumption); obtain ⟨ad202, A202_0, c202_0, e202, hx202_0, hl202_0, hi202_0⟩ := at_L1 HR0.out (ji15) p202 q202; obtain rfl : ad199 = ad202 := (by injection e202); have HR202_0 := Aside0.mk hi202_0; have HC202_0 := Aside0.mk hl202_0; clear hi202_0 hl202_0; replace p202 := eq_true p202; replace q202 := eq_true q202) | (go_at_call 106; (with_reducible refine (slices_Compare_int_int.calls k2 _ _ (rd_L1 l0 (ji15)) _ _ (rd_L1 l0 x18_2) t203 _ ?side1 ?side2 ?side3 ?side4 A18.out).mono ?_); (case side1 => repeat (first | exact HR202_0.out | (with_reducible refine Kd.C_alloc ?_ _) | (with_reducible refine Kd.C_drewN ?_ _) | (with_reducible refine Kd.C_drew ?_))); (case side2 => exact HC202_0.out); (case side3 => repeat (first | exact HR199_0.out | (with_reducible refine Kd.C_alloc ?_ _) | (with_reducible refine Kd.C_drewN ?_ _) | (with_reducible refine Kd.C_drew ?_))); (case side4 => exact HC199_0.out); rintro e w' ⟨rfl, ⟨nd, rfl⟩⟩))
                                go_roundg k2
                                case measure => have := HJ1.out; have := HK2.out; omega
                                case rel => exact ⟨(wrap64 (x18_2 + 1)), (by first | rfl | (simp; done) | (simp [*]; done)), H', ⟨by have := HJ1.out; have := HK2.out; omega⟩, by repeat (first | exact Drawn0.refl _ | apply Drawn0.step)⟩
                            · rw [if_neg c17] at H
                              exact absurd H (by simp)
                          · rw [if_neg c16] at H
                            exact absurd H (by simp)
                        · rw [if_neg c14] at H
                          have c14b0 : decide (0 < x18_2) = false := decide_eq_false c14
                          clear c14
                          have H' := Aside0.mk H
                          clear H
                          have p199 : 0 ≤ (x18_2 : Int) := of_decide_eq_true (by first | (with_reducible assumption) | assumption)
                          have q199 : x18_2 < (l0.length : Int) := of_decide_eq_true (by first | (with_reducible assumption) | assumption)
                          obtain ⟨ad199, A199_0, c199_0, e199, hx199_0, hl199_0, hi199_0⟩ := at_L1 HR0.out x18_2 p199 q199
                          cases e199
                          have HR199_0 := Aside0.mk hi199_0
                          have HC199_0 := Aside0.mk hl199_0
                          clear hi199_0 hl199_0
                          replace p199 := eq_true p199
                          replace q199 := eq_true q199
                          have p200 : 0 ≤ (0 : Int) := (by omega)
                          have q200 : 0 < (l0.length : Int) := of_decide_eq_true (by first | (with_reducible assumption) | assumption)
                          obtain ⟨ad200, A200_0, c200_0, e200, hx200_0, hl200_0, hi200_0⟩ := at_L1 HR0.out 0 p200 q200
                          obtain rfl : ad199 = ad200 := (by injection e200)
                          have qi200 : (0 < l0.length) = True := eq_true (by omega)
                          (try rw [show ((0 : Int)).toNat = 0 from rfl] at hx200_0)
                          (try rw [Addr.add_zero'] at hx200_0)
                          have HR200_0 := Aside0.mk hi200_0
                          have HC200_0 := Aside0.mk hl200_0
                          clear hi200_0 hl200_0
                          replace p200 := eq_true p200
                          replace q200 := eq_true q200
                          go_wp2_with (first | (go_at_call 77; (with_reducible refine (impl_areLabels.calls k2 _ _ (rd_L1 l0 x18_2) true _ ?side1 ?side2 A12.out).mono ?_); (case side1 => repeat (first | exact HR199_0.out | (with_reducible refine Kd.C_alloc ?_ _) | (with_reducible refine Kd.C_drewN ?_ _) | (with_reducible refine Kd.C_drew ?_))); (case side2 => exact HC199_0.out); rintro e w' ⟨rfl, ⟨nd, rfl⟩⟩))
                          go_roundg k2
                          case measure => have := HJ1.out; have := HK2.out; omega
                          case rel => exact ⟨(wrap64 (x18_2 + 1)), (by first | rfl | (simp; done) | (simp [*]; done)), H', ⟨by have := HJ1.out; have := HK2.out; omega⟩, by repeat (first | exact Drawn0.refl _ | apply Drawn0.step)⟩
                      · replace c13 := Bool.eq_false_iff.mpr c13
                        subst c13
                        have H1 : (some false) = some r := by rw [if_neg (show ¬ (false = true) by decide)] at H; exact H
                        clear H
                        have H := H1
                        clear H1
                        obtain rfl := Option.some.inj H
                        have p199 : 0 ≤ (x18_2 : Int) := of_decide_eq_true (by first | (with_reducible assumption) | assumption)
                        have q199 : x18_2 < (l0.length : Int) := of_decide_eq_true (by first | (with_reducible assumption) | assumption)
                        obtain ⟨ad199, A199_0, c199_0, e199, hx199_0, hl199_0, hi199_0⟩ := at_L1 HR0.out x18_2 p199 q199
                        cases e199
                        have HR199_0 := Aside0.mk hi199_0
                        have HC199_0 := Aside0.mk hl199_0
                        clear hi199_0 hl199_0
                        replace p199 := eq_true p199
                        replace q199 := eq_true q199
                        have p200 : 0 ≤ (0 : Int) := (by omega)
                        have q200 : 0 < (l0.length : Int) := of_decide_eq_true (by first | (with_reducible assumption) | assumption)
                        obtain ⟨ad200, A200_0, c200_0, e200, hx200_0, hl200_0, hi200_0⟩ := at_L1 HR0.out 0 p200 q200
                        obtain rfl : ad199 = ad200 := (by injection e200)
                        have qi200 : (0 < l0.length) = True := eq_true (by omega)
                        (try rw [show ((0 : Int)).toNat = 0 from rfl] at hx200_0)
                        (try rw [Addr.add_zero'] at hx200_0)
                        have HR200_0 := Aside0.mk hi200_0
                        have HC200_0 := Aside0.mk hl200_0
                        clear hi200_0 hl200_0
                        replace p200 := eq_true p200
                        replace q200 := eq_true q200
                        go_wp2_with (first | (go_at_call 77; (with_reducible refine (impl_areLabels.calls k2 _ _ (rd_L1 l0 x18_2) false _ ?side1 ?side2 A12.out).mono ?_); (case side1 => repeat (first | exact HR199_0.out | (with_reducible refine Kd.C_alloc ?_ _) | (with_reducible refine Kd.C_drewN ?_ _) | (with_reducible refine Kd.C_drew ?_))); (case side2 => exact HC199_0.out); rintro e w' ⟨rfl, ⟨nd, rfl⟩⟩))
                        go_ret
                        exact ⟨by first | rfl | (simp; done) | (simp [*]; done), by repeat (first | exact Drawn0.refl _ | apply Drawn0.step)⟩
                    · rw [if_neg c11] at H
                      have c11b0 : (((rd_L1 l0 x18_2).length : Int) == ((rd_L1 l0 0).length : Int)) = false := beq_eq_false_iff_ne.mpr c11
                      have c11b1 : (((rd_L1 l0 x18_2).length : Int) != ((rd_L1 l0 0).length : Int)) = true := bne_iff_ne.mpr c11
                      have c11b2 : ((rd_L1 l0 x18_2).length == (rd_L1 l0 0).length) = false := by first | simpa using c11 | (simp at c11 ⊢; omega)
                      obtain rfl := Option.some.inj H
                      have p199 : 0 ≤ (x18_2 : Int) := of_decide_eq_true (by first | (with_reducible assumption) | assumption)
                      have q199 : x18_2 < (l0.length : Int) := of_decide_eq_true (by first | (with_reducible assumption) | assumption)
                      obtain ⟨ad199, A199_0, c199_0, e199, hx199_0, hl199_0, hi199_0⟩ := at_L1 HR0.out x18_2 p199 q199
                      cases e199
                      have HR199_0 := Aside0.mk hi199_0
                      have HC199_0 := Aside0.mk hl199_0
                      clear hi199_0 hl199_0
                      replace p199 := eq_true p199
                      replace q199 := eq_true q199
                      have p200 : 0 ≤ (0 : Int) := (by omega)
                      have q200 : 0 < (l0.length : Int) := of_decide_eq_true (by first | (with_reducible assumption) | assumption)
                      obtain ⟨ad200, A200_0, c200_0, e200, hx200_0, hl200_0, hi200_0⟩ := at_L1 HR0.out 0 p200 q200
                      obtain rfl : ad199 = ad200 := (by injection e200)
                      have qi200 : (0 < l0.length) = True := eq_true (by omega)
                      (try rw [show ((0 : Int)).toNat = 0 from rfl] at hx200_0)
                      (try rw [Addr.add_zero'] at hx200_0)
                      have HR200_0 := Aside0.mk hi200_0
                      have HC200_0 := Aside0.mk hl200_0
                      clear hi200_0 hl200_0
                      replace p200 := eq_true p200
                      replace q200 := eq_true q200
                      go_wp2
                      go_ret
                      exact ⟨by first | rfl | (simp; done) | (simp [*]; done), by repeat (first | exact Drawn0.refl _ | apply Drawn0.step)⟩
                  · rw [if_neg c10] at H
                    exact absurd H (by simp)
                · rw [if_neg c9] at H
                  exact absurd H (by simp)
              · rw [if_neg c8] at H
                exact absurd H (by simp)
            · rw [if_neg c7] at H
              have c7b0 : decide (x18_2 < (l0.length : Int)) = false := decide_eq_false c7
              clear c7
              obtain rfl := Option.some.inj H
              go_wp2
              go_ret
              exact ⟨by first | rfl | (simp; done) | (simp [*]; done), by repeat (first | exact Drawn0.refl _ | apply Drawn0.step)⟩

/-! ### impl_newKnowing: function 71 -/
/-- A row's places with the label 1, as a number: the first j places. -/
def kset (r : List Int) : Nat → Nat
  | 0 => 0
  | j + 1 => if rd r (j : Int) = 1 then kset r j ||| 2 ^ j else kset r j
theorem kset_lt (r : List Int) : ∀ j, kset r j < 2 ^ j := by
  intro j
  induction j with
  | zero => simp [kset]
  | succ j ih =>
    simp only [kset]
    have h2 : 2 ^ j < 2 ^ (j + 1) := Nat.pow_lt_pow_right (by decide) (by omega)
    split
    · exact Nat.or_lt_two_pow (by omega) h2
    · omega
def ksets (l : List (List Int)) : List Int := l.map fun r => ((kset r r.length : Nat) : Int)
theorem ksets_take (l : List (List Int)) (i : Nat) (h : i < l.length) : ksets (l.take i) ++ [((kset (rd_L1 l (i : Int)) (rd_L1 l (i : Int)).length : Nat) : Int)] = ksets (l.take (i + 1)) := by
  unfold ksets
  rw [List.take_succ_eq_append_getElem h, List.map_append]
  have e : rd_L1 l (i : Int) = l[i] := by simp [rd_L1, List.getD_eq_getElem?_getD, List.getElem?_eq_getElem h]
  rw [e]; rfl
theorem kset_or (a b : Nat) (ha : a < 256) (hb : b < 256) : Go.bits .or .i64 (a : Int) (b : Int) = ((a ||| b : Nat) : Int) :=
  (bits_nat .i64 63 (by decide) (fun n h₀ h₁ => by rw [IntKind.wrap_i64]; omega) a b (by omega) (by omega)).2
theorem kset_wrap (n : Nat) (h : n < 256) : wrap64 (n : Int) = (n : Int) := by unfold wrap64; omega
set_option maxHeartbeats 8000000 in
set_option maxRecDepth 100000 in
theorem impl_newKnowing.calls (l : List (List Int)) (A0 : Option Addr) (c0 : Nat) (w : World) (hr0 : Kd.C (Kd.slice 3 (Kd.int .i64)) w A0 l.length l) (hc0 : l.length ≤ c0) (hll : l.length ≤ 256) (hrow : ∀ r ∈ l, r.length ≤ 8) :
    Calls Try.prog 71 #[.slice A0 l.length c0] w fun e w' => ∃ (gb mb : Nat) (vs : Value), e = .returned (.pointer (some ⟨gb, 0, none⟩)) ∧ w.heap.size ≤ gb ∧ w.heap.size ≤ mb ∧ gb ≠ mb ∧ w'.heap[gb]? = some (.cells #[.slice A0 l.length c0, vs, .map (some mb)] 103 (0, 0)) ∧
      Kd.R (Kd.int .i64) 3 w' w.heap.size (fun k => k ≠ mb ∧ k ≠ gb) vs (ksets l) ∧ w'.heap[mb]? = some (.map #[] 0) ∧ Below w.heap.size w w' := by
  have HR0 := Aside0.mk hr0
  have HLL := Aside0.mk hll
  have HRW := Aside0.mk hrow
  clear hr0 hll hrow
  have hmm := @run_makeMap Try.prog
  go_enter Try.func71, Try.ntmps71
  go_wp2
  clear hmm
  have HM := Aside0.mk (blk_alloc (blk_new w (.map #[] 0)) (.cells #[.slice A0 l.length c0, .slice none 0 0, .map (some w.heap.size)] 103))
  have HG := Aside0.mk (show ((w.alloc (.map #[] 0)).alloc (.cells #[.slice A0 l.length c0, .slice none 0 0, .map (some w.heap.size)] 103)).heap[w.heap.size + 1]? = some (.cells #[.slice A0 l.length c0, .slice none 0 0, .map (some w.heap.size)] 103 (0, 0)) by simpa using blk_new (w.alloc (.map #[] 0)) (.cells #[.slice A0 l.length c0, .slice none 0 0, .map (some w.heap.size)] 103))
  have HB := Aside0.mk (below_alloc (below_alloc (Below.refl w.heap.size w) (.map #[] 0)) (.cells #[.slice A0 l.length c0, .slice none 0 0, .map (some w.heap.size)] 103))
  go_loopw [15] (fun v15 w' => ∃ (i : Nat) (vs : Value), v15 = .int .i64 (i : Int) ∧ Aside0 (i ≤ l.length) ∧ Aside0 (w'.heap[w.heap.size + 1]? = some (.cells #[.slice A0 l.length c0, vs, .map (some w.heap.size)] 103 (0, 0))) ∧ Aside0 (Kd.R (Kd.int .i64) 3 w' w.heap.size (fun k => k ≠ w.heap.size ∧ k ≠ w.heap.size + 1) vs (ksets (l.take i))) ∧ Aside0 (w'.heap[w.heap.size]? = some (.map #[] 0)) ∧ Aside0 (Below w.heap.size w w')) (fun v15 _ => l.length - (intOf v15).toNat)
  case atStart => exact ⟨0, _, rfl, ⟨Nat.zero_le _⟩, HG, ⟨Kd.R_nil _ _ _ _ _⟩, HM, HB⟩
  case round =>
    clear HM HG HB
    obtain ⟨i, vs, rfl, HI, HG, HO, HM, HB⟩ := hrel
    have hlb := HLL.out
    by_cases ci : i < l.length
    · have d0 : decide ((i : Int) < (l.length : Int)) = true := decide_eq_true (by omega)
      have d1 : decide (i < l.length) = true := decide_eq_true ci
      have h0i : (0 : Int) ≤ (i : Int) := by omega
      obtain ⟨ad, Ar, cr, e1, hcr, hlr, hrr⟩ := at_L1 (Kd.C_below HR0.out HB.out) (i : Int) (by omega) (by omega)
      cases e1
      rw [Int.toNat_natCast] at hcr
      have hl8 : (rd_L1 l (i : Int)).length ≤ 8 := HRW.out _ (by simp [rd_L1, List.getD_eq_getElem?_getD, List.getElem?_eq_getElem ci])
      have HST := Aside0.mk (ksets_take l i ci)
      obtain ⟨row, hrow⟩ : ∃ r, rd_L1 l (i : Int) = r := ⟨_, rfl⟩
      rw [hrow] at hcr hrr hl8 HST
      have HRR := Aside0.mk hrr
      have HL8 := Aside0.mk hl8
      have HIL := Aside0.mk ci
      clear hrow hrr hlr hl8
      go_wp2
      go_loopw [6, 21] (fun v6 v21 w' => ∃ j : Nat, w' = wr ∧ v21 = .int .i64 (j : Int) ∧ v6 = .int .i64 ((kset row j : Nat) : Int) ∧ Aside0 (j ≤ row.length)) (fun _ v21 _ => row.length - (intOf v21).toNat)
      case atStart => exact ⟨0, rfl, rfl, rfl, ⟨Nat.zero_le _⟩⟩
      case round =>
        obtain ⟨j, rfl, rfl, rfl, HJ⟩ := hrel
        have hl8 := HL8.out
        have hkl := kset_lt row j
        by_cases cj : j < row.length
        · have d2 : decide ((j : Int) < (row.length : Int)) = true := decide_eq_true (by omega)
          have d3 : decide (j < row.length) = true := decide_eq_true cj
          have h0j : (0 : Int) ≤ (j : Int) := by omega
          have d4 : decide (0 ≤ (j : Int)) = true := decide_eq_true h0j
          have hjb : (j : Int) ≤ 8 := by omega
          obtain ⟨ad2, e2, hcj⟩ := Kd.at_int HRR.out (j : Int) (by omega) (by omega)
          cases e2
          rw [Int.toNat_natCast] at hcj
          obtain ⟨pw, hpw⟩ : ∃ p, 2 ^ j = p := ⟨_, rfl⟩
          have hcast : ((2 : Int) ^ j) = (pw : Int) := by rw [← hpw]; simp
          have hpb : pw < 256 := by rw [← hpw]; exact Nat.lt_of_le_of_lt (Nat.pow_le_pow_right (n := 2) (by decide) (show j ≤ 7 by omega)) (by decide)
          have hsh : Go.IntKind.i64.wrap (1 * 2 ^ min (j : Int).toNat 64) = (pw : Int) := by
            rw [Int.toNat_natCast, show min j 64 = j by omega, Int.one_mul, IntKind.wrap_i64, hcast]
            omega
          have hsh2 : Go.IntKind.i64.wrap (2 ^ j) = (pw : Int) := by rw [IntKind.wrap_i64, hcast]; omega
          have hsh3 : wrap64 (2 ^ j) = (pw : Int) := by rw [hcast]; unfold wrap64; omega
          have hwp := kset_wrap pw hpb
          have HOR := kset_or (kset row j) pw (by rw [hpw] at hkl; exact Nat.lt_trans hkl hpb) hpb
          have HKS := Aside0.mk (show kset row (j + 1) = if rd row (j : Int) = 1 then kset row j ||| pw else kset row j by simp only [kset]; rw [hpw])
          obtain ⟨x, hx⟩ : ∃ x, rd row (j : Int) = x := ⟨_, rfl⟩
          rw [hx] at hcj HKS
          have HJL := Aside0.mk cj
          clear hx hkl hpw hl8
          obtain ⟨ks, hks⟩ : ∃ z, kset row j = z := ⟨_, rfl⟩
          rw [hks] at HOR HKS ⊢
          by_cases cx : x = 1
          · have b0 : (x == 1) = true := beq_iff_eq.2 cx
            have HX := Aside0.mk cx
            clear cx
            go_wp2
            go_roundw
            case rel => exact ⟨j + 1, trivial, by go_num, by rw [HKS.out, if_pos HX.out], ⟨HJL.out⟩⟩
            case measure => have := HJL.out; simp [intOf]; omega
          · have b0 : (x == 1) = false := beq_eq_false_iff_ne.2 cx
            have HX := Aside0.mk cx
            clear cx
            go_wp2
            go_roundw
            case rel => exact ⟨j + 1, trivial, by go_num, by rw [HKS.out, if_neg HX.out], ⟨HJL.out⟩⟩
            case measure => have := HJL.out; simp [intOf]; omega
        · have d2 : decide ((j : Int) < (row.length : Int)) = false := decide_eq_false (by omega)
          have d3 : decide (j < row.length) = false := decide_eq_false cj
          have e : j = row.length := by have := HJ.out; omega
          rw [← e] at HST
          obtain ⟨ks, hks⟩ : ∃ z : Int, ((kset row j : Nat) : Int) = z := ⟨_, rfl⟩
          rw [hks] at HST ⊢
          have hlen : (ksets (l.take i)).length ≤ 256 := by unfold ksets; rw [List.length_map, List.length_take]; have := HIL.out; have := HLL.out; omega
          have HLN := Aside0.mk hlen
          have hcs := (blk_cell HG.out 1).trans (show _ = some vs from rfl)
          have hownv := HO.out.1
          have HOV := Aside0.mk hownv
          clear e cj hks hlen hownv hkl hl8
          go_wp2_with (first | ((with_reducible refine gate_builtin (b := .append) (xs := #[.tmp 37, .tmp 39]) rfl ?_); at_builtin; refine Kd.R_append (Kd.int .i64) (w0 := w) w.heap.size rfl (.tmp 37) (.tmp 39) 28 3 (.int .i64 0) 8 rfl Try.underlying28 info3 rfl (by decide) (by omega) vs (ksets (l.take i)) ks [.int .i64 ks] (fun k => k ≠ w.heap.size ∧ k ≠ w.heap.size + 1) (fun _ => False) rfl rfl ?aP (fun _ hk => hk.elim) ?aF HO.out HB.out (below_size HB.out) ?aL ?_; (case aP => exact rfl); (case aF => exact (fun k_ hk_ => by have h1_ := blk_lt HG.out; have h2_ := blk_lt HM.out; exact ⟨by omega, by omega⟩)); (case aL => have := HLN.out; omega); intro v1 w1 ho hb hg hat; obtain ⟨Av, cv, rfl⟩ := Kd.R_slice ho; have n0_ := Aside0.mk (show w1.heap[w.heap.size + 1]? = some (.cells #[.slice (some ad) l.length c0, vs, .map (some w.heap.size)] 103 (0, 0)) from (hg.block _ (blk_lt HG.out) (fun e_ => (HOV.out _ e_.symm).2 rfl)).trans HG.out); have n1_ := Aside0.mk ((hg.block _ (blk_lt HM.out) (fun e_ => (HOV.out _ e_.symm).1 rfl)).trans HM.out); have n2_ := Aside0.mk ho; have n3_ := Aside0.mk hb; clear HG HM HO HB hcs HOV; have HG := n0_; have HM := n1_; have HO := n2_; have HB := n3_; clear n0_ n1_ n2_ n3_; have hcs := (blk_cell HG.out 1).trans (show _ = some vs from rfl); have hfs := blk_frozen HG.out 1; clear ho hb hg hat))
          go_roundw
          case rel => exact ⟨i + 1, _, by go_num, ⟨HIL.out⟩, ⟨blk_put HG.out 1 _ rfl⟩, ⟨by have h1 := Kd.R_far (p := ⟨w.heap.size + 1, 1, none⟩) HO.out (fun _ hk => hk.2) (.slice Av ((ksets (l.take i)).length + 1) cv); rw [← HST.out]; simpa only [List.length_append, List.length_singleton] using h1⟩, ⟨(Below.heap_setCell w1 ⟨w.heap.size + 1, 1, none⟩ _ _ (show w.heap.size ≠ w.heap.size + 1 by omega)).trans HM.out⟩, ⟨below_set HB.out (by omega)⟩⟩
          case measure => have := HIL.out; simp [intOf]; omega
    · have d0 : decide ((i : Int) < (l.length : Int)) = false := decide_eq_false (by omega)
      have d1 : decide (i < l.length) = false := decide_eq_false ci
      have e : i = l.length := by have := HI.out; omega
      have HE := Aside0.mk e
      clear e ci
      go_wp2
      go_ret
      exact ⟨w.heap.size + 1, w.heap.size, vs, rfl, by omega, by omega, by omega, HG.out, by have h1 := HO.out; rw [HE.out, List.take_length] at h1; exact h1, HM.out, HB.out⟩

/-! ### impl_knowing_left: function 114 -/
/-- How many hypotheses agree with what is known. -/
def kleft (S : List Int) (a c : Int) : Int := ((S.countP fun s => Go.bits .and .i64 s a == c : Nat) : Int)
theorem kleft_bd (S : List Int) (a c : Int) : 0 ≤ kleft S a c ∧ kleft S a c ≤ S.length := by
  unfold kleft
  have := List.countP_le_length (p := fun s => Go.bits .and .i64 s a == c) (l := S)
  omega
theorem kleft_take (S : List Int) (a c : Int) (j : Nat) (h : j < S.length) : kleft (S.take (j + 1)) a c = kleft (S.take j) a c + (if Go.bits .and .i64 (rd S (j : Int)) a = c then 1 else 0) := by
  unfold kleft
  have e : rd S (j : Int) = S[j] := by simp [rd, List.getD_eq_getElem?_getD, List.getElem?_eq_getElem h]
  rw [List.take_succ_eq_append_getElem h, List.countP_append, e]
  by_cases c1 : Go.bits .and .i64 S[j] a = c
  · rw [if_pos c1]; simp [c1]
  · rw [if_neg c1]; simp [c1]
set_option maxHeartbeats 8000000 in
set_option maxRecDepth 100000 in
theorem impl_knowing_left.calls (S : List Int) (a c : Int) (gb : Nat) (cl mv : Value) (As : Option Addr) (cs : Nat) (w : World)
    (hg : w.heap[gb]? = some (.cells #[cl, .slice As S.length cs, mv] 103 (0, 0))) (hs : Kd.C (Kd.int .i64) w As S.length S) (hl : S.length ≤ 1048576) :
    Calls Try.prog 114 #[.pointer (some ⟨gb, 0, none⟩), .agg #[.int .i64 a, .int .i64 c]] w fun e w' => e = .returned (.int .i64 (kleft S a c)) ∧ Below w.heap.size w w' := by
  have HG := Aside0.mk hg
  have HS := Aside0.mk hs
  have HL := Aside0.mk hl
  have hc1 : (w.alloc (.cells #[.int .i64 a, .int .i64 c] 81)).cell? ⟨gb, 1, none⟩ = some (.slice As S.length cs) := (blk_cell (blk_alloc hg _) 1).trans rfl
  clear hg hs hl
  go_enter Try.func114, Try.ntmps114
  go_wp2
  go_loopw [5, 13] (fun v5 v13 w' => ∃ j : Nat, w' = w.alloc (.cells #[.int .i64 a, .int .i64 c] 81) ∧ v13 = .int .i64 (j : Int) ∧ v5 = .int .i64 (kleft (S.take j) a c) ∧ Aside0 (j ≤ S.length)) (fun _ v13 _ => S.length - (intOf v13).toNat)
  case atStart => exact ⟨0, rfl, rfl, rfl, ⟨Nat.zero_le _⟩⟩
  case round =>
    obtain ⟨j, rfl, rfl, rfl, HJ⟩ := hrel
    have hb := kleft_bd (S.take j) a c
    rw [List.length_take] at hb
    have hlb := HL.out
    by_cases c0 : j < S.length
    · have d0 : decide ((j : Int) < (S.length : Int)) = true := decide_eq_true (by omega)
      have d1 : decide (j < S.length) = true := decide_eq_true c0
      obtain ⟨ad, e1, hcj⟩ := Kd.at_int (Kd.C_below HS.out (below_alloc (Below.refl _ _) (.cells #[.int .i64 a, .int .i64 c] 81))) (j : Int) (by omega) (by omega)
      cases e1
      rw [Int.toNat_natCast] at hcj
      have HST := Aside0.mk (kleft_take S a c j c0)
      have h0j : (0 : Int) ≤ (j : Int) := by omega
      obtain ⟨x, hx⟩ : ∃ x, rd S (j : Int) = x := ⟨_, rfl⟩
      rw [hx] at hcj HST
      clear hx
      by_cases c2 : Go.bits .and .i64 x a = c
      · have d2 : (Go.bits .and .i64 x a == c) = true := beq_iff_eq.2 c2
        have HC := Aside0.mk c2
        clear c2
        go_wp2
        go_roundw
        case rel => exact ⟨j + 1, trivial, by go_num, by rw [HST.out, if_pos HC.out], ⟨c0⟩⟩
        case measure => simp [intOf]; omega
      · have d2 : (Go.bits .and .i64 x a == c) = false := beq_eq_false_iff_ne.2 c2
        have HC := Aside0.mk c2
        clear c2
        go_wp2
        go_roundw
        case rel => exact ⟨j + 1, trivial, by go_num, by rw [HST.out, if_neg HC.out, Int.add_zero], ⟨c0⟩⟩
        case measure => simp [intOf]; omega
    · have d0 : decide ((j : Int) < (S.length : Int)) = false := decide_eq_false (by omega)
      have d1 : decide (j < S.length) = false := decide_eq_false c0
      have e : j = S.length := by have := HJ.out; omega
      have HE := Aside0.mk e
      clear e c0
      go_wp2
      go_ret
      exact ⟨by rw [HE.out, List.take_length]; rfl, below_alloc (Below.refl _ _) _⟩

end Go.Proofs.Ytddpdeoflaigeaa.PFnExactFirstQuestion
