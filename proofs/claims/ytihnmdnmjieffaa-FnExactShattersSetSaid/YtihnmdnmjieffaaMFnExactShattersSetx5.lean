-- Laid for this claim by a program of the session's own (wip/tool/myprint.py).
import Derived.Test.YtihnmdnmjieffaaMFnExactShattersSetx0
import Derived.Test.YtihnmdnmjieffaaMFnExactShattersSetx4
namespace Go.Proofs.Ytihnmdnmjieffaa.PFnExactShattersSet
open Go.RowKit Go.Proofs.YtihnmdnmjieffaaW.PrintWords Go.Proofs.YtihnmdnmjieffaaW.PrintLast Go.Proofs.YtihnmdnmjieffaaW.PrintMore
attribute [local go_sem] max2_int min2_int max_two min_two max_three min_three max_four min_four   -- for this text's walks alone
set_option linter.unusedVariables false
set_option maxHeartbeats 8000000
set_option maxRecDepth 100000
set_option linter.unusedSimpArgs false

/-! ### impl_IsClass: function 86 -/
mutual
def impl_IsClass.j0 : Nat → List (List Int) → Bool → Option (Bool)
  | 0, _, _ => none
  | k + 1, x0, x15 => if x15 = true then (some false) else (impl_IsClass.l0 k x0 x0 (x0.length : Int) 0)
def impl_IsClass.l0 : Nat → List (List Int) → List (List Int) → Int → Int → Option (Bool)
  | 0, _, _, _, _ => none
  | k + 1, x0, x16, x17, x18 => if x18 < x17 then (if 0 ≤ x18 then (if x18 < (x16.length : Int) then (if 0 < (x0.length : Int) then (if ((rd_L1 x16 x18).length : Int) = ((rd_L1 x0 0).length : Int) then ((impl_areLabels.f k (rd_L1 x16 x18)).bind fun t277 => (if t277 = true then (if x18 > 0 then (if 0 ≤ (wrap64 (x18 - 1)) then (if (wrap64 (x18 - 1)) < (x0.length : Int) then ((slices_Compare_int_int.f k (rd_L1 x0 (wrap64 (x18 - 1))) (rd_L1 x16 x18)).bind fun t279 => (if t279 ≥ 0 then (some false) else (impl_IsClass.l0 k x0 x16 x17 (wrap64 (x18 + 1))))) else (none)) else (none)) else (impl_IsClass.l0 k x0 x16 x17 (wrap64 (x18 + 1)))) else (some false))) else (some false)) else (none)) else (none)) else (none)) else (some true)
end
def impl_IsClass.f (k : Nat) (l0 : List (List Int)) : Option (Bool) := (impl_within.f (l0.length : Int) 1 256).bind fun t273 => (if t273 = true then (if 0 < (l0.length : Int) then (impl_IsClass.j0 k l0 (decide (((rd_L1 l0 0).length : Int) > 8))) else (none)) else (impl_IsClass.j0 k l0 true))
theorem impl_IsClass.mono_l : ∀ k, (∀ y0 y1, LeO (impl_IsClass.j0 k y0 y1) (impl_IsClass.j0 (k + 1) y0 y1)) ∧ (∀ y0 y1 y2 y3, LeO (impl_IsClass.l0 k y0 y1 y2 y3) (impl_IsClass.l0 (k + 1) y0 y1 y2 y3))
  | 0 => ⟨fun _ _ r h => by simp [impl_IsClass.j0] at h, fun _ _ _ _ r h => by simp [impl_IsClass.l0] at h⟩
  | k + 1 => by
    obtain ⟨ih0, ih1⟩ := impl_IsClass.mono_l k
    refine ⟨?_, ?_⟩
    · intro y0 y1
      unfold impl_IsClass.j0
      repeat' first
      | (with_reducible first | exact ih0 _ _ | exact ih1 _ _ _ _ | exact impl_areLabels.mono _ _ | exact slices_Compare_int_int.mono _ _ _ | exact LeO.refl _ | exact LeO.none _ | refine LeO.ite ?_ ?_ | refine LeO.bind ?_ (fun _ => ?_))
      | exact ih0 _ _ | exact ih1 _ _ _ _ | exact impl_areLabels.mono _ _ | exact slices_Compare_int_int.mono _ _ _ | exact LeO.none _ | refine LeO.ite ?_ ?_ | refine LeO.bind ?_ (fun _ => ?_)
    · intro y0 y1 y2 y3
      unfold impl_IsClass.l0
      repeat' first
      | (with_reducible first | exact ih0 _ _ | exact ih1 _ _ _ _ | exact impl_areLabels.mono _ _ | exact slices_Compare_int_int.mono _ _ _ | exact LeO.refl _ | exact LeO.none _ | refine LeO.ite ?_ ?_ | refine LeO.bind ?_ (fun _ => ?_))
      | exact ih0 _ _ | exact ih1 _ _ _ _ | exact impl_areLabels.mono _ _ | exact slices_Compare_int_int.mono _ _ _ | exact LeO.none _ | refine LeO.ite ?_ ?_ | refine LeO.bind ?_ (fun _ => ?_)
theorem impl_IsClass.mono : ∀ a0 k, LeO (impl_IsClass.f k a0) (impl_IsClass.f (k + 1) a0) := by
  intro a0 k
  obtain ⟨ih0, ih1⟩ := impl_IsClass.mono_l k
  unfold impl_IsClass.f
  repeat' first
      | (with_reducible first | exact ih0 _ _ | exact ih1 _ _ _ _ | exact impl_areLabels.mono _ _ | exact slices_Compare_int_int.mono _ _ _ | exact LeO.refl _ | exact LeO.none _ | refine LeO.ite ?_ ?_ | refine LeO.bind ?_ (fun _ => ?_))
      | exact ih0 _ _ | exact ih1 _ _ _ _ | exact impl_areLabels.mono _ _ | exact slices_Compare_int_int.mono _ _ _ | exact LeO.none _ | refine LeO.ite ?_ ?_ | refine LeO.bind ?_ (fun _ => ?_)
theorem impl_IsClass.calls (k : Nat) (A0 : Option Addr) (c0 : Nat) (l0 : List (List Int)) (r : Bool) (w : World) (hr0 : Kd.C (Kd.slice 3 (Kd.int .i64)) w A0 l0.length l0) (hc0 : l0.length ≤ c0) (h : impl_IsClass.f k l0 = some r) :
    Calls Try.prog 86 #[.slice A0 l0.length c0] w fun e w' => e = .returned (.bool r) ∧ Drawn0 w w' := by
  have HR0 := aM hr0
  have HC0 := aM hc0
  clear hr0 hc0
  have H : ((impl_within.f (l0.length : Int) 1 256).bind fun t273 => (if t273 = true then (if 0 < (l0.length : Int) then (impl_IsClass.j0 k l0 (decide (((rd_L1 l0 0).length : Int) > 8))) else (none)) else (impl_IsClass.j0 k l0 true))) = some r := h
  clear h
  have HC2 := aM H
  clear H
  go_enter Try.func86, Try.ntmps86
  go_upto_region 1 with (fail)
  go_cut [15] (fun v15 wc => ∃ (kq : Nat) (x15_1 : Bool), v15 = .bool x15_1 ∧ Aside0 (impl_IsClass.j0 kq l0 x15_1 = some r) ∧ Aside0 (kq ≤ k) ∧ Drawn0 w wc)
  case first =>
    have H := HC2.out
    clear HC2
    replace H := oB.mp H
    obtain ⟨t273, A30, H⟩ := H
    have A3 := aM A30
    clear A30
    by_cases c4 : t273 = true
    · subst c4
      rw [if_pos rfl] at H
      by_cases c5 : 0 < (l0.length : Int)
      · rw [if_pos c5] at H
        have c5b0 := decide_eq_true c5
        have c5b1 : decide (0 < l0.length) = true := decide_eq_true (by omega)
        clear c5
        (first | rw [c5b0] | (simp only [i64_w, i32_w]; rw [c5b0]) | rw [c5b1] | skip)
        have H' := aM H
        clear H
        go_wp2_with (first | (refine yL 7 Try.func51 #[.int .i64 (l0.length : Int), .int .i64 1, .int .i64 256] ?_; (with_reducible refine (impl_within.calls (l0.length : Int) 1 256 true _ A3.out).mono ?_); rintro e w' ⟨rfl, ⟨nd, rfl⟩⟩; refine ⟨_, rfl, ?_⟩; have p274 : 0 ≤ (0 : Int) := (by omega); have q274 : 0 < (l0.length : Int) := yA; obtain ⟨ad274, A274_0, c274_0, e274, hx274_0, hl274_0, hi274_0⟩ := at_L1 HR0.out 0 p274 q274; cases e274; have qi274 : (0 < l0.length) = True := eq_true (by omega); (try rw [show ((0 : Int)).toNat = 0 from rfl] at hx274_0); (try rw [Addr.add_zero'] at hx274_0); have HR274_0 := aM hi274_0; have HC274_0 := aM hl274_0; clear hi274_0 hl274_0; replace p274 := eq_true p274; replace q274 := eq_true q274))
        go_meet
        case rel => exact ⟨_, (decide (((rd_L1 l0 0).length : Int) > 8)), yZ, H', ⟨yM⟩, yDn⟩
      · rw [if_neg c5] at H
        exact absurd H (by simp)
    · replace c4 := Bool.eq_false_iff.mpr c4
      subst c4
      rw [if_neg (show ¬ (false = true) by decide)] at H
      have H' := aM H
      clear H
      go_wp2_with (first | (refine yL 7 Try.func51 #[.int .i64 (l0.length : Int), .int .i64 1, .int .i64 256] ?_; (with_reducible refine (impl_within.calls (l0.length : Int) 1 256 false _ A3.out).mono ?_); rintro e w' ⟨rfl, ⟨nd, rfl⟩⟩; refine ⟨_, rfl, ?_⟩))
      go_meet
      case rel => exact ⟨_, (true), yZ, H', ⟨yM⟩, yDn⟩
  case rest =>
    clear HC2
    try clear c2
    try clear p2
    try clear q2
    try clear hx2
    try clear qi2
    try clear c4
    try clear c5
    try clear c5b0
    try clear c5b1
    try clear hx274_0
    try clear p274
    try clear q274
    obtain ⟨kq, x15_1, rfl, HA, HJ1, ⟨mc1, rfl⟩⟩ := hcut
    cases kq with
    | zero => exact absurd HA.out (by simp [impl_IsClass.j0])
    | succ kj1 =>
      have H := HA.out
      clear HA
      simp only [impl_IsClass.j0] at H
      by_cases c6 : x15_1 = true
      · subst c6
        rw [if_pos rfl] at H
        obtain rfl := Option.some.inj H
        go_wp2
        go_ret
        exact ⟨yZ, yDn⟩
      · replace c6 := Bool.eq_false_iff.mpr c6
        subst c6
        rw [if_neg (show ¬ (false = true) by decide)] at H
        have H' := aM H
        clear H
        go_wp2
        go_loopg [18] kj1 (fun kq v18 w' => ∃ (x18_2 : Int), v18 = .int .i64 x18_2 ∧ Aside0 (impl_IsClass.l0 kq l0 l0 (l0.length : Int) x18_2 = some r) ∧ Aside0 (kq ≤ kj1) ∧ Drawn0 w w')
        case atStart => exact ⟨(0), yZ, H', ⟨Nat.le_refl _⟩, yDn⟩
        case round =>
          clear H'
          try clear c1
          try clear c2
          try clear p2
          try clear q2
          try clear hx2
          try clear qi2
          try clear c4
          try clear c5
          try clear c5b0
          try clear c5b1
          try clear c6
          try clear hx274_0
          try clear p2
          try clear p274
          try clear q2
          try clear q274
          obtain ⟨x18_2, rfl, HA, HK2, ⟨m2, rfl⟩⟩ := hrel
          cases gk with
          | zero => exact absurd HA.out (by simp [impl_IsClass.l0])
          | succ k2 =>
            have H := HA.out
            clear HA
            simp only [impl_IsClass.l0] at H
            by_cases c7 : x18_2 < (l0.length : Int)
            · rw [if_pos c7] at H
              have c7b0 := decide_eq_true c7
              clear c7
              by_cases c8 : 0 ≤ x18_2
              · rw [if_pos c8] at H
                have c8b0 := decide_eq_true c8
                clear c8
                by_cases c9 : x18_2 < (l0.length : Int)
                · rw [if_pos c9] at H
                  have c9b0 := decide_eq_true c9
                  clear c9
                  by_cases c10 : 0 < (l0.length : Int)
                  · rw [if_pos c10] at H
                    have c10b0 := decide_eq_true c10
                    have c10b1 : decide (0 < l0.length) = true := decide_eq_true (by omega)
                    clear c10
                    by_cases c11 : ((rd_L1 l0 x18_2).length : Int) = ((rd_L1 l0 0).length : Int)
                    · rw [if_pos c11] at H
                      have c11b0 : (((rd_L1 l0 x18_2).length : Int) == ((rd_L1 l0 0).length : Int)) = true := beq_iff_eq.mpr c11
                      have c11b1 : (((rd_L1 l0 x18_2).length : Int) != ((rd_L1 l0 0).length : Int)) = false := bne_eq_false_iff_eq.mpr c11
                      have c11b2 : ((rd_L1 l0 x18_2).length == (rd_L1 l0 0).length) = true := by first | simpa using c11 | (simp at c11 ⊢; omega)
                      clear c11
                      replace H := oB.mp H
                      obtain ⟨t277, A120, H⟩ := H
                      have A12 := aM A120
                      clear A120
                      by_cases c13 : t277 = true
                      · subst c13
                        rw [if_pos rfl] at H
                        by_cases c14 : x18_2 > 0
                        · rw [if_pos c14] at H
                          have c14b0 : decide (0 < x18_2) = true := decide_eq_true c14
                          clear c14
                          obtain ⟨ji15, hji15⟩ := yJ ((wrap64 (x18_2 - 1)))
                          (first | rw [hji15] at H | simp only [hji15] at H)
                          (try rw [hji15] at A12)
                          have hji15w : (IntKind.i64.wrap (x18_2 - 1)) = ji15 := (i64_w _).trans hji15
                          by_cases c16 : 0 ≤ (ji15)
                          · rw [if_pos c16] at H
                            have c16b0 := decide_eq_true c16
                            clear c16
                            by_cases c17 : (ji15) < (l0.length : Int)
                            · rw [if_pos c17] at H
                              have c17b0 := decide_eq_true c17
                              clear c17
                              replace H := oB.mp H
                              obtain ⟨t279, A180, H⟩ := H
                              have A18 := aM A180
                              clear A180
                              by_cases c19 : t279 ≥ 0
                              · rw [if_pos c19] at H
                                have c19b0 : decide (0 ≤ t279) = true := decide_eq_true c19
                                clear c19
                                obtain rfl := Option.some.inj H
                                have p275 : 0 ≤ (x18_2 : Int) := yA
                                have q275 : x18_2 < (l0.length : Int) := yA
                                obtain ⟨ad275, A275_0, c275_0, e275, hx275_0, hl275_0, hi275_0⟩ := at_L1 HR0.out x18_2 p275 q275
                                cases e275
                                have HR275_0 := aM hi275_0
                                have HC275_0 := aM hl275_0
                                clear hi275_0 hl275_0
                                replace p275 := eq_true p275
                                replace q275 := eq_true q275
                                have p276 : 0 ≤ (0 : Int) := (by omega)
                                have q276 : 0 < (l0.length : Int) := yA
                                obtain ⟨ad276, A276_0, c276_0, e276, hx276_0, hl276_0, hi276_0⟩ := at_L1 HR0.out 0 p276 q276
                                obtain rfl : ad275 = ad276 := (by injection e276)
                                have qi276 : (0 < l0.length) = True := eq_true (by omega)
                                (try rw [show ((0 : Int)).toNat = 0 from rfl] at hx276_0)
                                (try rw [Addr.add_zero'] at hx276_0)
                                have HR276_0 := aM hi276_0
                                have HC276_0 := aM hl276_0
                                clear hi276_0 hl276_0
                                replace p276 := eq_true p276
                                replace q276 := eq_true q276
                                go_wp2_with (first | (go_at_call 106; (with_reducible refine (impl_areLabels.calls k2 _ _ (rd_L1 l0 x18_2) true _ (xC HR275_0.out) HC275_0.out A12.out).mono ?_); rintro e w' ⟨rfl, ⟨nd, rfl⟩⟩; have p278 : 0 ≤ ((ji15) : Int) := yA; have q278 : (ji15) < (l0.length : Int) := yA; obtain ⟨ad278, A278_0, c278_0, e278, hx278_0, hl278_0, hi278_0⟩ := at_L1 HR0.out (ji15) p278 q278; obtain rfl : ad275 = ad278 := (by injection e278); have HR278_0 := aM hi278_0; have HC278_0 := aM hl278_0; clear hi278_0 hl278_0; replace p278 := eq_true p278; replace q278 := eq_true q278) | (go_at_call 107; (with_reducible refine (slices_Compare_int_int.calls k2 _ _ (rd_L1 l0 (ji15)) _ _ (rd_L1 l0 x18_2) t279 _ (xC HR278_0.out) HC278_0.out (xC HR275_0.out) HC275_0.out A18.out).mono ?_); rintro e w' ⟨rfl, ⟨nd, rfl⟩⟩))
                                go_ret
                                exact ⟨by first | rfl | (simp; done) | (simp only [← hji15] <;> (first | rfl | simp)) | (simp [*]; done), yDn⟩
                              · rw [if_neg c19] at H
                                have c19b0 : decide (0 ≤ t279) = false := decide_eq_false c19
                                clear c19
                                have H' := aM H
                                clear H
                                have p275 : 0 ≤ (x18_2 : Int) := yA
                                have q275 : x18_2 < (l0.length : Int) := yA
                                obtain ⟨ad275, A275_0, c275_0, e275, hx275_0, hl275_0, hi275_0⟩ := at_L1 HR0.out x18_2 p275 q275
                                cases e275
                                have HR275_0 := aM hi275_0
                                have HC275_0 := aM hl275_0
                                clear hi275_0 hl275_0
                                replace p275 := eq_true p275
                                replace q275 := eq_true q275
                                have p276 : 0 ≤ (0 : Int) := (by omega)
                                have q276 : 0 < (l0.length : Int) := yA
                                obtain ⟨ad276, A276_0, c276_0, e276, hx276_0, hl276_0, hi276_0⟩ := at_L1 HR0.out 0 p276 q276
                                obtain rfl : ad275 = ad276 := (by injection e276)
                                have qi276 : (0 < l0.length) = True := eq_true (by omega)
                                (try rw [show ((0 : Int)).toNat = 0 from rfl] at hx276_0)
                                (try rw [Addr.add_zero'] at hx276_0)
                                have HR276_0 := aM hi276_0
                                have HC276_0 := aM hl276_0
                                clear hi276_0 hl276_0
                                replace p276 := eq_true p276
                                replace q276 := eq_true q276
                                go_wp2_with (first | (go_at_call 106; (with_reducible refine (impl_areLabels.calls k2 _ _ (rd_L1 l0 x18_2) true _ (xC HR275_0.out) HC275_0.out A12.out).mono ?_); rintro e w' ⟨rfl, ⟨nd, rfl⟩⟩; have p278 : 0 ≤ ((ji15) : Int) := yA; have q278 : (ji15) < (l0.length : Int) := yA; obtain ⟨ad278, A278_0, c278_0, e278, hx278_0, hl278_0, hi278_0⟩ := at_L1 HR0.out (ji15) p278 q278; obtain rfl : ad275 = ad278 := (by injection e278); have HR278_0 := aM hi278_0; have HC278_0 := aM hl278_0; clear hi278_0 hl278_0; replace p278 := eq_true p278; replace q278 := eq_true q278) | (go_at_call 107; (with_reducible refine (slices_Compare_int_int.calls k2 _ _ (rd_L1 l0 (ji15)) _ _ (rd_L1 l0 x18_2) t279 _ (xC HR278_0.out) HC278_0.out (xC HR275_0.out) HC275_0.out A18.out).mono ?_); rintro e w' ⟨rfl, ⟨nd, rfl⟩⟩))
                                go_roundg k2
                                case measure => have := HJ1.out; have := HK2.out; omega
                                case rel => exact ⟨(wrap64 (x18_2 + 1)), yZ, H', ⟨by have := HJ1.out; have := HK2.out; omega⟩, yDn⟩
                            · rw [if_neg c17] at H
                              exact absurd H (by simp)
                          · rw [if_neg c16] at H
                            exact absurd H (by simp)
                        · rw [if_neg c14] at H
                          have c14b0 : decide (0 < x18_2) = false := decide_eq_false c14
                          clear c14
                          have H' := aM H
                          clear H
                          have p275 : 0 ≤ (x18_2 : Int) := yA
                          have q275 : x18_2 < (l0.length : Int) := yA
                          obtain ⟨ad275, A275_0, c275_0, e275, hx275_0, hl275_0, hi275_0⟩ := at_L1 HR0.out x18_2 p275 q275
                          cases e275
                          have HR275_0 := aM hi275_0
                          have HC275_0 := aM hl275_0
                          clear hi275_0 hl275_0
                          replace p275 := eq_true p275
                          replace q275 := eq_true q275
                          have p276 : 0 ≤ (0 : Int) := (by omega)
                          have q276 : 0 < (l0.length : Int) := yA
                          obtain ⟨ad276, A276_0, c276_0, e276, hx276_0, hl276_0, hi276_0⟩ := at_L1 HR0.out 0 p276 q276
                          obtain rfl : ad275 = ad276 := (by injection e276)
                          have qi276 : (0 < l0.length) = True := eq_true (by omega)
                          (try rw [show ((0 : Int)).toNat = 0 from rfl] at hx276_0)
                          (try rw [Addr.add_zero'] at hx276_0)
                          have HR276_0 := aM hi276_0
                          have HC276_0 := aM hl276_0
                          clear hi276_0 hl276_0
                          replace p276 := eq_true p276
                          replace q276 := eq_true q276
                          go_wp2_with (first | (go_at_call 106; (with_reducible refine (impl_areLabels.calls k2 _ _ (rd_L1 l0 x18_2) true _ (xC HR275_0.out) HC275_0.out A12.out).mono ?_); rintro e w' ⟨rfl, ⟨nd, rfl⟩⟩))
                          go_roundg k2
                          case measure => have := HJ1.out; have := HK2.out; omega
                          case rel => exact ⟨(wrap64 (x18_2 + 1)), yZ, H', ⟨by have := HJ1.out; have := HK2.out; omega⟩, yDn⟩
                      · replace c13 := Bool.eq_false_iff.mpr c13
                        subst c13
                        rw [if_neg (show ¬ (false = true) by decide)] at H
                        obtain rfl := Option.some.inj H
                        have p275 : 0 ≤ (x18_2 : Int) := yA
                        have q275 : x18_2 < (l0.length : Int) := yA
                        obtain ⟨ad275, A275_0, c275_0, e275, hx275_0, hl275_0, hi275_0⟩ := at_L1 HR0.out x18_2 p275 q275
                        cases e275
                        have HR275_0 := aM hi275_0
                        have HC275_0 := aM hl275_0
                        clear hi275_0 hl275_0
                        replace p275 := eq_true p275
                        replace q275 := eq_true q275
                        have p276 : 0 ≤ (0 : Int) := (by omega)
                        have q276 : 0 < (l0.length : Int) := yA
                        obtain ⟨ad276, A276_0, c276_0, e276, hx276_0, hl276_0, hi276_0⟩ := at_L1 HR0.out 0 p276 q276
                        obtain rfl : ad275 = ad276 := (by injection e276)
                        have qi276 : (0 < l0.length) = True := eq_true (by omega)
                        (try rw [show ((0 : Int)).toNat = 0 from rfl] at hx276_0)
                        (try rw [Addr.add_zero'] at hx276_0)
                        have HR276_0 := aM hi276_0
                        have HC276_0 := aM hl276_0
                        clear hi276_0 hl276_0
                        replace p276 := eq_true p276
                        replace q276 := eq_true q276
                        go_wp2_with (first | (go_at_call 106; (with_reducible refine (impl_areLabels.calls k2 _ _ (rd_L1 l0 x18_2) false _ (xC HR275_0.out) HC275_0.out A12.out).mono ?_); rintro e w' ⟨rfl, ⟨nd, rfl⟩⟩))
                        go_ret
                        exact ⟨yZ, yDn⟩
                    · rw [if_neg c11] at H
                      have c11b0 : (((rd_L1 l0 x18_2).length : Int) == ((rd_L1 l0 0).length : Int)) = false := beq_eq_false_iff_ne.mpr c11
                      have c11b1 : (((rd_L1 l0 x18_2).length : Int) != ((rd_L1 l0 0).length : Int)) = true := bne_iff_ne.mpr c11
                      have c11b2 : ((rd_L1 l0 x18_2).length == (rd_L1 l0 0).length) = false := by first | simpa using c11 | (simp at c11 ⊢; omega)
                      obtain rfl := Option.some.inj H
                      have p275 : 0 ≤ (x18_2 : Int) := yA
                      have q275 : x18_2 < (l0.length : Int) := yA
                      obtain ⟨ad275, A275_0, c275_0, e275, hx275_0, hl275_0, hi275_0⟩ := at_L1 HR0.out x18_2 p275 q275
                      cases e275
                      have HR275_0 := aM hi275_0
                      have HC275_0 := aM hl275_0
                      clear hi275_0 hl275_0
                      replace p275 := eq_true p275
                      replace q275 := eq_true q275
                      have p276 : 0 ≤ (0 : Int) := (by omega)
                      have q276 : 0 < (l0.length : Int) := yA
                      obtain ⟨ad276, A276_0, c276_0, e276, hx276_0, hl276_0, hi276_0⟩ := at_L1 HR0.out 0 p276 q276
                      obtain rfl : ad275 = ad276 := (by injection e276)
                      have qi276 : (0 < l0.length) = True := eq_true (by omega)
                      (try rw [show ((0 : Int)).toNat = 0 from rfl] at hx276_0)
                      (try rw [Addr.add_zero'] at hx276_0)
                      have HR276_0 := aM hi276_0
                      have HC276_0 := aM hl276_0
                      clear hi276_0 hl276_0
                      replace p276 := eq_true p276
                      replace q276 := eq_true q276
                      go_wp2
                      go_ret
                      exact ⟨yZ, yDn⟩
                  · rw [if_neg c10] at H
                    exact absurd H (by simp)
                · rw [if_neg c9] at H
                  exact absurd H (by simp)
              · rw [if_neg c8] at H
                exact absurd H (by simp)
            · rw [if_neg c7] at H
              have c7b0 := decide_eq_false c7
              clear c7
              obtain rfl := Option.some.inj H
              go_wp2
              go_ret
              exact ⟨yZ, yDn⟩

/-! ### impl_rising: function 38 -/
def impl_rising.l0 : Nat → List Int → Int → Option (Bool)
  | 0, _, _ => none
  | k + 1, x0, x3 => if x3 < (x0.length : Int) then (if 0 ≤ (wrap64 (x3 - 1)) then (if (wrap64 (x3 - 1)) < (x0.length : Int) then (if 0 ≤ x3 then (if (rd x0 (wrap64 (x3 - 1))) ≥ (rd x0 x3) then (some false) else (impl_rising.l0 k x0 (wrap64 (x3 + 1)))) else (none)) else (none)) else (none)) else (some true)
def impl_rising.f (k : Nat) (l0 : List Int) : Option (Bool) := impl_rising.l0 k l0 1
theorem impl_rising.mono_l : ∀ k, (∀ y0 y1, LeO (impl_rising.l0 k y0 y1) (impl_rising.l0 (k + 1) y0 y1))
  | 0 => fun _ _ r h => by simp [impl_rising.l0] at h
  | k + 1 => by
    have ih0 := impl_rising.mono_l k
    · intro y0 y1
      unfold impl_rising.l0
      repeat' first
      | (with_reducible first | exact ih0 _ _ | exact LeO.refl _ | exact LeO.none _ | refine LeO.ite ?_ ?_ | refine LeO.bind ?_ (fun _ => ?_))
      | exact ih0 _ _ | exact LeO.none _ | refine LeO.ite ?_ ?_ | refine LeO.bind ?_ (fun _ => ?_)
theorem impl_rising.mono : ∀ a0 k, LeO (impl_rising.f k a0) (impl_rising.f (k + 1) a0) := by
  intro a0 k
  have ih0 := impl_rising.mono_l k
  unfold impl_rising.f
  repeat' first
      | (with_reducible first | exact ih0 _ _ | exact LeO.refl _ | exact LeO.none _ | refine LeO.ite ?_ ?_ | refine LeO.bind ?_ (fun _ => ?_))
      | exact ih0 _ _ | exact LeO.none _ | refine LeO.ite ?_ ?_ | refine LeO.bind ?_ (fun _ => ?_)
theorem impl_rising.calls (k : Nat) (A0 : Option Addr) (c0 : Nat) (l0 : List Int) (r : Bool) (w : World) (hr0 : Kd.C (Kd.int .i64) w A0 l0.length l0) (hc0 : l0.length ≤ c0) (h : impl_rising.f k l0 = some r) :
    Calls Try.prog 38 #[.slice A0 l0.length c0] w fun e w' => e = .returned (.bool r) ∧ Drawn0 w w' := by
  have HR0 := aM hr0
  have HC0 := aM hc0
  clear hr0 hc0
  have H : (impl_rising.l0 k l0 1) = some r := h
  clear h
  have H' := aM H
  clear H
  go_enter Try.func38, Try.ntmps38
  go_wp2
  repeat (go_quiet (fail); try go_wp2)
  go_loopg [3] k (fun kq v3 w' => ∃ (x3_1 : Int), v3 = .int .i64 x3_1 ∧ Aside0 (impl_rising.l0 kq l0 x3_1 = some r) ∧ Aside0 (kq ≤ k) ∧ Drawn0 w w')
  case atStart => exact ⟨(1), yZ, H', ⟨Nat.le_refl _⟩, yDn⟩
  case round =>
    clear H'
    obtain ⟨x3_1, rfl, HA, HK1, ⟨m1, rfl⟩⟩ := hrel
    cases gk with
    | zero => exact absurd HA.out (by simp [impl_rising.l0])
    | succ k1 =>
      have H := HA.out
      clear HA
      simp only [impl_rising.l0] at H
      by_cases c2 : x3_1 < (l0.length : Int)
      · rw [if_pos c2] at H
        have c2b0 := decide_eq_true c2
        clear c2
        obtain ⟨ji3, hji3⟩ := yJ ((wrap64 (x3_1 - 1)))
        (first | rw [hji3] at H | simp only [hji3] at H)
        have hji3w : (IntKind.i64.wrap (x3_1 - 1)) = ji3 := (i64_w _).trans hji3
        by_cases c4 : 0 ≤ (ji3)
        · rw [if_pos c4] at H
          have c4b0 := decide_eq_true c4
          clear c4
          by_cases c5 : (ji3) < (l0.length : Int)
          · rw [if_pos c5] at H
            have c5b0 := decide_eq_true c5
            clear c5
            by_cases c6 : 0 ≤ x3_1
            · rw [if_pos c6] at H
              have c6b0 := decide_eq_true c6
              clear c6
              by_cases c7 : (rd l0 (ji3)) ≥ (rd l0 x3_1)
              · rw [if_pos c7] at H
                have c7b0 : decide ((rd l0 x3_1) ≤ (rd l0 (ji3))) = true := decide_eq_true c7
                clear c7
                obtain rfl := Option.some.inj H
                obtain ⟨ad280, e280, hx280_0, p280, q280⟩ := yi HR0.out (ji3)
                cases e280
                obtain ⟨ad281, e281, hx281_0, p281, q281⟩ := yi HR0.out x3_1
                obtain rfl : ad280 = ad281 := (by injection e281)
                go_wp2
                repeat (go_quiet (fail); try go_wp2)
                go_ret
                exact ⟨by first | rfl | (simp; done) | (simp only [← hji3] <;> (first | rfl | simp)) | (simp [*]; done), yDn⟩
              · rw [if_neg c7] at H
                have c7b0 : decide ((rd l0 x3_1) ≤ (rd l0 (ji3))) = false := decide_eq_false c7
                clear c7
                have H' := aM H
                clear H
                obtain ⟨ad280, e280, hx280_0, p280, q280⟩ := yi HR0.out (ji3)
                cases e280
                obtain ⟨ad281, e281, hx281_0, p281, q281⟩ := yi HR0.out x3_1
                obtain rfl : ad280 = ad281 := (by injection e281)
                go_wp2
                repeat (go_quiet (fail); try go_wp2)
                go_roundg k1
                case measure => have := HK1.out; omega
                case rel => exact ⟨(wrap64 (x3_1 + 1)), yZ, H', ⟨by have := HK1.out; omega⟩, yDn⟩
            · rw [if_neg c6] at H
              exact absurd H (by simp)
          · rw [if_neg c5] at H
            exact absurd H (by simp)
        · rw [if_neg c4] at H
          exact absurd H (by simp)
      · rw [if_neg c2] at H
        have c2b0 := decide_eq_false c2
        clear c2
        obtain rfl := Option.some.inj H
        go_wp2
        repeat (go_quiet (fail); try go_wp2)
        go_ret
        exact ⟨yZ, yDn⟩

/-! ### impl_allWithin: function 39 -/
def impl_allWithin.l0 : Nat → Int → Int → List Int → Int → Int → Option (Bool)
  | 0, _, _, _, _, _ => none
  | k + 1, x1, x2, x9, x10, x11 => if x11 < x10 then (if 0 ≤ x11 then (if x11 < (x9.length : Int) then ((impl_within.f (rd x9 x11) x1 x2).bind fun t283 => (if t283 = true then (impl_allWithin.l0 k x1 x2 x9 x10 (wrap64 (x11 + 1))) else (some false))) else (none)) else (none)) else (some true)
def impl_allWithin.f (k : Nat) (l0 : List Int) (a1 : Int) (a2 : Int) : Option (Bool) := impl_allWithin.l0 k a1 a2 l0 (l0.length : Int) 0
theorem impl_allWithin.mono_l : ∀ k, (∀ y0 y1 y2 y3 y4, LeO (impl_allWithin.l0 k y0 y1 y2 y3 y4) (impl_allWithin.l0 (k + 1) y0 y1 y2 y3 y4))
  | 0 => fun _ _ _ _ _ r h => by simp [impl_allWithin.l0] at h
  | k + 1 => by
    have ih0 := impl_allWithin.mono_l k
    · intro y0 y1 y2 y3 y4
      unfold impl_allWithin.l0
      repeat' first
      | (with_reducible first | exact ih0 _ _ _ _ _ | exact LeO.refl _ | exact LeO.none _ | refine LeO.ite ?_ ?_ | refine LeO.bind ?_ (fun _ => ?_))
      | exact ih0 _ _ _ _ _ | exact LeO.none _ | refine LeO.ite ?_ ?_ | refine LeO.bind ?_ (fun _ => ?_)
theorem impl_allWithin.mono : ∀ a0 a1 a2 k, LeO (impl_allWithin.f k a0 a1 a2) (impl_allWithin.f (k + 1) a0 a1 a2) := by
  intro a0 a1 a2 k
  have ih0 := impl_allWithin.mono_l k
  unfold impl_allWithin.f
  repeat' first
      | (with_reducible first | exact ih0 _ _ _ _ _ | exact LeO.refl _ | exact LeO.none _ | refine LeO.ite ?_ ?_ | refine LeO.bind ?_ (fun _ => ?_))
      | exact ih0 _ _ _ _ _ | exact LeO.none _ | refine LeO.ite ?_ ?_ | refine LeO.bind ?_ (fun _ => ?_)
theorem impl_allWithin.calls (k : Nat) (A0 : Option Addr) (c0 : Nat) (l0 : List Int) (a1 : Int) (a2 : Int) (r : Bool) (w : World) (hr0 : Kd.C (Kd.int .i64) w A0 l0.length l0) (hc0 : l0.length ≤ c0) (h : impl_allWithin.f k l0 a1 a2 = some r) :
    Calls Try.prog 39 #[.slice A0 l0.length c0, .int .i64 a1, .int .i64 a2] w fun e w' => e = .returned (.bool r) ∧ Drawn0 w w' := by
  have HR0 := aM hr0
  have HC0 := aM hc0
  clear hr0 hc0
  have H : (impl_allWithin.l0 k a1 a2 l0 (l0.length : Int) 0) = some r := h
  clear h
  have H' := aM H
  clear H
  go_enter Try.func39, Try.ntmps39
  go_wp2
  go_loopg [11] k (fun kq v11 w' => ∃ (x11_1 : Int), v11 = .int .i64 x11_1 ∧ Aside0 (impl_allWithin.l0 kq a1 a2 l0 (l0.length : Int) x11_1 = some r) ∧ Aside0 (kq ≤ k) ∧ Drawn0 w w')
  case atStart => exact ⟨(0), yZ, H', ⟨Nat.le_refl _⟩, yDn⟩
  case round =>
    clear H'
    try clear p2
    try clear c3
    obtain ⟨x11_1, rfl, HA, HK1, ⟨m1, rfl⟩⟩ := hrel
    cases gk with
    | zero => exact absurd HA.out (by simp [impl_allWithin.l0])
    | succ k1 =>
      have H := HA.out
      clear HA
      simp only [impl_allWithin.l0] at H
      by_cases c4 : x11_1 < (l0.length : Int)
      · rw [if_pos c4] at H
        have c4b0 := decide_eq_true c4
        clear c4
        by_cases c5 : 0 ≤ x11_1
        · rw [if_pos c5] at H
          have c5b0 := decide_eq_true c5
          clear c5
          by_cases c6 : x11_1 < (l0.length : Int)
          · rw [if_pos c6] at H
            have c6b0 := decide_eq_true c6
            clear c6
            replace H := oB.mp H
            obtain ⟨t283, A70, H⟩ := H
            have A7 := aM A70
            clear A70
            by_cases c8 : t283 = true
            · subst c8
              rw [if_pos rfl] at H
              have H' := aM H
              clear H
              obtain ⟨ad282, e282, hx282_0, p282, q282⟩ := yi HR0.out x11_1
              cases e282
              go_wp2_with (first | (refine yL 18 Try.func51 #[.int .i64 (rd l0 x11_1), .int .i64 a1, .int .i64 a2] ?_; (with_reducible refine (impl_within.calls (rd l0 x11_1) a1 a2 true _ A7.out).mono ?_); rintro e w' ⟨rfl, ⟨nd, rfl⟩⟩; refine ⟨_, rfl, ?_⟩))
              go_roundg k1
              case measure => have := HK1.out; omega
              case rel => exact ⟨(wrap64 (x11_1 + 1)), yZ, H', ⟨by have := HK1.out; omega⟩, yDn⟩
            · replace c8 := Bool.eq_false_iff.mpr c8
              subst c8
              rw [if_neg (show ¬ (false = true) by decide)] at H
              obtain rfl := Option.some.inj H
              obtain ⟨ad282, e282, hx282_0, p282, q282⟩ := yi HR0.out x11_1
              cases e282
              go_wp2_with (first | (refine yL 18 Try.func51 #[.int .i64 (rd l0 x11_1), .int .i64 a1, .int .i64 a2] ?_; (with_reducible refine (impl_within.calls (rd l0 x11_1) a1 a2 false _ A7.out).mono ?_); rintro e w' ⟨rfl, ⟨nd, rfl⟩⟩; refine ⟨_, rfl, ?_⟩))
              go_ret
              exact ⟨yZ, yDn⟩
          · rw [if_neg c6] at H
            exact absurd H (by simp)
        · rw [if_neg c5] at H
          exact absurd H (by simp)
      · rw [if_neg c4] at H
        have c4b0 := decide_eq_false c4
        clear c4
        obtain rfl := Option.some.inj H
        go_wp2
        go_ret
        exact ⟨yZ, yDn⟩

/-! ### impl_isSet: function 87 -/
def impl_isSet.f (k : Nat) (l0 : List Int) (a1 : Int) : Option (Bool) := (impl_rising.f k l0).bind fun t284 => (if t284 = true then ((impl_allWithin.f k l0 0 (wrap64 (a1 - 1))).bind fun t285 => (some t285)) else (some false))
theorem impl_isSet.mono : ∀ a0 a1 k, LeO (impl_isSet.f k a0 a1) (impl_isSet.f (k + 1) a0 a1) := by
  intro a0 a1 k
  unfold impl_isSet.f
  repeat' first
      | (with_reducible first | exact impl_allWithin.mono _ _ _ _ | exact impl_rising.mono _ _ | exact LeO.refl _ | exact LeO.none _ | refine LeO.ite ?_ ?_ | refine LeO.bind ?_ (fun _ => ?_))
      | exact impl_allWithin.mono _ _ _ _ | exact impl_rising.mono _ _ | exact LeO.none _ | refine LeO.ite ?_ ?_ | refine LeO.bind ?_ (fun _ => ?_)
theorem impl_isSet.calls (k : Nat) (A0 : Option Addr) (c0 : Nat) (l0 : List Int) (a1 : Int) (r : Bool) (w : World) (hr0 : Kd.C (Kd.int .i64) w A0 l0.length l0) (hc0 : l0.length ≤ c0) (h : impl_isSet.f k l0 a1 = some r) :
    Calls Try.prog 87 #[.slice A0 l0.length c0, .int .i64 a1] w fun e w' => e = .returned (.bool r) ∧ Drawn0 w w' := by
  have HR0 := aM hr0
  have HC0 := aM hc0
  clear hr0 hc0
  have H : ((impl_rising.f k l0).bind fun t284 => (if t284 = true then ((impl_allWithin.f k l0 0 (wrap64 (a1 - 1))).bind fun t285 => (some t285)) else (some false))) = some r := h
  clear h
  replace H := oB.mp H
  obtain ⟨t284, A30, H⟩ := H
  have A3 := aM A30
  clear A30
  by_cases c4 : t284 = true
  · subst c4
    rw [if_pos rfl] at H
    replace H := oB.mp H
    obtain ⟨t285, A50, H⟩ := H
    have A5 := aM A50
    clear A50
    obtain rfl := Option.some.inj H
    go_enter Try.func87, Try.ntmps87
    go_wp2_with (first | (refine yL 6 Try.func38 #[.slice A0 l0.length c0] ?_; (with_reducible refine (impl_rising.calls k _ _ l0 true _ (xC HR0.out) HC0.out A3.out).mono ?_); rintro e w' ⟨rfl, ⟨nd, rfl⟩⟩; refine ⟨_, rfl, ?_⟩) | (go_at_call 39; (with_reducible refine (impl_allWithin.calls k _ _ l0 0 (wrap64 (a1 - 1)) t285 _ (xC HR0.out) HC0.out A5.out).mono ?_); rintro e w' ⟨rfl, ⟨nd, rfl⟩⟩))
    go_ret
    exact ⟨yZ, yDn⟩
  · replace c4 := Bool.eq_false_iff.mpr c4
    subst c4
    rw [if_neg (show ¬ (false = true) by decide)] at H
    obtain rfl := Option.some.inj H
    go_enter Try.func87, Try.ntmps87
    go_wp2_with (first | (refine yL 6 Try.func38 #[.slice A0 l0.length c0] ?_; (with_reducible refine (impl_rising.calls k _ _ l0 false _ (xC HR0.out) HC0.out A3.out).mono ?_); rintro e w' ⟨rfl, ⟨nd, rfl⟩⟩; refine ⟨_, rfl, ?_⟩))
    go_ret
    exact ⟨yZ, yDn⟩

/-! ### impl_isClassSet: function 45 -/
def impl_isClassSet.f (k : Nat) (l0 : List (List Int)) (l1 : List Int) : Option (Bool) := (impl_IsClass.f k l0).bind fun t286 => (if t286 = true then (if 0 < (l0.length : Int) then ((impl_isSet.f k l1 ((rd_L1 l0 0).length : Int)).bind fun t288 => (some t288)) else (none)) else (some false))
theorem impl_isClassSet.mono : ∀ a0 a1 k, LeO (impl_isClassSet.f k a0 a1) (impl_isClassSet.f (k + 1) a0 a1) := by
  intro a0 a1 k
  unfold impl_isClassSet.f
  repeat' first
      | (with_reducible first | exact impl_IsClass.mono _ _ | exact impl_isSet.mono _ _ _ | exact LeO.refl _ | exact LeO.none _ | refine LeO.ite ?_ ?_ | refine LeO.bind ?_ (fun _ => ?_))
      | exact impl_IsClass.mono _ _ | exact impl_isSet.mono _ _ _ | exact LeO.none _ | refine LeO.ite ?_ ?_ | refine LeO.bind ?_ (fun _ => ?_)
theorem impl_isClassSet.calls (k : Nat) (A0 : Option Addr) (c0 : Nat) (l0 : List (List Int)) (A1 : Option Addr) (c1 : Nat) (l1 : List Int) (r : Bool) (w : World) (hr0 : Kd.C (Kd.slice 3 (Kd.int .i64)) w A0 l0.length l0) (hc0 : l0.length ≤ c0) (hr1 : Kd.C (Kd.int .i64) w A1 l1.length l1) (hc1 : l1.length ≤ c1) (h : impl_isClassSet.f k l0 l1 = some r) :
    Calls Try.prog 45 #[.slice A0 l0.length c0, .slice A1 l1.length c1] w fun e w' => e = .returned (.bool r) ∧ Drawn0 w w' := by
  have HR0 := aM hr0
  have HC0 := aM hc0
  clear hr0 hc0
  have HR1 := aM hr1
  have HC1 := aM hc1
  clear hr1 hc1
  have H : ((impl_IsClass.f k l0).bind fun t286 => (if t286 = true then (if 0 < (l0.length : Int) then ((impl_isSet.f k l1 ((rd_L1 l0 0).length : Int)).bind fun t288 => (some t288)) else (none)) else (some false))) = some r := h
  clear h
  replace H := oB.mp H
  obtain ⟨t286, A30, H⟩ := H
  have A3 := aM A30
  clear A30
  by_cases c4 : t286 = true
  · subst c4
    rw [if_pos rfl] at H
    by_cases c5 : 0 < (l0.length : Int)
    · rw [if_pos c5] at H
      have c5b0 := decide_eq_true c5
      have c5b1 : decide (0 < l0.length) = true := decide_eq_true (by omega)
      clear c5
      replace H := oB.mp H
      obtain ⟨t288, A60, H⟩ := H
      have A6 := aM A60
      clear A60
      obtain rfl := Option.some.inj H
      go_enter Try.func45, Try.ntmps45
      go_wp2_with (first | (refine yL 6 Try.func86 #[.slice A0 l0.length c0] ?_; (with_reducible refine (impl_IsClass.calls k _ _ l0 true _ (xC HR0.out) HC0.out A3.out).mono ?_); rintro e w' ⟨rfl, ⟨nd, rfl⟩⟩; refine ⟨_, rfl, ?_⟩; have p287 : 0 ≤ (0 : Int) := (by omega); have q287 : 0 < (l0.length : Int) := yA; obtain ⟨ad287, A287_0, c287_0, e287, hx287_0, hl287_0, hi287_0⟩ := at_L1 HR0.out 0 p287 q287; cases e287; have qi287 : (0 < l0.length) = True := eq_true (by omega); (try rw [show ((0 : Int)).toNat = 0 from rfl] at hx287_0); (try rw [Addr.add_zero'] at hx287_0); have HR287_0 := aM hi287_0; have HC287_0 := aM hl287_0; clear hi287_0 hl287_0; replace p287 := eq_true p287; replace q287 := eq_true q287) | (go_at_call 87; (with_reducible refine (impl_isSet.calls k _ _ l1 ((rd_L1 l0 0).length : Int) t288 _ (xC HR1.out) HC1.out A6.out).mono ?_); rintro e w' ⟨rfl, ⟨nd, rfl⟩⟩))
      go_ret
      exact ⟨yZ, yDn⟩
    · rw [if_neg c5] at H
      exact absurd H (by simp)
  · replace c4 := Bool.eq_false_iff.mpr c4
    subst c4
    rw [if_neg (show ¬ (false = true) by decide)] at H
    obtain rfl := Option.some.inj H
    go_enter Try.func45, Try.ntmps45
    go_wp2_with (first | (refine yL 6 Try.func86 #[.slice A0 l0.length c0] ?_; (with_reducible refine (impl_IsClass.calls k _ _ l0 false _ (xC HR0.out) HC0.out A3.out).mono ?_); rintro e w' ⟨rfl, ⟨nd, rfl⟩⟩; refine ⟨_, rfl, ?_⟩))
    go_ret
    exact ⟨yZ, yDn⟩

end Go.Proofs.Ytihnmdnmjieffaa.PFnExactShattersSet
