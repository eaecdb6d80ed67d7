-- Laid for this claim by a program of the session's own (wip/tool/myprint.py).
import Derived.Test.YtihnmdnmjieffaaMFnExactShattersSetx0
import Derived.Test.YtihnmdnmjieffaaMFnExactShattersSetx1
namespace Go.Proofs.Ytihnmdnmjieffaa.PFnExactShattersSet
open Go.RowKit Go.Proofs.YtihnmdnmjieffaaW.PrintWords Go.Proofs.YtihnmdnmjieffaaW.PrintLast Go.Proofs.YtihnmdnmjieffaaW.PrintMore
attribute [local go_sem] max2_int min2_int max_two min_two max_three min_three max_four min_four   -- for this text's walks alone
set_option linter.unusedVariables false
set_option maxHeartbeats 8000000
set_option maxRecDepth 100000
set_option linter.unusedSimpArgs false

/-! ### spec_l7Class: function 83 -/
mutual
def spec_l7Class.l0 : Nat → List (List Int) → Int → Option (Bool)
  | 0, _, _ => none
  | k + 1, x0, x3 => if x3 < (x0.length : Int) then (if 0 ≤ x3 then (if ((rd_L1 x0 x3).length : Int) > 8 then (spec_l7Class.j1 k x0 x3 true) else (if 0 < (x0.length : Int) then (if ((rd_L1 x0 x3).length : Int) = ((rd_L1 x0 0).length : Int) then ((spec_l2Labels.f k (rd_L1 x0 x3)).bind fun t121 => (spec_l7Class.j1 k x0 x3 (!t121))) else (spec_l7Class.j1 k x0 x3 true)) else (none))) else (none)) else ((spec_l1In.f (x0.length : Int) 1 256).bind fun t116 => (some t116))
def spec_l7Class.j1 : Nat → List (List Int) → Int → Bool → Option (Bool)
  | 0, _, _, _ => none
  | k + 1, x0, x3, x35 => if x35 = true then (some false) else (if x3 > 0 then (if 0 ≤ (wrap64 (x3 - 1)) then (if (wrap64 (x3 - 1)) < (x0.length : Int) then (if 0 ≤ x3 then (if x3 < (x0.length : Int) then ((spec_l7Before.f k (rd_L1 x0 (wrap64 (x3 - 1))) (rd_L1 x0 x3)).bind fun t124 => (if t124 = true then (spec_l7Class.l0 k x0 (wrap64 (x3 + 1))) else (some false))) else (none)) else (none)) else (none)) else (none)) else (spec_l7Class.l0 k x0 (wrap64 (x3 + 1))))
end
def spec_l7Class.f (k : Nat) (l0 : List (List Int)) : Option (Bool) := spec_l7Class.l0 k l0 0
theorem spec_l7Class.mono_l : ∀ k, (∀ y0 y1, LeO (spec_l7Class.l0 k y0 y1) (spec_l7Class.l0 (k + 1) y0 y1)) ∧ (∀ y0 y1 y2, LeO (spec_l7Class.j1 k y0 y1 y2) (spec_l7Class.j1 (k + 1) y0 y1 y2))
  | 0 => ⟨fun _ _ r h => by simp [spec_l7Class.l0] at h, fun _ _ _ r h => by simp [spec_l7Class.j1] at h⟩
  | k + 1 => by
    obtain ⟨ih0, ih1⟩ := spec_l7Class.mono_l k
    refine ⟨?_, ?_⟩
    · intro y0 y1
      unfold spec_l7Class.l0
      repeat' first
      | (with_reducible first | exact ih0 _ _ | exact ih1 _ _ _ | exact spec_l2Labels.mono _ _ | exact spec_l7Before.mono _ _ _ | exact LeO.refl _ | exact LeO.none _ | refine LeO.ite ?_ ?_ | refine LeO.bind ?_ (fun _ => ?_))
      | exact ih0 _ _ | exact ih1 _ _ _ | exact spec_l2Labels.mono _ _ | exact spec_l7Before.mono _ _ _ | exact LeO.none _ | refine LeO.ite ?_ ?_ | refine LeO.bind ?_ (fun _ => ?_)
    · intro y0 y1 y2
      unfold spec_l7Class.j1
      repeat' first
      | (with_reducible first | exact ih0 _ _ | exact ih1 _ _ _ | exact spec_l2Labels.mono _ _ | exact spec_l7Before.mono _ _ _ | exact LeO.refl _ | exact LeO.none _ | refine LeO.ite ?_ ?_ | refine LeO.bind ?_ (fun _ => ?_))
      | exact ih0 _ _ | exact ih1 _ _ _ | exact spec_l2Labels.mono _ _ | exact spec_l7Before.mono _ _ _ | exact LeO.none _ | refine LeO.ite ?_ ?_ | refine LeO.bind ?_ (fun _ => ?_)
theorem spec_l7Class.mono : ∀ a0 k, LeO (spec_l7Class.f k a0) (spec_l7Class.f (k + 1) a0) := by
  intro a0 k
  obtain ⟨ih0, ih1⟩ := spec_l7Class.mono_l k
  unfold spec_l7Class.f
  repeat' first
      | (with_reducible first | exact ih0 _ _ | exact ih1 _ _ _ | exact spec_l2Labels.mono _ _ | exact spec_l7Before.mono _ _ _ | exact LeO.refl _ | exact LeO.none _ | refine LeO.ite ?_ ?_ | refine LeO.bind ?_ (fun _ => ?_))
      | exact ih0 _ _ | exact ih1 _ _ _ | exact spec_l2Labels.mono _ _ | exact spec_l7Before.mono _ _ _ | exact LeO.none _ | refine LeO.ite ?_ ?_ | refine LeO.bind ?_ (fun _ => ?_)
theorem spec_l7Class.calls (k : Nat) (A0 : Option Addr) (c0 : Nat) (l0 : List (List Int)) (r : Bool) (w : World) (hr0 : Kd.C (Kd.slice 3 (Kd.int .i64)) w A0 l0.length l0) (hc0 : l0.length ≤ c0) (h : spec_l7Class.f k l0 = some r) :
    Calls Try.prog 83 #[.slice A0 l0.length c0] w fun e w' => e = .returned (.bool r) ∧ Drawn0 w w' := by
  have HR0 := aM hr0
  have HC0 := aM hc0
  clear hr0 hc0
  have H : (spec_l7Class.l0 k l0 0) = some r := h
  clear h
  have H' := aM H
  clear H
  go_enter Try.func83, Try.ntmps83
  go_wp2
  repeat (go_quiet (fail); try go_wp2)
  go_loopg [3] k (fun kq v3 w' => ∃ (x3_1 : Int), v3 = .int .i64 x3_1 ∧ Aside0 (spec_l7Class.l0 kq l0 x3_1 = some r) ∧ Aside0 (kq ≤ k) ∧ Drawn0 w w')
  case atStart => exact ⟨(0), yZ, H', ⟨Nat.le_refl _⟩, yDn⟩
  case round =>
    clear H'
    obtain ⟨x3_1, rfl, HA, HK1, ⟨m1, rfl⟩⟩ := hrel
    cases gk with
    | zero => exact absurd HA.out (by simp [spec_l7Class.l0])
    | succ k1 =>
      have H := HA.out
      clear HA
      simp only [spec_l7Class.l0] at H
      by_cases c2 : x3_1 < (l0.length : Int)
      · rw [if_pos c2] at H
        have c2b0 := decide_eq_true c2
        clear c2
        have HC3 := aM H
        clear H
        go_upto_region 4 with (fail)
        repeat (go_quiet (fail); go_upto_region 4 with (fail))
        go_cut [35] (fun v35 wc => ∃ (kq : Nat) (x35_2 : Bool), v35 = .bool x35_2 ∧ Aside0 (spec_l7Class.j1 kq l0 x3_1 x35_2 = some r) ∧ Aside0 (kq ≤ k1) ∧ Drawn0 w wc)
        case first =>
          have H := HC3.out
          clear HC3
          by_cases c4 : 0 ≤ x3_1
          · rw [if_pos c4] at H
            have c4b0 := decide_eq_true c4
            clear c4
            (first | rw [c4b0] | (simp only [i64_w, i32_w]; rw [c4b0]) | rw [c4b1] | skip)
            by_cases c5 : ((rd_L1 l0 x3_1).length : Int) > 8
            · rw [if_pos c5] at H
              have c5b0 : decide (8 < ((rd_L1 l0 x3_1).length : Int)) = true := decide_eq_true c5
              have c5b1 : decide (8 < (rd_L1 l0 x3_1).length) = true := decide_eq_true (by omega)
              clear c5
              have H' := aM H
              clear H
              have p117 : 0 ≤ (x3_1 : Int) := yA
              have q117 : x3_1 < (l0.length : Int) := yA
              obtain ⟨ad117, A117_0, c117_0, e117, hx117_0, hl117_0, hi117_0⟩ := at_L1 HR0.out x3_1 p117 q117
              cases e117
              have HR117_0 := aM hi117_0
              have HC117_0 := aM hl117_0
              clear hi117_0 hl117_0
              replace p117 := eq_true p117
              replace q117 := eq_true q117
              go_wp2
              repeat (go_quiet (fail); try go_wp2)
              go_meet
              case rel => exact ⟨_, (true), yZ, H', ⟨by have := HK1.out; first | omega | exact Nat.le_refl _⟩, yDn⟩
            · rw [if_neg c5] at H
              have c5b0 : decide (8 < ((rd_L1 l0 x3_1).length : Int)) = false := decide_eq_false c5
              have c5b1 : decide (8 < (rd_L1 l0 x3_1).length) = false := decide_eq_false (by omega)
              clear c5
              by_cases c6 : 0 < (l0.length : Int)
              · rw [if_pos c6] at H
                have c6b0 := decide_eq_true c6
                have c6b1 : decide (0 < l0.length) = true := decide_eq_true (by omega)
                clear c6
                by_cases c7 : ((rd_L1 l0 x3_1).length : Int) = ((rd_L1 l0 0).length : Int)
                · rw [if_pos c7] at H
                  have c7b0 : (((rd_L1 l0 x3_1).length : Int) == ((rd_L1 l0 0).length : Int)) = true := beq_iff_eq.mpr c7
                  have c7b1 : (((rd_L1 l0 x3_1).length : Int) != ((rd_L1 l0 0).length : Int)) = false := bne_eq_false_iff_eq.mpr c7
                  have c7b2 : ((rd_L1 l0 x3_1).length == (rd_L1 l0 0).length) = true := by first | simpa using c7 | (simp at c7 ⊢; omega)
                  clear c7
                  replace H := oB.mp H
                  obtain ⟨t121, A80, H⟩ := H
                  have A8 := aM A80
                  clear A80
                  have H' := aM H
                  clear H
                  have p117 : 0 ≤ (x3_1 : Int) := yA
                  have q117 : x3_1 < (l0.length : Int) := yA
                  obtain ⟨ad117, A117_0, c117_0, e117, hx117_0, hl117_0, hi117_0⟩ := at_L1 HR0.out x3_1 p117 q117
                  cases e117
                  have HR117_0 := aM hi117_0
                  have HC117_0 := aM hl117_0
                  clear hi117_0 hl117_0
                  replace p117 := eq_true p117
                  replace q117 := eq_true q117
                  have p118 : 0 ≤ (x3_1 : Int) := yA
                  have q118 : x3_1 < (l0.length : Int) := yA
                  obtain ⟨ad118, A118_0, c118_0, e118, hx118_0, hl118_0, hi118_0⟩ := at_L1 HR0.out x3_1 p118 q118
                  obtain rfl : ad117 = ad118 := (by injection e118)
                  have HR118_0 := aM hi118_0
                  have HC118_0 := aM hl118_0
                  clear hi118_0 hl118_0
                  replace p118 := eq_true p118
                  replace q118 := eq_true q118
                  have ea_ := Option.some.inj (hx117_0.symm.trans hx118_0)
                  injection ea_ with ea_ en_ ec_
                  subst ea_
                  subst ec_
                  clear en_
                  have p119 : 0 ≤ (0 : Int) := (by omega)
                  have q119 : 0 < (l0.length : Int) := yA
                  obtain ⟨ad119, A119_0, c119_0, e119, hx119_0, hl119_0, hi119_0⟩ := at_L1 HR0.out 0 p119 q119
                  obtain rfl : ad117 = ad119 := (by injection e119)
                  have qi119 : (0 < l0.length) = True := eq_true (by omega)
                  (try rw [show ((0 : Int)).toNat = 0 from rfl] at hx119_0)
                  (try rw [Addr.add_zero'] at hx119_0)
                  have HR119_0 := aM hi119_0
                  have HC119_0 := aM hl119_0
                  clear hi119_0 hl119_0
                  replace p119 := eq_true p119
                  replace q119 := eq_true q119
                  have p120 : 0 ≤ (x3_1 : Int) := yA
                  have q120 : x3_1 < (l0.length : Int) := yA
                  obtain ⟨ad120, A120_0, c120_0, e120, hx120_0, hl120_0, hi120_0⟩ := at_L1 HR0.out x3_1 p120 q120
                  obtain rfl : ad117 = ad120 := (by injection e120)
                  have HR120_0 := aM hi120_0
                  have HC120_0 := aM hl120_0
                  clear hi120_0 hl120_0
                  replace p120 := eq_true p120
                  replace q120 := eq_true q120
                  have ea_ := Option.some.inj (hx117_0.symm.trans hx120_0)
                  injection ea_ with ea_ en_ ec_
                  subst ea_
                  subst ec_
                  clear en_
                  go_wp2_with (first | (go_at_call 95; (with_reducible refine (spec_l2Labels.calls k1 _ _ (rd_L1 l0 x3_1) t121 _ (xC HR120_0.out) HC120_0.out A8.out).mono ?_); rintro e w' ⟨rfl, ⟨nd, rfl⟩⟩; (try exact yDr)))
                  repeat (go_quiet (first | (go_at_call 95; (with_reducible refine (spec_l2Labels.calls k1 _ _ (rd_L1 l0 x3_1) t121 _ (xC HR120_0.out) HC120_0.out A8.out).mono ?_); rintro e w' ⟨rfl, ⟨nd, rfl⟩⟩; (try exact yDr))); try go_wp2_with (first | (go_at_call 95; (with_reducible refine (spec_l2Labels.calls k1 _ _ (rd_L1 l0 x3_1) t121 _ (xC HR120_0.out) HC120_0.out A8.out).mono ?_); rintro e w' ⟨rfl, ⟨nd, rfl⟩⟩; (try exact yDr))))
                  go_meet
                  case rel => exact ⟨_, (!t121), yZ, H', ⟨by have := HK1.out; first | omega | exact Nat.le_refl _⟩, yDn⟩
                · rw [if_neg c7] at H
                  have c7b0 : (((rd_L1 l0 x3_1).length : Int) == ((rd_L1 l0 0).length : Int)) = false := beq_eq_false_iff_ne.mpr c7
                  have c7b1 : (((rd_L1 l0 x3_1).length : Int) != ((rd_L1 l0 0).length : Int)) = true := bne_iff_ne.mpr c7
                  have c7b2 : ((rd_L1 l0 x3_1).length == (rd_L1 l0 0).length) = false := by first | simpa using c7 | (simp at c7 ⊢; omega)
                  have H' := aM H
                  clear H
                  have p117 : 0 ≤ (x3_1 : Int) := yA
                  have q117 : x3_1 < (l0.length : Int) := yA
                  obtain ⟨ad117, A117_0, c117_0, e117, hx117_0, hl117_0, hi117_0⟩ := at_L1 HR0.out x3_1 p117 q117
                  cases e117
                  have HR117_0 := aM hi117_0
                  have HC117_0 := aM hl117_0
                  clear hi117_0 hl117_0
                  replace p117 := eq_true p117
                  replace q117 := eq_true q117
                  have p118 : 0 ≤ (x3_1 : Int) := yA
                  have q118 : x3_1 < (l0.length : Int) := yA
                  obtain ⟨ad118, A118_0, c118_0, e118, hx118_0, hl118_0, hi118_0⟩ := at_L1 HR0.out x3_1 p118 q118
                  obtain rfl : ad117 = ad118 := (by injection e118)
                  have HR118_0 := aM hi118_0
                  have HC118_0 := aM hl118_0
                  clear hi118_0 hl118_0
                  replace p118 := eq_true p118
                  replace q118 := eq_true q118
                  have ea_ := Option.some.inj (hx117_0.symm.trans hx118_0)
                  injection ea_ with ea_ en_ ec_
                  subst ea_
                  subst ec_
                  clear en_
                  have p119 : 0 ≤ (0 : Int) := (by omega)
                  have q119 : 0 < (l0.length : Int) := yA
                  obtain ⟨ad119, A119_0, c119_0, e119, hx119_0, hl119_0, hi119_0⟩ := at_L1 HR0.out 0 p119 q119
                  obtain rfl : ad117 = ad119 := (by injection e119)
                  have qi119 : (0 < l0.length) = True := eq_true (by omega)
                  (try rw [show ((0 : Int)).toNat = 0 from rfl] at hx119_0)
                  (try rw [Addr.add_zero'] at hx119_0)
                  have HR119_0 := aM hi119_0
                  have HC119_0 := aM hl119_0
                  clear hi119_0 hl119_0
                  replace p119 := eq_true p119
                  replace q119 := eq_true q119
                  go_wp2
                  repeat (go_quiet (fail); try go_wp2)
                  go_meet
                  case rel => exact ⟨_, (true), yZ, H', ⟨by have := HK1.out; first | omega | exact Nat.le_refl _⟩, yDn⟩
              · rw [if_neg c6] at H
                exact absurd H (by simp)
          · rw [if_neg c4] at H
            exact absurd H (by simp)
        case rest =>
          clear HC3
          try clear c1
          try clear p1
          try clear q1
          try clear hx1
          try clear qi1
          try clear c2
          try clear c2b0
          try clear p2
          try clear c4
          try clear c4b0
          try clear c5
          try clear c5b0
          try clear c5b1
          try clear c6
          try clear c6b0
          try clear c6b1
          try clear c7
          try clear c7b0
          try clear c7b1
          try clear c7b2
          try clear c8
          try clear hx117_0
          try clear hx118_0
          try clear hx119_0
          try clear hx120_0
          try clear p117
          try clear p118
          try clear p119
          try clear p120
          try clear q117
          try clear q118
          try clear q119
          try clear q120
          obtain ⟨kq, x35_2, rfl, HA, HJ2, ⟨mc2, rfl⟩⟩ := hcut
          cases kq with
          | zero => exact absurd HA.out (by simp [spec_l7Class.j1])
          | succ kj2 =>
            have H := HA.out
            clear HA
            simp only [spec_l7Class.j1] at H
            by_cases c9 : x35_2 = true
            · subst c9
              rw [if_pos rfl] at H
              obtain rfl := Option.some.inj H
              go_wp2
              repeat (go_quiet (fail); try go_wp2)
              go_ret
              exact ⟨yZ, yDn⟩
            · replace c9 := Bool.eq_false_iff.mpr c9
              subst c9
              rw [if_neg (show ¬ (false = true) by decide)] at H
              by_cases c10 : x3_1 > 0
              · rw [if_pos c10] at H
                have c10b0 : decide (0 < x3_1) = true := decide_eq_true c10
                clear c10
                obtain ⟨ji11, hji11⟩ := yJ ((wrap64 (x3_1 - 1)))
                (first | rw [hji11] at H | simp only [hji11] at H)
                have hji11w : (IntKind.i64.wrap (x3_1 - 1)) = ji11 := (i64_w _).trans hji11
                by_cases c12 : 0 ≤ (ji11)
                · rw [if_pos c12] at H
                  have c12b0 := decide_eq_true c12
                  clear c12
                  by_cases c13 : (ji11) < (l0.length : Int)
                  · rw [if_pos c13] at H
                    have c13b0 := decide_eq_true c13
                    clear c13
                    by_cases c14 : 0 ≤ x3_1
                    · rw [if_pos c14] at H
                      have c14b0 := decide_eq_true c14
                      clear c14
                      by_cases c15 : x3_1 < (l0.length : Int)
                      · rw [if_pos c15] at H
                        have c15b0 := decide_eq_true c15
                        clear c15
                        replace H := oB.mp H
                        obtain ⟨t124, A160, H⟩ := H
                        have A16 := aM A160
                        clear A160
                        by_cases c17 : t124 = true
                        · subst c17
                          rw [if_pos rfl] at H
                          have H' := aM H
                          clear H
                          have p122 : 0 ≤ ((ji11) : Int) := yA
                          have q122 : (ji11) < (l0.length : Int) := yA
                          obtain ⟨ad122, A122_0, c122_0, e122, hx122_0, hl122_0, hi122_0⟩ := at_L1 HR0.out (ji11) p122 q122
                          cases e122
                          have HR122_0 := aM hi122_0
                          have HC122_0 := aM hl122_0
                          clear hi122_0 hl122_0
                          replace p122 := eq_true p122
                          replace q122 := eq_true q122
                          have p123 : 0 ≤ (x3_1 : Int) := yA
                          have q123 : x3_1 < (l0.length : Int) := yA
                          obtain ⟨ad123, A123_0, c123_0, e123, hx123_0, hl123_0, hi123_0⟩ := at_L1 HR0.out x3_1 p123 q123
                          obtain rfl : ad122 = ad123 := (by injection e123)
                          have HR123_0 := aM hi123_0
                          have HC123_0 := aM hl123_0
                          clear hi123_0 hl123_0
                          replace p123 := eq_true p123
                          replace q123 := eq_true q123
                          go_wp2_with (first | (go_at_call 104; (with_reducible refine (spec_l7Before.calls kj2 _ _ (rd_L1 l0 (ji11)) _ _ (rd_L1 l0 x3_1) true _ (xC HR122_0.out) HC122_0.out (xC HR123_0.out) HC123_0.out A16.out).mono ?_); rintro e w' ⟨rfl, ⟨nd, rfl⟩⟩; (try exact yDr)))
                          repeat (go_quiet (first | (go_at_call 104; (with_reducible refine (spec_l7Before.calls kj2 _ _ (rd_L1 l0 (ji11)) _ _ (rd_L1 l0 x3_1) true _ (xC HR122_0.out) HC122_0.out (xC HR123_0.out) HC123_0.out A16.out).mono ?_); rintro e w' ⟨rfl, ⟨nd, rfl⟩⟩; (try exact yDr))); try go_wp2_with (first | (go_at_call 104; (with_reducible refine (spec_l7Before.calls kj2 _ _ (rd_L1 l0 (ji11)) _ _ (rd_L1 l0 x3_1) true _ (xC HR122_0.out) HC122_0.out (xC HR123_0.out) HC123_0.out A16.out).mono ?_); rintro e w' ⟨rfl, ⟨nd, rfl⟩⟩; (try exact yDr))))
                          go_roundg kj2
                          case measure => have := HK1.out; have := HJ2.out; omega
                          case rel => exact ⟨(wrap64 (x3_1 + 1)), yZ, H', ⟨by have := HK1.out; have := HJ2.out; omega⟩, yDn⟩
                        · replace c17 := Bool.eq_false_iff.mpr c17
                          subst c17
                          rw [if_neg (show ¬ (false = true) by decide)] at H
                          obtain rfl := Option.some.inj H
                          have p122 : 0 ≤ ((ji11) : Int) := yA
                          have q122 : (ji11) < (l0.length : Int) := yA
                          obtain ⟨ad122, A122_0, c122_0, e122, hx122_0, hl122_0, hi122_0⟩ := at_L1 HR0.out (ji11) p122 q122
                          cases e122
                          have HR122_0 := aM hi122_0
                          have HC122_0 := aM hl122_0
                          clear hi122_0 hl122_0
                          replace p122 := eq_true p122
                          replace q122 := eq_true q122
                          have p123 : 0 ≤ (x3_1 : Int) := yA
                          have q123 : x3_1 < (l0.length : Int) := yA
                          obtain ⟨ad123, A123_0, c123_0, e123, hx123_0, hl123_0, hi123_0⟩ := at_L1 HR0.out x3_1 p123 q123
                          obtain rfl : ad122 = ad123 := (by injection e123)
                          have HR123_0 := aM hi123_0
                          have HC123_0 := aM hl123_0
                          clear hi123_0 hl123_0
                          replace p123 := eq_true p123
                          replace q123 := eq_true q123
                          go_wp2_with (first | (go_at_call 104; (with_reducible refine (spec_l7Before.calls kj2 _ _ (rd_L1 l0 (ji11)) _ _ (rd_L1 l0 x3_1) false _ (xC HR122_0.out) HC122_0.out (xC HR123_0.out) HC123_0.out A16.out).mono ?_); rintro e w' ⟨rfl, ⟨nd, rfl⟩⟩; (try exact yDr)))
                          repeat (go_quiet (first | (go_at_call 104; (with_reducible refine (spec_l7Before.calls kj2 _ _ (rd_L1 l0 (ji11)) _ _ (rd_L1 l0 x3_1) false _ (xC HR122_0.out) HC122_0.out (xC HR123_0.out) HC123_0.out A16.out).mono ?_); rintro e w' ⟨rfl, ⟨nd, rfl⟩⟩; (try exact yDr))); try go_wp2_with (first | (go_at_call 104; (with_reducible refine (spec_l7Before.calls kj2 _ _ (rd_L1 l0 (ji11)) _ _ (rd_L1 l0 x3_1) false _ (xC HR122_0.out) HC122_0.out (xC HR123_0.out) HC123_0.out A16.out).mono ?_); rintro e w' ⟨rfl, ⟨nd, rfl⟩⟩; (try exact yDr))))
                          go_ret
                          exact ⟨by first | rfl | (simp; done) | (simp only [← hji11] <;> (first | rfl | simp)) | (simp [*]; done), yDn⟩
                      · rw [if_neg c15] at H
                        exact absurd H (by simp)
                    · rw [if_neg c14] at H
                      exact absurd H (by simp)
                  · rw [if_neg c13] at H
                    exact absurd H (by simp)
                · rw [if_neg c12] at H
                  exact absurd H (by simp)
              · rw [if_neg c10] at H
                have c10b0 : decide (0 < x3_1) = false := decide_eq_false c10
                clear c10
                have H' := aM H
                clear H
                go_wp2
                repeat (go_quiet (fail); try go_wp2)
                go_roundg kj2
                case measure => have := HK1.out; have := HJ2.out; omega
                case rel => exact ⟨(wrap64 (x3_1 + 1)), yZ, H', ⟨by have := HK1.out; have := HJ2.out; omega⟩, yDn⟩
      · rw [if_neg c2] at H
        have c2b0 := decide_eq_false c2
        clear c2
        replace H := oB.mp H
        obtain ⟨t116, A180, H⟩ := H
        have A18 := aM A180
        clear A180
        obtain rfl := Option.some.inj H
        go_wp2_with (first | (go_at_call 58; (with_reducible refine (spec_l1In.calls (l0.length : Int) 1 256 t116 _ A18.out).mono ?_); rintro e w' ⟨rfl, ⟨nd, rfl⟩⟩; (try exact yDr)))
        repeat (go_quiet (first | (go_at_call 58; (with_reducible refine (spec_l1In.calls (l0.length : Int) 1 256 t116 _ A18.out).mono ?_); rintro e w' ⟨rfl, ⟨nd, rfl⟩⟩; (try exact yDr))); try go_wp2_with (first | (go_at_call 58; (with_reducible refine (spec_l1In.calls (l0.length : Int) 1 256 t116 _ A18.out).mono ?_); rintro e w' ⟨rfl, ⟨nd, rfl⟩⟩; (try exact yDr))))
        go_ret
        exact ⟨yZ, yDn⟩

/-! ### spec_l1Rising: function 84 -/
def spec_l1Rising.l0 : Nat → List Int → Int → Int → Int → Option (Bool)
  | 0, _, _, _, _ => none
  | k + 1, x0, x1, x2, x7 => if x7 < (x0.length : Int) then (if 0 ≤ x7 then ((spec_l1In.f (rd x0 x7) x1 x2).bind fun t126 => (if t126 = true then (if x7 > 0 then (if 0 ≤ (wrap64 (x7 - 1)) then (if (wrap64 (x7 - 1)) < (x0.length : Int) then (if (rd x0 (wrap64 (x7 - 1))) ≥ (rd x0 x7) then (some false) else (spec_l1Rising.l0 k x0 x1 x2 (wrap64 (x7 + 1)))) else (none)) else (none)) else (spec_l1Rising.l0 k x0 x1 x2 (wrap64 (x7 + 1)))) else (some false))) else (none)) else (some true)
def spec_l1Rising.f (k : Nat) (l0 : List Int) (a1 : Int) (a2 : Int) : Option (Bool) := spec_l1Rising.l0 k l0 a1 a2 0
theorem spec_l1Rising.mono_l : ∀ k, (∀ y0 y1 y2 y3, LeO (spec_l1Rising.l0 k y0 y1 y2 y3) (spec_l1Rising.l0 (k + 1) y0 y1 y2 y3))
  | 0 => fun _ _ _ _ r h => by simp [spec_l1Rising.l0] at h
  | k + 1 => by
    have ih0 := spec_l1Rising.mono_l k
    · intro y0 y1 y2 y3
      unfold spec_l1Rising.l0
      repeat' first
      | (with_reducible first | exact ih0 _ _ _ _ | exact LeO.refl _ | exact LeO.none _ | refine LeO.ite ?_ ?_ | refine LeO.bind ?_ (fun _ => ?_))
      | exact ih0 _ _ _ _ | exact LeO.none _ | refine LeO.ite ?_ ?_ | refine LeO.bind ?_ (fun _ => ?_)
theorem spec_l1Rising.mono : ∀ a0 a1 a2 k, LeO (spec_l1Rising.f k a0 a1 a2) (spec_l1Rising.f (k + 1) a0 a1 a2) := by
  intro a0 a1 a2 k
  have ih0 := spec_l1Rising.mono_l k
  unfold spec_l1Rising.f
  repeat' first
      | (with_reducible first | exact ih0 _ _ _ _ | exact LeO.refl _ | exact LeO.none _ | refine LeO.ite ?_ ?_ | refine LeO.bind ?_ (fun _ => ?_))
      | exact ih0 _ _ _ _ | exact LeO.none _ | refine LeO.ite ?_ ?_ | refine LeO.bind ?_ (fun _ => ?_)
theorem spec_l1Rising.calls (k : Nat) (A0 : Option Addr) (c0 : Nat) (l0 : List Int) (a1 : Int) (a2 : Int) (r : Bool) (w : World) (hr0 : Kd.C (Kd.int .i64) w A0 l0.length l0) (hc0 : l0.length ≤ c0) (h : spec_l1Rising.f k l0 a1 a2 = some r) :
    Calls Try.prog 84 #[.slice A0 l0.length c0, .int .i64 a1, .int .i64 a2] w fun e w' => e = .returned (.bool r) ∧ Drawn0 w w' := by
  have HR0 := aM hr0
  have HC0 := aM hc0
  clear hr0 hc0
  have H : (spec_l1Rising.l0 k l0 a1 a2 0) = some r := h
  clear h
  have H' := aM H
  clear H
  go_enter Try.func84, Try.ntmps84
  go_wp2
  repeat (go_quiet (fail); try go_wp2)
  go_loopg [7] k (fun kq v7 w' => ∃ (x7_1 : Int), v7 = .int .i64 x7_1 ∧ Aside0 (spec_l1Rising.l0 kq l0 a1 a2 x7_1 = some r) ∧ Aside0 (kq ≤ k) ∧ Drawn0 w w')
  case atStart => exact ⟨(0), yZ, H', ⟨Nat.le_refl _⟩, yDn⟩
  case round =>
    clear H'
    try clear p2
    obtain ⟨x7_1, rfl, HA, HK1, ⟨m1, rfl⟩⟩ := hrel
    cases gk with
    | zero => exact absurd HA.out (by simp [spec_l1Rising.l0])
    | succ k1 =>
      have H := HA.out
      clear HA
      simp only [spec_l1Rising.l0] at H
      by_cases c4 : x7_1 < (l0.length : Int)
      · rw [if_pos c4] at H
        have c4b0 := decide_eq_true c4
        clear c4
        by_cases c5 : 0 ≤ x7_1
        · rw [if_pos c5] at H
          have c5b0 := decide_eq_true c5
          clear c5
          replace H := oB.mp H
          obtain ⟨t126, A60, H⟩ := H
          have A6 := aM A60
          clear A60
          by_cases c7 : t126 = true
          · subst c7
            rw [if_pos rfl] at H
            by_cases c8 : x7_1 > 0
            · rw [if_pos c8] at H
              have c8b0 : decide (0 < x7_1) = true := decide_eq_true c8
              clear c8
              obtain ⟨ji9, hji9⟩ := yJ ((wrap64 (x7_1 - 1)))
              (first | rw [hji9] at H | simp only [hji9] at H)
              (try rw [hji9] at A6)
              have hji9w : (IntKind.i64.wrap (x7_1 - 1)) = ji9 := (i64_w _).trans hji9
              by_cases c10 : 0 ≤ (ji9)
              · rw [if_pos c10] at H
                have c10b0 := decide_eq_true c10
                clear c10
                by_cases c11 : (ji9) < (l0.length : Int)
                · rw [if_pos c11] at H
                  have c11b0 := decide_eq_true c11
                  clear c11
                  by_cases c12 : (rd l0 (ji9)) ≥ (rd l0 x7_1)
                  · rw [if_pos c12] at H
                    have c12b0 : decide ((rd l0 x7_1) ≤ (rd l0 (ji9))) = true := decide_eq_true c12
                    clear c12
                    obtain rfl := Option.some.inj H
                    obtain ⟨ad125, e125, hx125_0, p125, q125⟩ := yi HR0.out x7_1
                    cases e125
                    go_wp2_with (first | (go_at_call 58; (with_reducible refine (spec_l1In.calls (rd l0 x7_1) a1 a2 true _ A6.out).mono ?_); rintro e w' ⟨rfl, ⟨nd, rfl⟩⟩; (try exact yDr); have p127 : 0 ≤ ((ji9) : Int) := yA; have q127 : (ji9) < (l0.length : Int) := yA; obtain ⟨ad127, e127, hx127_0⟩ := Kd.at_int HR0.out (ji9) p127 q127; obtain rfl : ad125 = ad127 := (by injection e127); replace p127 := eq_true p127; replace q127 := eq_true q127; have p128 : 0 ≤ (x7_1 : Int) := yA; have q128 : x7_1 < (l0.length : Int) := yA; obtain ⟨ad128, e128, hx128_0⟩ := Kd.at_int HR0.out x7_1 p128 q128; obtain rfl : ad125 = ad128 := (by injection e128); replace p128 := eq_true p128; replace q128 := eq_true q128))
                    repeat (go_quiet (first | (go_at_call 58; (with_reducible refine (spec_l1In.calls (rd l0 x7_1) a1 a2 true _ A6.out).mono ?_); rintro e w' ⟨rfl, ⟨nd, rfl⟩⟩; (try exact yDr); have p127 : 0 ≤ ((ji9) : Int) := yA; have q127 : (ji9) < (l0.length : Int) := yA; obtain ⟨ad127, e127, hx127_0⟩ := Kd.at_int HR0.out (ji9) p127 q127; obtain rfl : ad125 = ad127 := (by injection e127); replace p127 := eq_true p127; replace q127 := eq_true q127; have p128 : 0 ≤ (x7_1 : Int) := yA; have q128 : x7_1 < (l0.length : Int) := yA; obtain ⟨ad128, e128, hx128_0⟩ := Kd.at_int HR0.out x7_1 p128 q128; obtain rfl : ad125 = ad128 := (by injection e128); replace p128 := eq_true p128; replace q128 := eq_true q128)); try go_wp2_with (first | (go_at_call 58; (with_reducible refine (spec_l1In.calls (rd l0 x7_1) a1 a2 true _ A6.out).mono ?_); rintro e w' ⟨rfl, ⟨nd, rfl⟩⟩; (try exact yDr); have p127 : 0 ≤ ((ji9) : Int) := yA; have q127 : (ji9) < (l0.length : Int) := yA; obtain ⟨ad127, e127, hx127_0⟩ := Kd.at_int HR0.out (ji9) p127 q127; obtain rfl : ad125 = ad127 := (by injection e127); replace p127 := eq_true p127; replace q127 := eq_true q127; have p128 : 0 ≤ (x7_1 : Int) := yA; have q128 : x7_1 < (l0.length : Int) := yA; obtain ⟨ad128, e128, hx128_0⟩ := Kd.at_int HR0.out x7_1 p128 q128; obtain rfl : ad125 = ad128 := (by injection e128); replace p128 := eq_true p128; replace q128 := eq_true q128)))
                    go_ret
                    exact ⟨by first | rfl | (simp; done) | (simp only [← hji9] <;> (first | rfl | simp)) | (simp [*]; done), yDn⟩
                  · rw [if_neg c12] at H
                    have c12b0 : decide ((rd l0 x7_1) ≤ (rd l0 (ji9))) = false := decide_eq_false c12
                    clear c12
                    have H' := aM H
                    clear H
                    obtain ⟨ad125, e125, hx125_0, p125, q125⟩ := yi HR0.out x7_1
                    cases e125
                    go_wp2_with (first | (go_at_call 58; (with_reducible refine (spec_l1In.calls (rd l0 x7_1) a1 a2 true _ A6.out).mono ?_); rintro e w' ⟨rfl, ⟨nd, rfl⟩⟩; (try exact yDr); have p127 : 0 ≤ ((ji9) : Int) := yA; have q127 : (ji9) < (l0.length : Int) := yA; obtain ⟨ad127, e127, hx127_0⟩ := Kd.at_int HR0.out (ji9) p127 q127; obtain rfl : ad125 = ad127 := (by injection e127); replace p127 := eq_true p127; replace q127 := eq_true q127; have p128 : 0 ≤ (x7_1 : Int) := yA; have q128 : x7_1 < (l0.length : Int) := yA; obtain ⟨ad128, e128, hx128_0⟩ := Kd.at_int HR0.out x7_1 p128 q128; obtain rfl : ad125 = ad128 := (by injection e128); replace p128 := eq_true p128; replace q128 := eq_true q128))
                    repeat (go_quiet (first | (go_at_call 58; (with_reducible refine (spec_l1In.calls (rd l0 x7_1) a1 a2 true _ A6.out).mono ?_); rintro e w' ⟨rfl, ⟨nd, rfl⟩⟩; (try exact yDr); have p127 : 0 ≤ ((ji9) : Int) := yA; have q127 : (ji9) < (l0.length : Int) := yA; obtain ⟨ad127, e127, hx127_0⟩ := Kd.at_int HR0.out (ji9) p127 q127; obtain rfl : ad125 = ad127 := (by injection e127); replace p127 := eq_true p127; replace q127 := eq_true q127; have p128 : 0 ≤ (x7_1 : Int) := yA; have q128 : x7_1 < (l0.length : Int) := yA; obtain ⟨ad128, e128, hx128_0⟩ := Kd.at_int HR0.out x7_1 p128 q128; obtain rfl : ad125 = ad128 := (by injection e128); replace p128 := eq_true p128; replace q128 := eq_true q128)); try go_wp2_with (first | (go_at_call 58; (with_reducible refine (spec_l1In.calls (rd l0 x7_1) a1 a2 true _ A6.out).mono ?_); rintro e w' ⟨rfl, ⟨nd, rfl⟩⟩; (try exact yDr); have p127 : 0 ≤ ((ji9) : Int) := yA; have q127 : (ji9) < (l0.length : Int) := yA; obtain ⟨ad127, e127, hx127_0⟩ := Kd.at_int HR0.out (ji9) p127 q127; obtain rfl : ad125 = ad127 := (by injection e127); replace p127 := eq_true p127; replace q127 := eq_true q127; have p128 : 0 ≤ (x7_1 : Int) := yA; have q128 : x7_1 < (l0.length : Int) := yA; obtain ⟨ad128, e128, hx128_0⟩ := Kd.at_int HR0.out x7_1 p128 q128; obtain rfl : ad125 = ad128 := (by injection e128); replace p128 := eq_true p128; replace q128 := eq_true q128)))
                    go_roundg k1
                    case measure => have := HK1.out; omega
                    case rel => exact ⟨(wrap64 (x7_1 + 1)), yZ, H', ⟨by have := HK1.out; omega⟩, yDn⟩
                · rw [if_neg c11] at H
                  exact absurd H (by simp)
              · rw [if_neg c10] at H
                exact absurd H (by simp)
            · rw [if_neg c8] at H
              have c8b0 : decide (0 < x7_1) = false := decide_eq_false c8
              clear c8
              have H' := aM H
              clear H
              obtain ⟨ad125, e125, hx125_0, p125, q125⟩ := yi HR0.out x7_1
              cases e125
              go_wp2_with (first | (go_at_call 58; (with_reducible refine (spec_l1In.calls (rd l0 x7_1) a1 a2 true _ A6.out).mono ?_); rintro e w' ⟨rfl, ⟨nd, rfl⟩⟩; (try exact yDr)))
              repeat (go_quiet (first | (go_at_call 58; (with_reducible refine (spec_l1In.calls (rd l0 x7_1) a1 a2 true _ A6.out).mono ?_); rintro e w' ⟨rfl, ⟨nd, rfl⟩⟩; (try exact yDr))); try go_wp2_with (first | (go_at_call 58; (with_reducible refine (spec_l1In.calls (rd l0 x7_1) a1 a2 true _ A6.out).mono ?_); rintro e w' ⟨rfl, ⟨nd, rfl⟩⟩; (try exact yDr))))
              go_roundg k1
              case measure => have := HK1.out; omega
              case rel => exact ⟨(wrap64 (x7_1 + 1)), yZ, H', ⟨by have := HK1.out; omega⟩, yDn⟩
          · replace c7 := Bool.eq_false_iff.mpr c7
            subst c7
            rw [if_neg (show ¬ (false = true) by decide)] at H
            obtain rfl := Option.some.inj H
            obtain ⟨ad125, e125, hx125_0, p125, q125⟩ := yi HR0.out x7_1
            cases e125
            go_wp2_with (first | (go_at_call 58; (with_reducible refine (spec_l1In.calls (rd l0 x7_1) a1 a2 false _ A6.out).mono ?_); rintro e w' ⟨rfl, ⟨nd, rfl⟩⟩; (try exact yDr)))
            repeat (go_quiet (first | (go_at_call 58; (with_reducible refine (spec_l1In.calls (rd l0 x7_1) a1 a2 false _ A6.out).mono ?_); rintro e w' ⟨rfl, ⟨nd, rfl⟩⟩; (try exact yDr))); try go_wp2_with (first | (go_at_call 58; (with_reducible refine (spec_l1In.calls (rd l0 x7_1) a1 a2 false _ A6.out).mono ?_); rintro e w' ⟨rfl, ⟨nd, rfl⟩⟩; (try exact yDr))))
            go_ret
            exact ⟨yZ, yDn⟩
        · rw [if_neg c5] at H
          exact absurd H (by simp)
      · rw [if_neg c4] at H
        have c4b0 := decide_eq_false c4
        clear c4
        obtain rfl := Option.some.inj H
        go_wp2
        repeat (go_quiet (fail); try go_wp2)
        go_ret
        exact ⟨yZ, yDn⟩

/-! ### spec_l7Set: function 43 -/
def spec_l7Set.f (k : Nat) (l0 : List (List Int)) (l1 : List Int) : Option (Bool) := (spec_l7Class.f k l0).bind fun t129 => (if t129 = true then (if 0 < (l0.length : Int) then ((spec_l1Rising.f k l1 0 (wrap64 (((rd_L1 l0 0).length : Int) - 1))).bind fun t131 => (some t131)) else (none)) else (some false))
theorem spec_l7Set.mono : ∀ a0 a1 k, LeO (spec_l7Set.f k a0 a1) (spec_l7Set.f (k + 1) a0 a1) := by
  intro a0 a1 k
  unfold spec_l7Set.f
  repeat' first
      | (with_reducible first | exact spec_l1Rising.mono _ _ _ _ | exact spec_l7Class.mono _ _ | exact LeO.refl _ | exact LeO.none _ | refine LeO.ite ?_ ?_ | refine LeO.bind ?_ (fun _ => ?_))
      | exact spec_l1Rising.mono _ _ _ _ | exact spec_l7Class.mono _ _ | exact LeO.none _ | refine LeO.ite ?_ ?_ | refine LeO.bind ?_ (fun _ => ?_)
theorem spec_l7Set.calls (k : Nat) (A0 : Option Addr) (c0 : Nat) (l0 : List (List Int)) (A1 : Option Addr) (c1 : Nat) (l1 : List Int) (r : Bool) (w : World) (hr0 : Kd.C (Kd.slice 3 (Kd.int .i64)) w A0 l0.length l0) (hc0 : l0.length ≤ c0) (hr1 : Kd.C (Kd.int .i64) w A1 l1.length l1) (hc1 : l1.length ≤ c1) (h : spec_l7Set.f k l0 l1 = some r) :
    Calls Try.prog 43 #[.slice A0 l0.length c0, .slice A1 l1.length c1] w fun e w' => e = .returned (.bool r) ∧ Drawn0 w w' := by
  have HR0 := aM hr0
  have HC0 := aM hc0
  clear hr0 hc0
  have HR1 := aM hr1
  have HC1 := aM hc1
  clear hr1 hc1
  have H : ((spec_l7Class.f k l0).bind fun t129 => (if t129 = true then (if 0 < (l0.length : Int) then ((spec_l1Rising.f k l1 0 (wrap64 (((rd_L1 l0 0).length : Int) - 1))).bind fun t131 => (some t131)) else (none)) else (some false))) = some r := h
  clear h
  replace H := oB.mp H
  obtain ⟨t129, A30, H⟩ := H
  have A3 := aM A30
  clear A30
  by_cases c4 : t129 = true
  · subst c4
    rw [if_pos rfl] at H
    by_cases c5 : 0 < (l0.length : Int)
    · rw [if_pos c5] at H
      have c5b0 := decide_eq_true c5
      have c5b1 : decide (0 < l0.length) = true := decide_eq_true (by omega)
      clear c5
      replace H := oB.mp H
      obtain ⟨t131, A60, H⟩ := H
      have A6 := aM A60
      clear A60
      obtain rfl := Option.some.inj H
      go_enter Try.func43, Try.ntmps43
      go_wp2_with (first | (refine yL 6 Try.func83 #[.slice A0 l0.length c0] ?_; (with_reducible refine (spec_l7Class.calls k _ _ l0 true _ (xC HR0.out) HC0.out A3.out).mono ?_); rintro e w' ⟨rfl, ⟨nd, rfl⟩⟩; refine ⟨_, rfl, ?_⟩; have p130 : 0 ≤ (0 : Int) := (by omega); have q130 : 0 < (l0.length : Int) := yA; obtain ⟨ad130, A130_0, c130_0, e130, hx130_0, hl130_0, hi130_0⟩ := at_L1 HR0.out 0 p130 q130; cases e130; have qi130 : (0 < l0.length) = True := eq_true (by omega); (try rw [show ((0 : Int)).toNat = 0 from rfl] at hx130_0); (try rw [Addr.add_zero'] at hx130_0); have HR130_0 := aM hi130_0; have HC130_0 := aM hl130_0; clear hi130_0 hl130_0; replace p130 := eq_true p130; replace q130 := eq_true q130) | (go_at_call 84; (with_reducible refine (spec_l1Rising.calls k _ _ l1 0 (wrap64 (((rd_L1 l0 0).length : Int) - 1)) t131 _ (xC HR1.out) HC1.out A6.out).mono ?_); rintro e w' ⟨rfl, ⟨nd, rfl⟩⟩))
      go_ret
      exact ⟨yZ, yDn⟩
    · rw [if_neg c5] at H
      exact absurd H (by simp)
  · replace c4 := Bool.eq_false_iff.mpr c4
    subst c4
    rw [if_neg (show ¬ (false = true) by decide)] at H
    obtain rfl := Option.some.inj H
    go_enter Try.func43, Try.ntmps43
    go_wp2_with (first | (refine yL 6 Try.func83 #[.slice A0 l0.length c0] ?_; (with_reducible refine (spec_l7Class.calls k _ _ l0 false _ (xC HR0.out) HC0.out A3.out).mono ?_); rintro e w' ⟨rfl, ⟨nd, rfl⟩⟩; refine ⟨_, rfl, ?_⟩))
    go_ret
    exact ⟨yZ, yDn⟩

/-! ### spec_l7At: function 105 -/
def spec_l7At.l0 : Nat → List Int → List Int → List Int → Int → Option (List Int)
  | 0, _, _, _, _ => none
  | k + 1, x0, x1, x5, x6 => if x6 < (x1.length : Int) then (if 0 ≤ x6 then (if 0 ≤ (rd x1 x6) then (if (rd x1 x6) < (x0.length : Int) then (if x5.length < 17592186044416 then (spec_l7At.l0 k x0 x1 (x5 ++ [rd x0 (rd x1 x6)]) (wrap64 (x6 + 1))) else (none)) else (none)) else (none)) else (none)) else (some x5)
def spec_l7At.f (k : Nat) (l0 : List Int) (l1 : List Int) : Option (List Int) := spec_l7At.l0 k l0 l1 (([] : List Int)) 0
theorem spec_l7At.mono_l : ∀ k, (∀ y0 y1 y2 y3, LeO (spec_l7At.l0 k y0 y1 y2 y3) (spec_l7At.l0 (k + 1) y0 y1 y2 y3))
  | 0 => fun _ _ _ _ r h => by simp [spec_l7At.l0] at h
  | k + 1 => by
    have ih0 := spec_l7At.mono_l k
    · intro y0 y1 y2 y3
      unfold spec_l7At.l0
      repeat' first
      | (with_reducible first | exact ih0 _ _ _ _ | exact LeO.refl _ | exact LeO.none _ | refine LeO.ite ?_ ?_ | refine LeO.bind ?_ (fun _ => ?_))
      | exact ih0 _ _ _ _ | exact LeO.none _ | refine LeO.ite ?_ ?_ | refine LeO.bind ?_ (fun _ => ?_)
theorem spec_l7At.mono : ∀ a0 a1 k, LeO (spec_l7At.f k a0 a1) (spec_l7At.f (k + 1) a0 a1) := by
  intro a0 a1 k
  have ih0 := spec_l7At.mono_l k
  unfold spec_l7At.f
  repeat' first
      | (with_reducible first | exact ih0 _ _ _ _ | exact LeO.refl _ | exact LeO.none _ | refine LeO.ite ?_ ?_ | refine LeO.bind ?_ (fun _ => ?_))
      | exact ih0 _ _ _ _ | exact LeO.none _ | refine LeO.ite ?_ ?_ | refine LeO.bind ?_ (fun _ => ?_)
theorem spec_l7At.calls (k : Nat) (A0 : Option Addr) (c0 : Nat) (l0 : List Int) (A1 : Option Addr) (c1 : Nat) (l1 : List Int) (r : List Int) (w : World) (hr0 : Kd.C (Kd.int .i64) w A0 l0.length l0) (hc0 : l0.length ≤ c0) (hr1 : Kd.C (Kd.int .i64) w A1 l1.length l1) (hc1 : l1.length ≤ c1) (h : spec_l7At.f k l0 l1 = some r) :
    Calls Try.prog 105 #[.slice A0 l0.length c0, .slice A1 l1.length c1] w fun e w' => ∃ v0_ : Value, e = .returned (v0_) ∧ Kd.R (Kd.int .i64) 3 w' w.heap.size (fun _ => True) v0_ r ∧ Below w.heap.size w w' := by
  have HR0 := aM hr0
  have HC0 := aM hc0
  clear hr0 hc0
  have HR1 := aM hr1
  have HC1 := aM hc1
  clear hr1 hc1
  have HB := aM (Below.refl w.heap.size w)
  have H : (spec_l7At.l0 k l0 l1 (([] : List Int)) 0) = some r := h
  clear h
  obtain ⟨y132, hy132⟩ := yE (([] : List Int) : List Int)
  replace H : (spec_l7At.l0 k l0 l1 y132 0) = some r := yI hy132 H
  have Ny132 := aM hy132
  clear hy132
  have H' := aM H
  clear H
  go_enter Try.func105, Try.ntmps105
  go_wp2_with (first | ((with_reducible refine gate_dst (N := 7) rfl ?_); refine Kd.R_lit (Kd.int .i64) _ 3 ?hg (N := 7) ?hd (xs := ([] : List Int)) (inner := []) (ok := fun _ => True) (okp := fun _ => True) ?hr ?hp (fun _ hk => hk) trivial (Below.refl _ _) (Nat.le_refl _) (by simp) ?_; (case hd => rfl); (case hg => rfl); (case hr => first | (go_simp; done) | (go_simp; rfl)); (case hp => exact (Reps.none _ _)); intro v133 w3 ho4 hb hg_ hnew_; clear hg_ hnew_; (first | rw [← Ny132.out] at ho4 | (simp only [Int.reduceToNat] at ho4; rw [← Ny132.out] at ho4)); have HO134 := aM (Kd.R_lower ho4 (below_size (xH HB.out))); replace HB := yS0 HB hb; clear hb ho4))
  go_loopg [5, 6] k (fun kq v5 v6 w' => ∃ (x5_1 : List Int) (x6_1 : Int), v6 = .int .i64 x6_1 ∧ Aside0 (spec_l7At.l0 kq l0 l1 x5_1 x6_1 = some r) ∧ Aside0 (kq ≤ k) ∧ Aside0 (Kd.R (Kd.int .i64) 3 w' w.heap.size (fun _ => True) v5 x5_1) ∧ Aside0 (Below w.heap.size w w'))
  case atStart => exact ⟨(y132), (0), yZ, H', ⟨Nat.le_refl _⟩, ⟨xR HO134.out⟩, ⟨xH HB.out⟩⟩
  case round =>
    clear H'
    try clear c1
    try clear p2
    obtain ⟨x5_1, x6_1, rfl, HA, HK1, HO_5, HB⟩ := hrel
    cases gk with
    | zero => exact absurd HA.out (by simp [spec_l7At.l0])
    | succ k1 =>
      have H := HA.out
      clear HA
      simp only [spec_l7At.l0] at H
      by_cases c5 : x6_1 < (l1.length : Int)
      · rw [if_pos c5] at H
        have c5b0 := decide_eq_true c5
        clear c5
        by_cases c6 : 0 ≤ x6_1
        · rw [if_pos c6] at H
          have c6b0 := decide_eq_true c6
          clear c6
          by_cases c7 : 0 ≤ (rd l1 x6_1)
          · rw [if_pos c7] at H
            have c7b0 := decide_eq_true c7
            clear c7
            by_cases c8 : (rd l1 x6_1) < (l0.length : Int)
            · rw [if_pos c8] at H
              have c8b0 := decide_eq_true c8
              clear c8
              by_cases c9 : x5_1.length < 17592186044416
              · rw [if_pos c9] at H
                have LMc9 := aM c9
                clear c9
                obtain ⟨y137, hy137⟩ := yE (x5_1 ++ [rd l0 (rd l1 x6_1)] : List Int)
                replace H : (spec_l7At.l0 k1 l0 l1 y137 (wrap64 (x6_1 + 1))) = some r := yI hy137 H
                have Ny137 := aM hy137
                clear hy137
                have H' := aM H
                clear H
                obtain ⟨ad135, e135, hx135_0, p135, q135⟩ := yi HR1.out x6_1
                cases e135
                replace hx135_0 := yc HB hx135_0
                obtain ⟨ad136, e136, hx136_0, p136, q136⟩ := yi HR0.out (rd l1 x6_1)
                cases e136
                replace hx136_0 := yc HB hx136_0
                go_wp2_with (first | ((with_reducible refine gate_builtin (b := .append) (xs := #[.tmp 14, .tmp 22]) rfl ?_); at_builtin; refine Kd.R_append (Kd.int .i64) (w0 := w) w.heap.size rfl (.tmp 14) (.tmp 22) 22 3 (.int .i64 0) 8 rfl Try.underlying22 info3 rfl (by decide) (by omega) u5 x5_1 (rd l0 (rd l1 x6_1)) [.int .i64 (rd l0 (rd l1 x6_1))] (fun _ => True) (fun _ => False) rfl rfl ?aP (fun _ hk => hk.elim) ?aF ?aO ?aB ?aS ?aL ?_; (case aP => exact rfl); (case aB => exact (xH HB.out)); (case aF => exact (fun _ _ => trivial)); (case aO => exact (xR HO_5.out)); (case aS => exact (below_size (xH HB.out))); (case aL => have := LMc9.out; omega); intro v138 w10 ho hb hg hat; rw [← Ny137.out] at ho; replace HB := aM (hb); have HO139 := aM (ho); clear HO_5; clear ho hb hg hat))
                go_roundg k1
                case measure => have := HK1.out; omega
                case rel => exact ⟨(y137), (wrap64 (x6_1 + 1)), yZ, H', ⟨by have := HK1.out; omega⟩, ⟨xR HO139.out⟩, ⟨xH HB.out⟩⟩
              · rw [if_neg c9] at H
                exact absurd H (by simp)
            · rw [if_neg c8] at H
              exact absurd H (by simp)
          · rw [if_neg c7] at H
            exact absurd H (by simp)
        · rw [if_neg c6] at H
          exact absurd H (by simp)
      · rw [if_neg c5] at H
        have c5b0 := decide_eq_false c5
        clear c5
        obtain rfl := Option.some.inj H
        go_wp2
        go_ret
        exact ⟨_, yF, xR HO_5.out, xH HB.out⟩

end Go.Proofs.Ytihnmdnmjieffaa.PFnExactShattersSet
