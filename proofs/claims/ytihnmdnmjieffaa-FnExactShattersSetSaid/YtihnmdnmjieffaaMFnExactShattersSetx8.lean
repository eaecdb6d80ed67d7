-- Laid for this claim by a program of the session's own (wip/tool/myprint.py).
import Derived.Test.YtihnmdnmjieffaaMFnExactShattersSetx0
import Derived.Test.YtihnmdnmjieffaaMFnExactShattersSetx1
import Derived.Test.YtihnmdnmjieffaaMFnExactShattersSetx4
import Derived.Test.YtihnmdnmjieffaaMFnExactShattersSetx5
import Derived.Test.YtihnmdnmjieffaaMFnExactShattersSetx7
namespace Go.Proofs.Ytihnmdnmjieffaa.PFnExactShattersSet
open Go.RowKit Go.Proofs.YtihnmdnmjieffaaW.PrintWords Go.Proofs.YtihnmdnmjieffaaW.PrintLast Go.Proofs.YtihnmdnmjieffaaW.PrintMore
attribute [local go_sem] max2_int min2_int max_two min_two max_three min_three max_four min_four   -- for this text's walks alone
set_option linter.unusedVariables false
set_option maxHeartbeats 8000000
set_option maxRecDepth 100000
set_option linter.unusedSimpArgs false

/-! ### impl_ShattersSet: function 15 -/
def impl_ShattersSet.f (k : Nat) (l0 : List (List Int)) (l1 : List Int) : Option (Bool × Bool) := (impl_isClassSet.f k l0 l1).bind fun t299 => (if t299 = true then ((impl_shatters.f k l0 l1).bind fun t300 => (some (t300, true))) else (some (false, false)))
theorem impl_ShattersSet.mono : ∀ a0 a1 k, LeO (impl_ShattersSet.f k a0 a1) (impl_ShattersSet.f (k + 1) a0 a1) := by
  intro a0 a1 k
  unfold impl_ShattersSet.f
  repeat' first
      | (with_reducible first | exact impl_isClassSet.mono _ _ _ | exact impl_shatters.mono _ _ _ | exact LeO.refl _ | exact LeO.none _ | refine LeO.ite ?_ ?_ | refine LeO.bind ?_ (fun _ => ?_))
      | exact impl_isClassSet.mono _ _ _ | exact impl_shatters.mono _ _ _ | exact LeO.none _ | refine LeO.ite ?_ ?_ | refine LeO.bind ?_ (fun _ => ?_)
theorem impl_ShattersSet.calls (k : Nat) (A0 : Option Addr) (c0 : Nat) (l0 : List (List Int)) (A1 : Option Addr) (c1 : Nat) (l1 : List Int) (r1 : Bool) (r2 : Bool) (w : World) (hr0 : Kd.C (Kd.slice 3 (Kd.int .i64)) w A0 l0.length l0) (hc0 : l0.length ≤ c0) (hr1 : Kd.C (Kd.int .i64) w A1 l1.length l1) (hc1 : l1.length ≤ c1) (h : impl_ShattersSet.f k l0 l1 = some (r1, r2)) :
    Calls Try.prog 15 #[.slice A0 l0.length c0, .slice A1 l1.length c1] w fun e w' => e = .returned (.tuple #[.bool r1, .bool r2]) ∧ Below w.heap.size w w' := by
  have HR0 := aM hr0
  have HC0 := aM hc0
  clear hr0 hc0
  have HR1 := aM hr1
  have HC1 := aM hc1
  clear hr1 hc1
  have HB := aM (Below.refl w.heap.size w)
  have H : ((impl_isClassSet.f k l0 l1).bind fun t299 => (if t299 = true then ((impl_shatters.f k l0 l1).bind fun t300 => (some (t300, true))) else (some (false, false)))) = some (r1, r2) := h
  clear h
  replace H := oB.mp H
  obtain ⟨t299, A30, H⟩ := H
  have A3 := aM A30
  clear A30
  by_cases c4 : t299 = true
  · subst c4
    rw [if_pos rfl] at H
    replace H := oB.mp H
    obtain ⟨t300, A50, H⟩ := H
    have A5 := aM A50
    clear A50
    simp only [Option.some.injEq, Prod.mk.injEq] at H
    obtain ⟨rfl, rfl⟩ := H
    go_enter Try.func15, Try.ntmps15
    go_wp2_with (first | (refine yL 8 Try.func45 #[.slice A0 l0.length c0, .slice A1 l1.length c1] ?_; (with_reducible refine (impl_isClassSet.calls k _ _ l0 _ _ l1 true _ (xC HR0.out) HC0.out (xC HR1.out) HC1.out A3.out).mono ?_); rintro e w' ⟨rfl, ⟨nd, rfl⟩⟩; refine ⟨_, rfl, ?_⟩) | (refine yL 12 Try.func46 #[.slice A0 l0.length c0, .slice A1 l1.length c1] ?_; (with_reducible refine (impl_shatters.calls k _ _ l0 _ _ l1 t300 _ (xC HR0.out) HC0.out (xC HR1.out) HC1.out A5.out).mono ?_); rintro e w6 ⟨rfl, hb⟩; refine ⟨_, rfl, ?_⟩; replace HB := yS0 HB hb; (try clear hb)))
    go_ret2
    exact ⟨yF, xH HB.out⟩
  · replace c4 := Bool.eq_false_iff.mpr c4
    subst c4
    rw [if_neg (show ¬ (false = true) by decide)] at H
    simp only [Option.some.injEq, Prod.mk.injEq] at H
    obtain ⟨rfl, rfl⟩ := H
    go_enter Try.func15, Try.ntmps15
    go_wp2_with (first | (refine yL 8 Try.func45 #[.slice A0 l0.length c0, .slice A1 l1.length c1] ?_; (with_reducible refine (impl_isClassSet.calls k _ _ l0 _ _ l1 false _ (xC HR0.out) HC0.out (xC HR1.out) HC1.out A3.out).mono ?_); rintro e w' ⟨rfl, ⟨nd, rfl⟩⟩; refine ⟨_, rfl, ?_⟩))
    go_ret2
    exact ⟨yF, xH HB.out⟩

/-! ### laws_eqIntSS: function 16 -/
def laws_eqIntSS.l0 : Nat → List (List Int) → List (List Int) → Int → Option (Bool)
  | 0, _, _, _ => none
  | k + 1, x0, x1, x5 => if x5 < (x0.length : Int) then (if 0 ≤ x5 then (if x5 < (x1.length : Int) then ((laws_eqIntS.f k (rd_L1 x0 x5) (rd_L1 x1 x5)).bind fun t303 => (if t303 = true then (laws_eqIntSS.l0 k x0 x1 (wrap64 (x5 + 1))) else (some false))) else (none)) else (none)) else (some true)
def laws_eqIntSS.f (k : Nat) (l0 : List (List Int)) (l1 : List (List Int)) : Option (Bool) := if (l0.length : Int) = (l1.length : Int) then (laws_eqIntSS.l0 k l0 l1 0) else (some false)
theorem laws_eqIntSS.mono_l : ∀ k, (∀ y0 y1 y2, LeO (laws_eqIntSS.l0 k y0 y1 y2) (laws_eqIntSS.l0 (k + 1) y0 y1 y2))
  | 0 => fun _ _ _ r h => by simp [laws_eqIntSS.l0] at h
  | k + 1 => by
    have ih0 := laws_eqIntSS.mono_l k
    · intro y0 y1 y2
      unfold laws_eqIntSS.l0
      repeat' first
      | (with_reducible first | exact ih0 _ _ _ | exact laws_eqIntS.mono _ _ _ | exact LeO.refl _ | exact LeO.none _ | refine LeO.ite ?_ ?_ | refine LeO.bind ?_ (fun _ => ?_))
      | exact ih0 _ _ _ | exact laws_eqIntS.mono _ _ _ | exact LeO.none _ | refine LeO.ite ?_ ?_ | refine LeO.bind ?_ (fun _ => ?_)
theorem laws_eqIntSS.mono : ∀ a0 a1 k, LeO (laws_eqIntSS.f k a0 a1) (laws_eqIntSS.f (k + 1) a0 a1) := by
  intro a0 a1 k
  have ih0 := laws_eqIntSS.mono_l k
  unfold laws_eqIntSS.f
  repeat' first
      | (with_reducible first | exact ih0 _ _ _ | exact laws_eqIntS.mono _ _ _ | exact LeO.refl _ | exact LeO.none _ | refine LeO.ite ?_ ?_ | refine LeO.bind ?_ (fun _ => ?_))
      | exact ih0 _ _ _ | exact laws_eqIntS.mono _ _ _ | exact LeO.none _ | refine LeO.ite ?_ ?_ | refine LeO.bind ?_ (fun _ => ?_)
theorem laws_eqIntSS.calls (k : Nat) (A0 : Option Addr) (c0 : Nat) (l0 : List (List Int)) (A1 : Option Addr) (c1 : Nat) (l1 : List (List Int)) (r : Bool) (w : World) (hr0 : Kd.C (Kd.slice 3 (Kd.int .i64)) w A0 l0.length l0) (hc0 : l0.length ≤ c0) (hr1 : Kd.C (Kd.slice 3 (Kd.int .i64)) w A1 l1.length l1) (hc1 : l1.length ≤ c1) (h : laws_eqIntSS.f k l0 l1 = some r) :
    Calls Try.prog 16 #[.slice A0 l0.length c0, .slice A1 l1.length c1] w fun e w' => e = .returned (.bool r) ∧ Drawn0 w w' := by
  have HR0 := aM hr0
  have HC0 := aM hc0
  clear hr0 hc0
  have HR1 := aM hr1
  have HC1 := aM hc1
  clear hr1 hc1
  have H : (if (l0.length : Int) = (l1.length : Int) then (laws_eqIntSS.l0 k l0 l1 0) else (some false)) = some r := h
  clear h
  by_cases c3 : (l0.length : Int) = (l1.length : Int)
  · rw [if_pos c3] at H
    have c3b0 : ((l0.length : Int) == (l1.length : Int)) = true := beq_iff_eq.mpr c3
    have c3b1 : ((l0.length : Int) != (l1.length : Int)) = false := bne_eq_false_iff_eq.mpr c3
    have c3b2 : (l0.length == l1.length) = true := by first | simpa using c3 | (simp at c3 ⊢; omega)
    clear c3
    have H' := aM H
    clear H
    go_enter Try.func16, Try.ntmps16
    go_wp2
    repeat (go_quiet (fail); try go_wp2)
    go_loopg [5] k (fun kq v5 w' => ∃ (x5_1 : Int), v5 = .int .i64 x5_1 ∧ Aside0 (laws_eqIntSS.l0 kq l0 l1 x5_1 = some r) ∧ Aside0 (kq ≤ k) ∧ Drawn0 w w')
    case atStart => exact ⟨(0), yZ, H', ⟨Nat.le_refl _⟩, yDn⟩
    case round =>
      clear H'
      try clear c1
      try clear p2
      try clear c3
      try clear c3b0
      try clear c3b1
      try clear c3b2
      obtain ⟨x5_1, rfl, HA, HK1, ⟨m1, rfl⟩⟩ := hrel
      cases gk with
      | zero => exact absurd HA.out (by simp [laws_eqIntSS.l0])
      | succ k1 =>
        have H := HA.out
        clear HA
        simp only [laws_eqIntSS.l0] at H
        by_cases c4 : x5_1 < (l0.length : Int)
        · rw [if_pos c4] at H
          have c4b0 := decide_eq_true c4
          clear c4
          by_cases c5 : 0 ≤ x5_1
          · rw [if_pos c5] at H
            have c5b0 := decide_eq_true c5
            clear c5
            by_cases c6 : x5_1 < (l1.length : Int)
            · rw [if_pos c6] at H
              have c6b0 := decide_eq_true c6
              clear c6
              replace H := oB.mp H
              obtain ⟨t303, A70, H⟩ := H
              have A7 := aM A70
              clear A70
              by_cases c8 : t303 = true
              · subst c8
                rw [if_pos rfl] at H
                have H' := aM H
                clear H
                have p301 : 0 ≤ (x5_1 : Int) := yA
                have q301 : x5_1 < (l0.length : Int) := yA
                obtain ⟨ad301, A301_0, c301_0, e301, hx301_0, hl301_0, hi301_0⟩ := at_L1 HR0.out x5_1 p301 q301
                cases e301
                have HR301_0 := aM hi301_0
                have HC301_0 := aM hl301_0
                clear hi301_0 hl301_0
                replace p301 := eq_true p301
                replace q301 := eq_true q301
                have p302 : 0 ≤ (x5_1 : Int) := yA
                have q302 : x5_1 < (l1.length : Int) := yA
                obtain ⟨ad302, A302_0, c302_0, e302, hx302_0, hl302_0, hi302_0⟩ := at_L1 HR1.out x5_1 p302 q302
                cases e302
                have HR302_0 := aM hi302_0
                have HC302_0 := aM hl302_0
                clear hi302_0 hl302_0
                replace p302 := eq_true p302
                replace q302 := eq_true q302
                go_wp2_with (first | (go_at_call 9; (with_reducible refine (laws_eqIntS.calls k1 _ _ (rd_L1 l0 x5_1) _ _ (rd_L1 l1 x5_1) true _ (xC HR301_0.out) HC301_0.out (xC HR302_0.out) HC302_0.out A7.out).mono ?_); rintro e w' ⟨rfl, ⟨nd, rfl⟩⟩; (try exact yDr)))
                repeat (go_quiet (first | (go_at_call 9; (with_reducible refine (laws_eqIntS.calls k1 _ _ (rd_L1 l0 x5_1) _ _ (rd_L1 l1 x5_1) true _ (xC HR301_0.out) HC301_0.out (xC HR302_0.out) HC302_0.out A7.out).mono ?_); rintro e w' ⟨rfl, ⟨nd, rfl⟩⟩; (try exact yDr))); try go_wp2_with (first | (go_at_call 9; (with_reducible refine (laws_eqIntS.calls k1 _ _ (rd_L1 l0 x5_1) _ _ (rd_L1 l1 x5_1) true _ (xC HR301_0.out) HC301_0.out (xC HR302_0.out) HC302_0.out A7.out).mono ?_); rintro e w' ⟨rfl, ⟨nd, rfl⟩⟩; (try exact yDr))))
                go_roundg k1
                case measure => have := HK1.out; omega
                case rel => exact ⟨(wrap64 (x5_1 + 1)), yZ, H', ⟨by have := HK1.out; omega⟩, yDn⟩
              · replace c8 := Bool.eq_false_iff.mpr c8
                subst c8
                rw [if_neg (show ¬ (false = true) by decide)] at H
                obtain rfl := Option.some.inj H
                have p301 : 0 ≤ (x5_1 : Int) := yA
                have q301 : x5_1 < (l0.length : Int) := yA
                obtain ⟨ad301, A301_0, c301_0, e301, hx301_0, hl301_0, hi301_0⟩ := at_L1 HR0.out x5_1 p301 q301
                cases e301
                have HR301_0 := aM hi301_0
                have HC301_0 := aM hl301_0
                clear hi301_0 hl301_0
                replace p301 := eq_true p301
                replace q301 := eq_true q301
                have p302 : 0 ≤ (x5_1 : Int) := yA
                have q302 : x5_1 < (l1.length : Int) := yA
                obtain ⟨ad302, A302_0, c302_0, e302, hx302_0, hl302_0, hi302_0⟩ := at_L1 HR1.out x5_1 p302 q302
                cases e302
                have HR302_0 := aM hi302_0
                have HC302_0 := aM hl302_0
                clear hi302_0 hl302_0
                replace p302 := eq_true p302
                replace q302 := eq_true q302
                go_wp2_with (first | (go_at_call 9; (with_reducible refine (laws_eqIntS.calls k1 _ _ (rd_L1 l0 x5_1) _ _ (rd_L1 l1 x5_1) false _ (xC HR301_0.out) HC301_0.out (xC HR302_0.out) HC302_0.out A7.out).mono ?_); rintro e w' ⟨rfl, ⟨nd, rfl⟩⟩; (try exact yDr)))
                repeat (go_quiet (first | (go_at_call 9; (with_reducible refine (laws_eqIntS.calls k1 _ _ (rd_L1 l0 x5_1) _ _ (rd_L1 l1 x5_1) false _ (xC HR301_0.out) HC301_0.out (xC HR302_0.out) HC302_0.out A7.out).mono ?_); rintro e w' ⟨rfl, ⟨nd, rfl⟩⟩; (try exact yDr))); try go_wp2_with (first | (go_at_call 9; (with_reducible refine (laws_eqIntS.calls k1 _ _ (rd_L1 l0 x5_1) _ _ (rd_L1 l1 x5_1) false _ (xC HR301_0.out) HC301_0.out (xC HR302_0.out) HC302_0.out A7.out).mono ?_); rintro e w' ⟨rfl, ⟨nd, rfl⟩⟩; (try exact yDr))))
                go_ret
                exact ⟨yZ, yDn⟩
            · rw [if_neg c6] at H
              exact absurd H (by simp)
          · rw [if_neg c5] at H
            exact absurd H (by simp)
        · rw [if_neg c4] at H
          have c4b0 := decide_eq_false c4
          clear c4
          obtain rfl := Option.some.inj H
          go_wp2
          repeat (go_quiet (fail); try go_wp2)
          go_ret
          exact ⟨yZ, yDn⟩
  · rw [if_neg c3] at H
    have c3b0 : ((l0.length : Int) == (l1.length : Int)) = false := beq_eq_false_iff_ne.mpr c3
    have c3b1 : ((l0.length : Int) != (l1.length : Int)) = true := bne_iff_ne.mpr c3
    have c3b2 : (l0.length == l1.length) = false := by first | simpa using c3 | (simp at c3 ⊢; omega)
    obtain rfl := Option.some.inj H
    go_enter Try.func16, Try.ntmps16
    go_wp2
    repeat (go_quiet (fail); try go_wp2)
    go_ret
    exact ⟨yZ, yDn⟩

/-! ### laws_FnExactShattersSet: function 4 -/
def laws_FnExactShattersSet.j0 : Nat → List (List Int) → List Int → List (List Int) → List Int → Bool → Option (Bool)
  | 0, _, _, _, _, _ => none
  | k + 1, x0, x1, x8, x9, x45 => if x45 = true then (some false) else ((laws_toIntSS.f k x0).bind fun t321 => ((laws_eqIntSS.f k x8 t321).bind fun t324 => (if t324 = true then ((laws_toIntS.f k x1).bind fun t325 => ((laws_eqIntS.f k x9 t325).bind fun t328 => (if t328 = true then (some true) else (some false)))) else (some false))))
def laws_FnExactShattersSet.f (k : Nat) (l0 : List (List Int)) (l1 : List Int) : Option (Bool) := if (l1.length : Int) > 1048576 then (some true) else ((laws_szIntSS.f k l0 1048576).bind fun t304 => (if t304 < 0 then (some true) else ((laws_toIntSS.f k l0).bind fun t305 => ((laws_toIntS.f k l1).bind fun t308 => ((spec_ShattersSet.f k t305 t308).bind fun bt311 => ((laws_toIntSS.f k l0).bind fun t313 => ((laws_toIntS.f k l1).bind fun t316 => ((impl_ShattersSet.f k t313 t316).bind fun bt319 => (if (bt319.1 != bt311.1) = true then (laws_FnExactShattersSet.j0 k l0 l1 t313 t316 true) else (laws_FnExactShattersSet.j0 k l0 l1 t313 t316 (bt319.2 != bt311.2)))))))))))
theorem laws_FnExactShattersSet.mono_l : ∀ k, (∀ y0 y1 y2 y3 y4, LeO (laws_FnExactShattersSet.j0 k y0 y1 y2 y3 y4) (laws_FnExactShattersSet.j0 (k + 1) y0 y1 y2 y3 y4))
  | 0 => fun _ _ _ _ _ r h => by simp [laws_FnExactShattersSet.j0] at h
  | k + 1 => by
    have ih0 := laws_FnExactShattersSet.mono_l k
    · intro y0 y1 y2 y3 y4
      unfold laws_FnExactShattersSet.j0
      repeat' first
      | (with_reducible first | exact ih0 _ _ _ _ _ | exact impl_ShattersSet.mono _ _ _ | exact laws_eqIntS.mono _ _ _ | exact laws_eqIntSS.mono _ _ _ | exact laws_szIntSS.mono _ _ _ | exact laws_toIntS.mono _ _ | exact laws_toIntSS.mono _ _ | exact spec_ShattersSet.mono _ _ _ | exact LeO.refl _ | exact LeO.none _ | refine LeO.ite ?_ ?_ | refine LeO.bind ?_ (fun _ => ?_))
      | exact ih0 _ _ _ _ _ | exact impl_ShattersSet.mono _ _ _ | exact laws_eqIntS.mono _ _ _ | exact laws_eqIntSS.mono _ _ _ | exact laws_szIntSS.mono _ _ _ | exact laws_toIntS.mono _ _ | exact laws_toIntSS.mono _ _ | exact spec_ShattersSet.mono _ _ _ | exact LeO.none _ | refine LeO.ite ?_ ?_ | refine LeO.bind ?_ (fun _ => ?_)
theorem laws_FnExactShattersSet.mono : ∀ a0 a1 k, LeO (laws_FnExactShattersSet.f k a0 a1) (laws_FnExactShattersSet.f (k + 1) a0 a1) := by
  intro a0 a1 k
  have ih0 := laws_FnExactShattersSet.mono_l k
  unfold laws_FnExactShattersSet.f
  repeat' first
      | (with_reducible first | exact ih0 _ _ _ _ _ | exact impl_ShattersSet.mono _ _ _ | exact laws_eqIntS.mono _ _ _ | exact laws_eqIntSS.mono _ _ _ | exact laws_szIntSS.mono _ _ _ | exact laws_toIntS.mono _ _ | exact laws_toIntSS.mono _ _ | exact spec_ShattersSet.mono _ _ _ | exact LeO.refl _ | exact LeO.none _ | refine LeO.ite ?_ ?_ | refine LeO.bind ?_ (fun _ => ?_))
      | exact ih0 _ _ _ _ _ | exact impl_ShattersSet.mono _ _ _ | exact laws_eqIntS.mono _ _ _ | exact laws_eqIntSS.mono _ _ _ | exact laws_szIntSS.mono _ _ _ | exact laws_toIntS.mono _ _ | exact laws_toIntSS.mono _ _ | exact spec_ShattersSet.mono _ _ _ | exact LeO.none _ | refine LeO.ite ?_ ?_ | refine LeO.bind ?_ (fun _ => ?_)
theorem laws_FnExactShattersSet.calls (k : Nat) (A0 : Option Addr) (c0 : Nat) (l0 : List (List Int)) (A1 : Option Addr) (c1 : Nat) (l1 : List Int) (r : Bool) (w : World) (hr0 : Kd.C (Kd.slice 3 (Kd.int .i64)) w A0 l0.length l0) (hc0 : l0.length ≤ c0) (hr1 : Kd.C (Kd.int .i64) w A1 l1.length l1) (hc1 : l1.length ≤ c1) (h : laws_FnExactShattersSet.f k l0 l1 = some r) :
    Calls Try.prog 4 #[.slice A0 l0.length c0, .slice A1 l1.length c1] w fun e w' => e = .returned (.bool r) ∧ Below w.heap.size w w' := by
  have HR0 := aM hr0
  have HC0 := aM hc0
  clear hr0 hc0
  have HR1 := aM hr1
  have HC1 := aM hc1
  clear hr1 hc1
  have HB := aM (Below.refl w.heap.size w)
  have H : (if (l1.length : Int) > 1048576 then (some true) else ((laws_szIntSS.f k l0 1048576).bind fun t304 => (if t304 < 0 then (some true) else ((laws_toIntSS.f k l0).bind fun t305 => ((laws_toIntS.f k l1).bind fun t308 => ((spec_ShattersSet.f k t305 t308).bind fun bt311 => ((laws_toIntSS.f k l0).bind fun t313 => ((laws_toIntS.f k l1).bind fun t316 => ((impl_ShattersSet.f k t313 t316).bind fun bt319 => (if (bt319.1 != bt311.1) = true then (laws_FnExactShattersSet.j0 k l0 l1 t313 t316 true) else (laws_FnExactShattersSet.j0 k l0 l1 t313 t316 (bt319.2 != bt311.2)))))))))))) = some r := h
  clear h
  by_cases c3 : (l1.length : Int) > 1048576
  · rw [if_pos c3] at H
    have c3b0 : decide (1048576 < (l1.length : Int)) = true := decide_eq_true c3
    have c3b1 : decide (1048576 < l1.length) = true := decide_eq_true (by omega)
    clear c3
    obtain rfl := Option.some.inj H
    go_enter Try.func4, Try.ntmps4
    go_wp2
    go_ret
    exact ⟨yF, xH HB.out⟩
  · rw [if_neg c3] at H
    have c3b0 : decide (1048576 < (l1.length : Int)) = false := decide_eq_false c3
    have c3b1 : decide (1048576 < l1.length) = false := decide_eq_false (by omega)
    clear c3
    replace H := oB.mp H
    obtain ⟨t304, A40, H⟩ := H
    have A4 := aM A40
    clear A40
    by_cases c5 : t304 < 0
    · rw [if_pos c5] at H
      have c5b0 := decide_eq_true c5
      clear c5
      obtain rfl := Option.some.inj H
      go_enter Try.func4, Try.ntmps4
      go_wp2_with (first | (refine yL 17 Try.func12 #[.slice A0 l0.length c0, .int .i64 1048576] ?_; (with_reducible refine (laws_szIntSS.calls k _ _ l0 1048576 t304 _ (xC HR0.out) HC0.out A4.out).mono ?_); rintro e w' ⟨rfl, ⟨nd, rfl⟩⟩; refine ⟨_, rfl, ?_⟩))
      go_ret
      exact ⟨yF, xH HB.out⟩
    · rw [if_neg c5] at H
      have c5b0 := decide_eq_false c5
      clear c5
      replace H := oB.mp H
      obtain ⟨t305, A60, H⟩ := H
      have A6 := aM A60
      clear A60
      replace H := oB.mp H
      obtain ⟨t308, A70, H⟩ := H
      have A7 := aM A70
      clear A70
      replace H := oB.mp H
      obtain ⟨⟨t311, t312⟩, A80, H⟩ := H
      (try dsimp only at H)
      have A8 := aM A80
      clear A80
      replace H := oB.mp H
      obtain ⟨t313, A90, H⟩ := H
      have A9 := aM A90
      clear A90
      replace H := oB.mp H
      obtain ⟨t316, A100, H⟩ := H
      have A10 := aM A100
      clear A100
      replace H := oB.mp H
      obtain ⟨⟨t319, t320⟩, A110, H⟩ := H
      (try dsimp only at H)
      have A11 := aM A110
      clear A110
      have HC12 := aM H
      clear H
      go_enter Try.func4, Try.ntmps4
      go_upto_region 11 with (first | (refine yL 17 Try.func12 #[.slice A0 l0.length c0, .int .i64 1048576] ?_; (with_reducible refine (laws_szIntSS.calls k _ _ l0 1048576 t304 _ (xC HR0.out) HC0.out A4.out).mono ?_); rintro e w' ⟨rfl, ⟨nd, rfl⟩⟩; refine ⟨_, rfl, ?_⟩) | (refine yL 22 Try.func14 #[.slice A0 l0.length c0] ?_; (with_reducible refine (laws_toIntSS.calls k _ _ l0 t305 _ (xC HR0.out) HC0.out A6.out).mono ?_); rintro e w13 ⟨v306, rfl, ho0, hb⟩; refine ⟨_, rfl, ?_⟩; have HO307 := aM (Kd.S_lower ho0 (below_size (xH HB.out))); replace HB := yS0 HB hb; (try clear hb; try clear ho0)) | (refine yL 24 Try.func7 #[.slice A1 l1.length c1] ?_; (with_reducible refine (laws_toIntS.calls k _ _ l1 t308 _ (xC (Kd.C_below HR1.out HB.out)) HC1.out A7.out).mono ?_); rintro e w14 ⟨v309, rfl, ho0, hb⟩; refine ⟨_, rfl, ?_⟩; replace HO307 := aM (Kd.S_elder' (xS HO307.out) (Kd.R_base ho0) hb); have HO310 := aM (Kd.R_lower ho0 (below_size (xH HB.out))); replace HB := yS0 HB hb; (try clear hb; try clear ho0); obtain ⟨Ao15, co15, eo15⟩ := Kd.S_slice HO307.out; subst eo15; obtain ⟨Ao16, co16, eo16⟩ := Kd.R_slice HO310.out; subst eo16) | (refine yL 25 Try.func13 #[.slice Ao15 t305.length co15, .slice Ao16 t308.length co16] ?_; (with_reducible refine (spec_ShattersSet.calls k _ _ t305 _ _ t308 t311 t312 _ ?side1 ((Kd.S_reads' HO307.out).2.1) (xC (Kd.R_reads' HO310.out).2.2) ((Kd.R_reads' HO310.out).2.1) A8.out).mono ?_); (case side1 => repeat (first | exact (Kd.S_reads' HO307.out).2.2 | (with_reducible refine Kd.C_alloc ?_ _) | (with_reducible refine Kd.C_drewN ?_ _) | (with_reducible refine Kd.C_drew ?_))); rintro e w17 ⟨rfl, hb⟩; refine ⟨_, rfl, ?_⟩; replace HO307 := aM (Kd.S_below (xS HO307.out) hb); replace HO310 := aM (Kd.R_below (xR HO310.out) hb); replace HB := yS0 HB hb; (try clear hb)) | (refine yL 29 Try.func14 #[.slice A0 l0.length c0] ?_; (with_reducible refine (laws_toIntSS.calls k _ _ l0 t313 _ (xC (Kd.C_below HR0.out HB.out)) HC0.out A9.out).mono ?_); rintro e w18 ⟨v314, rfl, ho0, hb⟩; refine ⟨_, rfl, ?_⟩; have HO315 := aM (Kd.S_lower (Kd.S_new' (Kd.S_new' ho0 (Kd.S_lt (xS HO307.out))) (Kd.R_lt (xR HO310.out))) (below_size (xH HB.out))); replace HO307 := aM (Kd.S_elder' (xS HO307.out) (Kd.S_base ho0) hb); replace HO310 := aM (Kd.R_below (xR HO310.out) hb); replace HB := yS0 HB hb; (try clear hb; try clear ho0)) | (refine yL 31 Try.func7 #[.slice A1 l1.length c1] ?_; (with_reducible refine (laws_toIntS.calls k _ _ l1 t316 _ (xC (Kd.C_below HR1.out HB.out)) HC1.out A10.out).mono ?_); rintro e w19 ⟨v317, rfl, ho0, hb⟩; refine ⟨_, rfl, ?_⟩; replace HO307 := aM (Kd.S_elder' (xS HO307.out) (Kd.R_base ho0) hb); replace HO315 := aM (Kd.S_elder' (xS HO315.out) (Kd.R_base ho0) hb); have HO318 := aM (Kd.R_lower (Kd.R_new' ho0 (Kd.R_lt (xR HO310.out))) (below_size (xH HB.out))); replace HO310 := aM (Kd.R_elder' (xR HO310.out) (Kd.R_base ho0) hb); replace HB := yS0 HB hb; (try clear hb; try clear ho0); obtain ⟨Ao20, co20, eo20⟩ := Kd.S_slice HO315.out; subst eo20; obtain ⟨Ao21, co21, eo21⟩ := Kd.R_slice HO318.out; subst eo21) | (refine yL 35 Try.func15 #[.slice Ao20 t313.length co20, .slice Ao21 t316.length co21] ?_; (with_reducible refine (impl_ShattersSet.calls k _ _ t313 _ _ t316 t319 t320 _ ?side1 ((Kd.S_reads' HO315.out).2.1) (xC (Kd.R_reads' HO318.out).2.2) ((Kd.R_reads' HO318.out).2.1) A11.out).mono ?_); (case side1 => repeat (first | exact (Kd.S_reads' HO315.out).2.2 | (with_reducible refine Kd.C_alloc ?_ _) | (with_reducible refine Kd.C_drewN ?_ _) | (with_reducible refine Kd.C_drew ?_))); rintro e w22 ⟨rfl, hb⟩; refine ⟨_, rfl, ?_⟩; replace HO307 := aM (Kd.S_below (xS HO307.out) hb); replace HO310 := aM (Kd.R_below (xR HO310.out) hb); replace HO315 := aM (Kd.S_below (xS HO315.out) hb); replace HO318 := aM (Kd.R_below (xR HO318.out) hb); replace HB := yS0 HB hb; (try clear hb)))
      (try simp only [Act.put, sA, sZ, sU])
      go_cut [45] (fun v45 wc => ∃ (kq : Nat) (x45_11 : Bool), v45 = .bool x45_11 ∧ Aside0 (laws_FnExactShattersSet.j0 kq l0 l1 t313 t316 x45_11 = some r) ∧ Aside0 (kq ≤ k) ∧ Aside0 (Kd.S (Kd.slice 3 (Kd.int .i64)) 22 wc w.heap.size (fun k_ => some k_ ≠ ((.slice Ao21 t316.length co21) : Value).ownBlock) (.slice Ao20 t313.length co20) t313) ∧ Aside0 (Kd.R (Kd.int .i64) 3 wc w.heap.size (fun _ => True) (.slice Ao21 t316.length co21) t316) ∧ Aside0 (Below w.heap.size w wc))
      case first =>
        have H := HC12.out
        clear HC12
        by_cases c23 : (t319 != t311) = true
        · rw [if_pos c23] at H
          have c23b0 : (t319 != t311) = true := c23
          (try (have c23b1 : decide (t319 = t311) = false := by simpa using c23))
          (try (have c23b2 : (t319 == t311) = false := by simpa using c23))
          (try (have c23b3 : ¬ (t319 = t311) := by simpa using c23))
          clear c23
          (first | rw [c23b0] | (simp only [i64_w, i32_w]; rw [c23b0]) | rw [c23b1] | skip)
          have H' := aM H
          clear H
          go_wp2
          go_meet
          case rel => exact ⟨_, (true), yZ, H', ⟨yM⟩, ⟨zS (Kd.S_mono HO315.out (fun _ hk => by first | exact hk.2 | exact trivial))⟩, ⟨zR (rM HO318.out (fun _ hk => trivial))⟩, ⟨xH HB.out⟩⟩
        · rw [if_neg c23] at H
          have c23b0 : (t319 != t311) = false := by simpa using c23
          (try (have c23b1 : decide (t319 = t311) = true := by simpa using c23))
          (try (have c23b2 : (t319 == t311) = true := by simpa using c23))
          clear c23
          (first | rw [c23b0] | (simp only [i64_w, i32_w]; rw [c23b0]) | rw [c23b1] | skip)
          have H' := aM H
          clear H
          go_wp2
          go_meet
          case rel => exact ⟨_, ((t320 != t312)), yZ, H', ⟨yM⟩, ⟨zS (Kd.S_mono HO315.out (fun _ hk => by first | exact hk.2 | exact trivial))⟩, ⟨zR (rM HO318.out (fun _ hk => trivial))⟩, ⟨xH HB.out⟩⟩
      case rest =>
        clear HC12
        try clear c1
        try clear c2
        try clear p2
        try clear c3
        try clear c3b0
        try clear c3b1
        try clear c4
        try clear c5
        try clear c5b0
        try clear c7
        try clear c12
        try clear c13
        try clear c14
        try clear c15
        try clear c23
        try clear c23b0
        try clear c23b1
        try clear c23b2
        obtain ⟨kq, x45_11, rfl, HA, HJ11, HO_8, HO_9, HB⟩ := hcut
        cases kq with
        | zero => exact absurd HA.out (by simp [laws_FnExactShattersSet.j0])
        | succ kj11 =>
          have H := HA.out
          clear HA
          simp only [laws_FnExactShattersSet.j0] at H
          by_cases c24 : x45_11 = true
          · subst c24
            rw [if_pos rfl] at H
            obtain rfl := Option.some.inj H
            go_wp2
            go_ret
            exact ⟨yF, xH HB.out⟩
          · replace c24 := Bool.eq_false_iff.mpr c24
            subst c24
            rw [if_neg (show ¬ (false = true) by decide)] at H
            replace H := oB.mp H
            obtain ⟨t321, A250, H⟩ := H
            have A25 := aM A250
            clear A250
            replace H := oB.mp H
            obtain ⟨t324, A260, H⟩ := H
            have A26 := aM A260
            clear A260
            by_cases c27 : t324 = true
            · subst c27
              rw [if_pos rfl] at H
              replace H := oB.mp H
              obtain ⟨t325, A280, H⟩ := H
              have A28 := aM A280
              clear A280
              replace H := oB.mp H
              obtain ⟨t328, A290, H⟩ := H
              have A29 := aM A290
              clear A290
              by_cases c30 : t328 = true
              · subst c30
                rw [if_pos rfl] at H
                obtain rfl := Option.some.inj H
                go_wp2_with (first | (refine yL 48 Try.func14 #[.slice A0 l0.length c0] ?_; (with_reducible refine (laws_toIntSS.calls kj11 _ _ l0 t321 _ (xC (Kd.C_below HR0.out HB.out)) HC0.out A25.out).mono ?_); rintro e w31 ⟨v322, rfl, ho0, hb⟩; refine ⟨_, rfl, ?_⟩; have HO323 := aM (Kd.S_lower (Kd.S_new' (Kd.S_new' ho0 (Kd.S_lt (xS HO_8.out))) (Kd.R_lt (xR HO_9.out))) (below_size (xH HB.out))); replace HO_8 := aM (Kd.S_elder' (xS HO_8.out) (Kd.S_base ho0) hb); replace HO_9 := aM (Kd.R_below (xR HO_9.out) hb); replace HB := yS0 HB hb; (try clear hb; try clear ho0); obtain ⟨Ao32, co32, eo32⟩ := Kd.S_slice HO323.out; subst eo32) | (refine yL 49 Try.func16 #[.slice Ao20 t313.length co20, .slice Ao32 t321.length co32] ?_; (with_reducible refine (laws_eqIntSS.calls kj11 _ _ t313 _ _ t321 true _ ?side1 ((Kd.S_reads' HO_8.out).2.1) ?side3 ((Kd.S_reads' HO323.out).2.1) A26.out).mono ?_); (case side1 => repeat (first | exact (Kd.S_reads' HO_8.out).2.2 | (with_reducible refine Kd.C_alloc ?_ _) | (with_reducible refine Kd.C_drewN ?_ _) | (with_reducible refine Kd.C_drew ?_))); (case side3 => repeat (first | exact (Kd.S_reads' HO323.out).2.2 | (with_reducible refine Kd.C_alloc ?_ _) | (with_reducible refine Kd.C_drewN ?_ _) | (with_reducible refine Kd.C_drew ?_))); rintro e w' ⟨rfl, ⟨nd, rfl⟩⟩; refine ⟨_, rfl, ?_⟩) | (refine yL 53 Try.func7 #[.slice A1 l1.length c1] ?_; (with_reducible refine (laws_toIntS.calls kj11 _ _ l1 t325 _ (xC (Kd.C_below HR1.out (xH HB.out))) HC1.out A28.out).mono ?_); rintro e w33 ⟨v326, rfl, ho0, hb⟩; refine ⟨_, rfl, ?_⟩; replace HO_8 := aM (Kd.S_elder' (xS HO_8.out) (Kd.R_base ho0) hb); replace HO323 := aM (Kd.S_elder' (xS HO323.out) (Kd.R_base ho0) hb); have HO327 := aM (Kd.R_lower (Kd.R_new' ho0 (Kd.R_lt (xR HO_9.out))) (below_size (xH HB.out))); replace HO_9 := aM (Kd.R_elder' (xR HO_9.out) (Kd.R_base ho0) hb); replace HB := yS0 HB hb; (try clear hb; try clear ho0); obtain ⟨Ao34, co34, eo34⟩ := Kd.R_slice HO327.out; subst eo34) | (refine yL 54 Try.func9 #[.slice Ao21 t316.length co21, .slice Ao34 t325.length co34] ?_; (with_reducible refine (laws_eqIntS.calls kj11 _ _ t316 _ _ t325 true _ (xC (Kd.R_reads' HO_9.out).2.2) ((Kd.R_reads' HO_9.out).2.1) (xC (Kd.R_reads' HO327.out).2.2) ((Kd.R_reads' HO327.out).2.1) A29.out).mono ?_); rintro e w' ⟨rfl, ⟨nd, rfl⟩⟩; refine ⟨_, rfl, ?_⟩))
                go_ret
                exact ⟨yF, xH HB.out⟩
              · replace c30 := Bool.eq_false_iff.mpr c30
                subst c30
                rw [if_neg (show ¬ (false = true) by decide)] at H
                obtain rfl := Option.some.inj H
                go_wp2_with (first | (refine yL 48 Try.func14 #[.slice A0 l0.length c0] ?_; (with_reducible refine (laws_toIntSS.calls kj11 _ _ l0 t321 _ (xC (Kd.C_below HR0.out HB.out)) HC0.out A25.out).mono ?_); rintro e w35 ⟨v322, rfl, ho0, hb⟩; refine ⟨_, rfl, ?_⟩; have HO323 := aM (Kd.S_lower (Kd.S_new' (Kd.S_new' ho0 (Kd.S_lt (xS HO_8.out))) (Kd.R_lt (xR HO_9.out))) (below_size (xH HB.out))); replace HO_8 := aM (Kd.S_elder' (xS HO_8.out) (Kd.S_base ho0) hb); replace HO_9 := aM (Kd.R_below (xR HO_9.out) hb); replace HB := yS0 HB hb; (try clear hb; try clear ho0); obtain ⟨Ao36, co36, eo36⟩ := Kd.S_slice HO323.out; subst eo36) | (refine yL 49 Try.func16 #[.slice Ao20 t313.length co20, .slice Ao36 t321.length co36] ?_; (with_reducible refine (laws_eqIntSS.calls kj11 _ _ t313 _ _ t321 true _ ?side1 ((Kd.S_reads' HO_8.out).2.1) ?side3 ((Kd.S_reads' HO323.out).2.1) A26.out).mono ?_); (case side1 => repeat (first | exact (Kd.S_reads' HO_8.out).2.2 | (with_reducible refine Kd.C_alloc ?_ _) | (with_reducible refine Kd.C_drewN ?_ _) | (with_reducible refine Kd.C_drew ?_))); (case side3 => repeat (first | exact (Kd.S_reads' HO323.out).2.2 | (with_reducible refine Kd.C_alloc ?_ _) | (with_reducible refine Kd.C_drewN ?_ _) | (with_reducible refine Kd.C_drew ?_))); rintro e w' ⟨rfl, ⟨nd, rfl⟩⟩; refine ⟨_, rfl, ?_⟩) | (refine yL 53 Try.func7 #[.slice A1 l1.length c1] ?_; (with_reducible refine (laws_toIntS.calls kj11 _ _ l1 t325 _ (xC (Kd.C_below HR1.out (xH HB.out))) HC1.out A28.out).mono ?_); rintro e w37 ⟨v326, rfl, ho0, hb⟩; refine ⟨_, rfl, ?_⟩; replace HO_8 := aM (Kd.S_elder' (xS HO_8.out) (Kd.R_base ho0) hb); replace HO323 := aM (Kd.S_elder' (xS HO323.out) (Kd.R_base ho0) hb); have HO327 := aM (Kd.R_lower (Kd.R_new' ho0 (Kd.R_lt (xR HO_9.out))) (below_size (xH HB.out))); replace HO_9 := aM (Kd.R_elder' (xR HO_9.out) (Kd.R_base ho0) hb); replace HB := yS0 HB hb; (try clear hb; try clear ho0); obtain ⟨Ao38, co38, eo38⟩ := Kd.R_slice HO327.out; subst eo38) | (refine yL 54 Try.func9 #[.slice Ao21 t316.length co21, .slice Ao38 t325.length co38] ?_; (with_reducible refine (laws_eqIntS.calls kj11 _ _ t316 _ _ t325 false _ (xC (Kd.R_reads' HO_9.out).2.2) ((Kd.R_reads' HO_9.out).2.1) (xC (Kd.R_reads' HO327.out).2.2) ((Kd.R_reads' HO327.out).2.1) A29.out).mono ?_); rintro e w' ⟨rfl, ⟨nd, rfl⟩⟩; refine ⟨_, rfl, ?_⟩))
                go_ret
                exact ⟨yF, xH HB.out⟩
            · replace c27 := Bool.eq_false_iff.mpr c27
              subst c27
              rw [if_neg (show ¬ (false = true) by decide)] at H
              obtain rfl := Option.some.inj H
              go_wp2_with (first | (refine yL 48 Try.func14 #[.slice A0 l0.length c0] ?_; (with_reducible refine (laws_toIntSS.calls kj11 _ _ l0 t321 _ (xC (Kd.C_below HR0.out HB.out)) HC0.out A25.out).mono ?_); rintro e w39 ⟨v322, rfl, ho0, hb⟩; refine ⟨_, rfl, ?_⟩; have HO323 := aM (Kd.S_lower (Kd.S_new' (Kd.S_new' ho0 (Kd.S_lt (xS HO_8.out))) (Kd.R_lt (xR HO_9.out))) (below_size (xH HB.out))); replace HO_8 := aM (Kd.S_elder' (xS HO_8.out) (Kd.S_base ho0) hb); replace HO_9 := aM (Kd.R_below (xR HO_9.out) hb); replace HB := yS0 HB hb; (try clear hb; try clear ho0); obtain ⟨Ao40, co40, eo40⟩ := Kd.S_slice HO323.out; subst eo40) | (refine yL 49 Try.func16 #[.slice Ao20 t313.length co20, .slice Ao40 t321.length co40] ?_; (with_reducible refine (laws_eqIntSS.calls kj11 _ _ t313 _ _ t321 false _ ?side1 ((Kd.S_reads' HO_8.out).2.1) ?side3 ((Kd.S_reads' HO323.out).2.1) A26.out).mono ?_); (case side1 => repeat (first | exact (Kd.S_reads' HO_8.out).2.2 | (with_reducible refine Kd.C_alloc ?_ _) | (with_reducible refine Kd.C_drewN ?_ _) | (with_reducible refine Kd.C_drew ?_))); (case side3 => repeat (first | exact (Kd.S_reads' HO323.out).2.2 | (with_reducible refine Kd.C_alloc ?_ _) | (with_reducible refine Kd.C_drewN ?_ _) | (with_reducible refine Kd.C_drew ?_))); rintro e w' ⟨rfl, ⟨nd, rfl⟩⟩; refine ⟨_, rfl, ?_⟩))
              go_ret
              exact ⟨yF, xH HB.out⟩

end Go.Proofs.Ytihnmdnmjieffaa.PFnExactShattersSet
