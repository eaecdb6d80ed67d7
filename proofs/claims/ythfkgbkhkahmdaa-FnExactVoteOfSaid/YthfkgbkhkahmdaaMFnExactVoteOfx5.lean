-- Laid for this claim by a program of the session's own (wip/tool/myprint.py).
import Derived.Test.YthfkgbkhkahmdaaMFnExactVoteOfx0
namespace Go.Proofs.Ythfkgbkhkahmdaa.PFnExactVoteOf
open Go.RowKit Go.Proofs.YthfkgbkhkahmdaaW.PrintWords Go.Proofs.YthfkgbkhkahmdaaW.PrintLast Go.Proofs.YthfkgbkhkahmdaaW.PrintMore
attribute [local go_sem] max2_int min2_int max_two min_two max_three min_three max_four min_four   -- for this text's walks alone
set_option linter.unusedVariables false
set_option linter.unusedSimpArgs false

/-! ### impl_ways: function 144 -/
def impl_ways.l0 : Nat → List Int → Int → Int → Int → Int → Int → Option (Int × Int)
  | 0, _, _, _, _, _, _ => none
  | k + 1, x0, x1, x6, x7, x10, x11 => if x11 < x10 then (if 0 ≤ x1 then (if (Go.bits .and .i64 (shr .i64 x11 x1) 1) = 1 then (impl_ways.l0 k x0 x1 x6 x7 x10 (wrap64 (x11 + 1))) else (if 0 ≤ (Go.bits .or .i64 x11 (shl .i64 1 x1)) then (if (Go.bits .or .i64 x11 (shl .i64 1 x1)) < (x0.length : Int) then (if 0 ≤ x11 then (if x11 < (x0.length : Int) then (if (wrap64 ((rd x0 (Go.bits .or .i64 x11 (shl .i64 1 x1))) - (rd x0 x11))) = 1 then (impl_ways.l0 k x0 x1 (wrap64 (x6 + 1)) x7 x10 (wrap64 (x11 + 1))) else (if (wrap64 ((rd x0 (Go.bits .or .i64 x11 (shl .i64 1 x1))) - (rd x0 x11))) = (-1) then (impl_ways.l0 k x0 x1 x6 (wrap64 (x7 + 1)) x10 (wrap64 (x11 + 1))) else (impl_ways.l0 k x0 x1 x6 x7 x10 (wrap64 (x11 + 1))))) else (none)) else (none)) else (none)) else (none))) else (none)) else (some (x6, x7))
def impl_ways.f (k : Nat) (l0 : List Int) (a1 : Int) : Option (Int × Int) := impl_ways.l0 k l0 a1 0 0 (l0.length : Int) 0
theorem impl_ways.mono_l : ∀ k, (∀ y0 y1 y2 y3 y4 y5, LeO (impl_ways.l0 k y0 y1 y2 y3 y4 y5) (impl_ways.l0 (k + 1) y0 y1 y2 y3 y4 y5))
  | 0 => fun _ _ _ _ _ _ r h => by simp [impl_ways.l0] at h
  | k + 1 => by
    have ih0 := impl_ways.mono_l k
    · intro y0 y1 y2 y3 y4 y5
      unfold impl_ways.l0
      repeat' first
      | (with_reducible exact ih0 _ _ _ _ _ _)
      | (with_reducible exact LeO.refl _)
      | (with_reducible exact LeO.none _)
      | (with_reducible refine LeO.ite ?_ ?_)
      | (with_reducible refine LeO.bind ?_ (fun _ => ?_))
      | exact ih0 _ _ _ _ _ _
      | exact LeO.none _
      | refine LeO.ite ?_ ?_
      | refine LeO.bind ?_ (fun _ => ?_)
theorem impl_ways.mono : ∀ a0 a1 k, LeO (impl_ways.f k a0 a1) (impl_ways.f (k + 1) a0 a1) := by
  intro a0 a1 k
  have ih0 := impl_ways.mono_l k
  unfold impl_ways.f
  repeat' first
      | (with_reducible exact ih0 _ _ _ _ _ _)
      | (with_reducible exact LeO.refl _)
      | (with_reducible exact LeO.none _)
      | (with_reducible refine LeO.ite ?_ ?_)
      | (with_reducible refine LeO.bind ?_ (fun _ => ?_))
      | exact ih0 _ _ _ _ _ _
      | exact LeO.none _
      | refine LeO.ite ?_ ?_
      | refine LeO.bind ?_ (fun _ => ?_)
set_option maxHeartbeats 8000000 in
set_option maxRecDepth 100000 in
theorem impl_ways.calls (k : Nat) (A0 : Option Addr) (c0 : Nat) (l0 : List Int) (a1 : Int) (r1 : Int) (r2 : Int) (w : World) (hr0 : Kd.C (Kd.int .i64) w A0 l0.length l0) (hc0 : l0.length ≤ c0) (h : impl_ways.f k l0 a1 = some (r1, r2)) :
    Calls Try.prog 144 #[.slice A0 l0.length c0, .int .i64 a1] w fun e w' => e = .returned (.tuple #[.int .i64 r1, .int .i64 r2]) ∧ Drawn0 w w' := by
  have HR0 := Aside0.mk hr0
  have HC0 := Aside0.mk hc0
  clear hr0 hc0
  have H : (impl_ways.l0 k l0 a1 0 0 (l0.length : Int) 0) = some (r1, r2) := h
  clear h
  have H' := Aside0.mk H
  clear H
  go_enter Try.func144, Try.ntmps144
  go_wp2
  repeat (go_quiet (fail); try go_wp2)
  go_loopg [6, 7, 11] k (fun kq v6 v7 v11 w' => ∃ (x6_1 : Int) (x7_1 : Int) (x11_1 : Int), v6 = .int .i64 x6_1 ∧ v7 = .int .i64 x7_1 ∧ v11 = .int .i64 x11_1 ∧ Aside0 (impl_ways.l0 kq l0 a1 x6_1 x7_1 (l0.length : Int) x11_1 = some (r1, r2)) ∧ Aside0 (kq ≤ k) ∧ Drawn0 w w')
  case atStart => exact ⟨(0), (0), (0), (by first | rfl | (simp; done) | (simp [*]; done)), (by first | rfl | (simp; done) | (simp [*]; done)), (by first | rfl | (simp; done) | (simp [*]; done)), H', ⟨Nat.le_refl _⟩, by repeat (first | exact Drawn0.refl _ | apply Drawn0.step)⟩
  case round =>
    clear H'
    try clear c1
    try clear p2
    obtain ⟨x6_1, x7_1, x11_1, rfl, rfl, rfl, HA, HK1, ⟨m1, rfl⟩⟩ := hrel
    cases gk with
    | zero => exact absurd HA.out (by simp [impl_ways.l0])
    | succ k1 =>
      have H := HA.out
      clear HA
      simp only [impl_ways.l0] at H
      by_cases c3 : x11_1 < (l0.length : Int)
      · rw [if_pos c3] at H
        have c3b0 : decide (x11_1 < (l0.length : Int)) = true := decide_eq_true c3
        clear c3
        by_cases c4 : 0 ≤ a1
        · rw [if_pos c4] at H
          have c4b0 := eq_true c4
          have c4b1 : decide (0 ≤ a1) = true := decide_eq_true c4
          clear c4
          obtain ⟨ji5, hji5⟩ : ∃ j_ : Int, (shr .i64 x11_1 a1) = j_ := ⟨_, rfl⟩
          replace H : (if (Go.bits .and .i64 (ji5) 1) = 1 then (impl_ways.l0 k1 l0 a1 x6_1 x7_1 (l0.length : Int) (wrap64 (x11_1 + 1))) else (if 0 ≤ (Go.bits .or .i64 x11_1 (shl .i64 1 a1)) then (if (Go.bits .or .i64 x11_1 (shl .i64 1 a1)) < (l0.length : Int) then (if 0 ≤ x11_1 then (if x11_1 < (l0.length : Int) then (if (wrap64 ((rd l0 (Go.bits .or .i64 x11_1 (shl .i64 1 a1))) - (rd l0 x11_1))) = 1 then (impl_ways.l0 k1 l0 a1 (wrap64 (x6_1 + 1)) x7_1 (l0.length : Int) (wrap64 (x11_1 + 1))) else (if (wrap64 ((rd l0 (Go.bits .or .i64 x11_1 (shl .i64 1 a1))) - (rd l0 x11_1))) = (-1) then (impl_ways.l0 k1 l0 a1 x6_1 (wrap64 (x7_1 + 1)) (l0.length : Int) (wrap64 (x11_1 + 1))) else (impl_ways.l0 k1 l0 a1 x6_1 x7_1 (l0.length : Int) (wrap64 (x11_1 + 1))))) else (none)) else (none)) else (none)) else (none))) = some (r1, r2) := by first | (rw [hji5] at H; exact H) | (simp only [hji5] at H ⊢; exact H)
          have hji5_ : (x11_1 / 2 ^ min a1.toNat 64) = ji5 := hji5
          have hji5z : a1 ≤ 64 → (x11_1 / 2 ^ a1.toNat) = ji5 := shr_small hji5
          by_cases c6 : (Go.bits .and .i64 (ji5) 1) = 1
          · rw [if_pos c6] at H
            have c6b0 : ((Go.bits .and .i64 (ji5) 1) == 1) = true := beq_iff_eq.mpr c6
            have c6b1 : ((Go.bits .and .i64 (ji5) 1) != 1) = false := bne_eq_false_iff_eq.mpr c6
            clear c6
            have H' := Aside0.mk H
            clear H
            go_wp2
            repeat (go_quiet (fail); try go_wp2)
            go_roundg k1
            case measure => have := HK1.out; omega
            case rel => exact ⟨(x6_1), (x7_1), (wrap64 (x11_1 + 1)), (by first | rfl | (simp; done) | (simp [*]; done)), (by first | rfl | (simp; done) | (simp [*]; done)), (by first | rfl | (simp; done) | (simp [*]; done)), H', ⟨by have := HK1.out; omega⟩, by repeat (first | exact Drawn0.refl _ | apply Drawn0.step)⟩
          · rw [if_neg c6] at H
            have c6b0 : ((Go.bits .and .i64 (ji5) 1) == 1) = false := beq_eq_false_iff_ne.mpr c6
            have c6b1 : ((Go.bits .and .i64 (ji5) 1) != 1) = true := bne_iff_ne.mpr c6
            have c7b0 := eq_true (of_decide_eq_true (by first | (with_reducible assumption) | assumption) : 0 ≤ a1)
            obtain ⟨ji8, hji8⟩ : ∃ j_ : Int, (shl .i64 1 a1) = j_ := ⟨_, rfl⟩
            replace H : (if 0 ≤ (Go.bits .or .i64 x11_1 (ji8)) then (if (Go.bits .or .i64 x11_1 (ji8)) < (l0.length : Int) then (if 0 ≤ x11_1 then (if x11_1 < (l0.length : Int) then (if (wrap64 ((rd l0 (Go.bits .or .i64 x11_1 (ji8))) - (rd l0 x11_1))) = 1 then (impl_ways.l0 k1 l0 a1 (wrap64 (x6_1 + 1)) x7_1 (l0.length : Int) (wrap64 (x11_1 + 1))) else (if (wrap64 ((rd l0 (Go.bits .or .i64 x11_1 (ji8))) - (rd l0 x11_1))) = (-1) then (impl_ways.l0 k1 l0 a1 x6_1 (wrap64 (x7_1 + 1)) (l0.length : Int) (wrap64 (x11_1 + 1))) else (impl_ways.l0 k1 l0 a1 x6_1 x7_1 (l0.length : Int) (wrap64 (x11_1 + 1))))) else (none)) else (none)) else (none)) else (none)) = some (r1, r2) := by first | (rw [hji8] at H; exact H) | (simp only [hji8] at H ⊢; exact H)
            have hji8_ : (IntKind.i64.wrap (1 * 2 ^ min a1.toNat 64)) = ji8 := hji8
            have hji8z : a1 ≤ 64 → (IntKind.i64.wrap (1 * 2 ^ a1.toNat)) = ji8 := shl_small hji8
            have hji8u : (IntKind.i64.wrap (2 ^ min a1.toNat 64)) = ji8 := by have h_ := hji8_; rw [Int.one_mul] at h_; exact h_
            have hji8v : a1 ≤ 64 → (IntKind.i64.wrap (2 ^ a1.toNat)) = ji8 := fun hle_ => by have h_ := hji8z hle_; rw [Int.one_mul] at h_; exact h_
            have hji8y : (wrap64 (1 * 2 ^ min a1.toNat 64)) = ji8 := (i64_w _).symm.trans hji8_
            have hji8x : a1 ≤ 64 → (wrap64 (1 * 2 ^ a1.toNat)) = ji8 := fun h_ => (i64_w _).symm.trans (hji8z h_)
            by_cases c9 : 0 ≤ (Go.bits .or .i64 x11_1 (ji8))
            · rw [if_pos c9] at H
              have c9b0 : decide (0 ≤ (Go.bits .or .i64 x11_1 (ji8))) = true := decide_eq_true c9
              clear c9
              by_cases c10 : (Go.bits .or .i64 x11_1 (ji8)) < (l0.length : Int)
              · rw [if_pos c10] at H
                have c10b0 : decide ((Go.bits .or .i64 x11_1 (ji8)) < (l0.length : Int)) = true := decide_eq_true c10
                clear c10
                by_cases c11 : 0 ≤ x11_1
                · rw [if_pos c11] at H
                  have c11b0 : decide (0 ≤ x11_1) = true := decide_eq_true c11
                  clear c11
                  by_cases c12 : x11_1 < (l0.length : Int)
                  · rw [if_pos c12] at H
                    have c12b0 : decide (x11_1 < (l0.length : Int)) = true := decide_eq_true c12
                    clear c12
                    by_cases c13 : (wrap64 ((rd l0 (Go.bits .or .i64 x11_1 (ji8))) - (rd l0 x11_1))) = 1
                    · rw [if_pos c13] at H
                      have c13b0 : ((wrap64 ((rd l0 (Go.bits .or .i64 x11_1 (ji8))) - (rd l0 x11_1))) == 1) = true := beq_iff_eq.mpr c13
                      have c13b1 : ((wrap64 ((rd l0 (Go.bits .or .i64 x11_1 (ji8))) - (rd l0 x11_1))) != 1) = false := bne_eq_false_iff_eq.mpr c13
                      clear c13
                      have H' := Aside0.mk H
                      clear H
                      have p192 : 0 ≤ ((Go.bits .or .i64 x11_1 (ji8)) : Int) := of_decide_eq_true (by first | (with_reducible assumption) | assumption)
                      have q192 : (Go.bits .or .i64 x11_1 (ji8)) < (l0.length : Int) := of_decide_eq_true (by first | (with_reducible assumption) | assumption)
                      obtain ⟨ad192, e192, hx192_0⟩ := Kd.at_int HR0.out (Go.bits .or .i64 x11_1 (ji8)) p192 q192
                      cases e192
                      replace p192 := eq_true p192
                      replace q192 := eq_true q192
                      have p193 : 0 ≤ (x11_1 : Int) := of_decide_eq_true (by first | (with_reducible assumption) | assumption)
                      have q193 : x11_1 < (l0.length : Int) := of_decide_eq_true (by first | (with_reducible assumption) | assumption)
                      obtain ⟨ad193, e193, hx193_0⟩ := Kd.at_int HR0.out x11_1 p193 q193
                      obtain rfl : ad192 = ad193 := (by injection e193)
                      replace p193 := eq_true p193
                      replace q193 := eq_true q193
                      go_wp2
                      repeat (go_quiet (fail); try go_wp2)
                      go_roundg k1
                      case measure => have := HK1.out; omega
                      case rel => exact ⟨(wrap64 (x6_1 + 1)), (x7_1), (wrap64 (x11_1 + 1)), (by first | rfl | (simp; done) | (simp [*]; done)), (by first | rfl | (simp; done) | (simp [*]; done)), (by first | rfl | (simp; done) | (simp [*]; done)), H', ⟨by have := HK1.out; omega⟩, by repeat (first | exact Drawn0.refl _ | apply Drawn0.step)⟩
                    · rw [if_neg c13] at H
                      have c13b0 : ((wrap64 ((rd l0 (Go.bits .or .i64 x11_1 (ji8))) - (rd l0 x11_1))) == 1) = false := beq_eq_false_iff_ne.mpr c13
                      have c13b1 : ((wrap64 ((rd l0 (Go.bits .or .i64 x11_1 (ji8))) - (rd l0 x11_1))) != 1) = true := bne_iff_ne.mpr c13
                      by_cases c14 : (wrap64 ((rd l0 (Go.bits .or .i64 x11_1 (ji8))) - (rd l0 x11_1))) = (-1)
                      · rw [if_pos c14] at H
                        have c14b0 : ((wrap64 ((rd l0 (Go.bits .or .i64 x11_1 (ji8))) - (rd l0 x11_1))) == (-1)) = true := beq_iff_eq.mpr c14
                        have c14b1 : ((wrap64 ((rd l0 (Go.bits .or .i64 x11_1 (ji8))) - (rd l0 x11_1))) != (-1)) = false := bne_eq_false_iff_eq.mpr c14
                        clear c14
                        have H' := Aside0.mk H
                        clear H
                        have p192 : 0 ≤ ((Go.bits .or .i64 x11_1 (ji8)) : Int) := of_decide_eq_true (by first | (with_reducible assumption) | assumption)
                        have q192 : (Go.bits .or .i64 x11_1 (ji8)) < (l0.length : Int) := of_decide_eq_true (by first | (with_reducible assumption) | assumption)
                        obtain ⟨ad192, e192, hx192_0⟩ := Kd.at_int HR0.out (Go.bits .or .i64 x11_1 (ji8)) p192 q192
                        cases e192
                        replace p192 := eq_true p192
                        replace q192 := eq_true q192
                        have p193 : 0 ≤ (x11_1 : Int) := of_decide_eq_true (by first | (with_reducible assumption) | assumption)
                        have q193 : x11_1 < (l0.length : Int) := of_decide_eq_true (by first | (with_reducible assumption) | assumption)
                        obtain ⟨ad193, e193, hx193_0⟩ := Kd.at_int HR0.out x11_1 p193 q193
                        obtain rfl : ad192 = ad193 := (by injection e193)
                        replace p193 := eq_true p193
                        replace q193 := eq_true q193
                        go_wp2
                        repeat (go_quiet (fail); try go_wp2)
                        go_roundg k1
                        case measure => have := HK1.out; omega
                        case rel => exact ⟨(x6_1), (wrap64 (x7_1 + 1)), (wrap64 (x11_1 + 1)), (by first | rfl | (simp; done) | (simp [*]; done)), (by first | rfl | (simp; done) | (simp [*]; done)), (by first | rfl | (simp; done) | (simp [*]; done)), H', ⟨by have := HK1.out; omega⟩, by repeat (first | exact Drawn0.refl _ | apply Drawn0.step)⟩
                      · rw [if_neg c14] at H
                        have c14b0 : ((wrap64 ((rd l0 (Go.bits .or .i64 x11_1 (ji8))) - (rd l0 x11_1))) == (-1)) = false := beq_eq_false_iff_ne.mpr c14
                        have c14b1 : ((wrap64 ((rd l0 (Go.bits .or .i64 x11_1 (ji8))) - (rd l0 x11_1))) != (-1)) = true := bne_iff_ne.mpr c14
                        have H' := Aside0.mk H
                        clear H
                        have p192 : 0 ≤ ((Go.bits .or .i64 x11_1 (ji8)) : Int) := of_decide_eq_true (by first | (with_reducible assumption) | assumption)
                        have q192 : (Go.bits .or .i64 x11_1 (ji8)) < (l0.length : Int) := of_decide_eq_true (by first | (with_reducible assumption) | assumption)
                        obtain ⟨ad192, e192, hx192_0⟩ := Kd.at_int HR0.out (Go.bits .or .i64 x11_1 (ji8)) p192 q192
                        cases e192
                        replace p192 := eq_true p192
                        replace q192 := eq_true q192
                        have p193 : 0 ≤ (x11_1 : Int) := of_decide_eq_true (by first | (with_reducible assumption) | assumption)
                        have q193 : x11_1 < (l0.length : Int) := of_decide_eq_true (by first | (with_reducible assumption) | assumption)
                        obtain ⟨ad193, e193, hx193_0⟩ := Kd.at_int HR0.out x11_1 p193 q193
                        obtain rfl : ad192 = ad193 := (by injection e193)
                        replace p193 := eq_true p193
                        replace q193 := eq_true q193
                        go_wp2
                        repeat (go_quiet (fail); try go_wp2)
                        go_roundg k1
                        case measure => have := HK1.out; omega
                        case rel => exact ⟨(x6_1), (x7_1), (wrap64 (x11_1 + 1)), (by first | rfl | (simp; done) | (simp [*]; done)), (by first | rfl | (simp; done) | (simp [*]; done)), (by first | rfl | (simp; done) | (simp [*]; done)), H', ⟨by have := HK1.out; omega⟩, by repeat (first | exact Drawn0.refl _ | apply Drawn0.step)⟩
                  · rw [if_neg c12] at H
                    exact absurd H (by simp)
                · rw [if_neg c11] at H
                  exact absurd H (by simp)
              · rw [if_neg c10] at H
                exact absurd H (by simp)
            · rw [if_neg c9] at H
              exact absurd H (by simp)
        · rw [if_neg c4] at H
          exact absurd H (by simp)
      · rw [if_neg c3] at H
        have c3b0 : decide (x11_1 < (l0.length : Int)) = false := decide_eq_false c3
        clear c3
        simp only [Option.some.injEq, Prod.mk.injEq] at H
        obtain ⟨rfl, rfl⟩ := H
        go_wp2
        repeat (go_quiet (fail); try go_wp2)
        go_ret2
        exact ⟨by first | rfl | (simp; done) | (simp [*]; done), by repeat (first | exact Drawn0.refl _ | apply Drawn0.step)⟩

/-! ### impl_isGame: function 109 -/
def impl_isGame.l0 : Nat → Int → List Int → Int → Int → Option (Bool)
  | 0, _, _, _, _ => none
  | k + 1, x0, x1, x8, x9 => if x9 < x8 then ((impl_ways.f k x1 x9).bind fun bt194 => (if bt194.2 > 0 then (some false) else (impl_isGame.l0 k x0 x1 x8 (wrap64 (x9 + 1))))) else (if x0 ≥ 1 then (if 0 < (x1.length : Int) then (if (rd x1 0) = 0 then (if 0 ≤ (wrap64 ((x1.length : Int) - 1)) then (if (wrap64 ((x1.length : Int) - 1)) < (x1.length : Int) then (some ((rd x1 (wrap64 ((x1.length : Int) - 1))) == 1)) else (none)) else (none)) else (some false)) else (none)) else (some false))
def impl_isGame.f (k : Nat) (a0 : Int) (l1 : List Int) : Option (Bool) := impl_isGame.l0 k a0 l1 a0 0
theorem impl_isGame.mono_l : ∀ k, (∀ y0 y1 y2 y3, LeO (impl_isGame.l0 k y0 y1 y2 y3) (impl_isGame.l0 (k + 1) y0 y1 y2 y3))
  | 0 => fun _ _ _ _ r h => by simp [impl_isGame.l0] at h
  | k + 1 => by
    have ih0 := impl_isGame.mono_l k
    · intro y0 y1 y2 y3
      unfold impl_isGame.l0
      repeat' first
      | (with_reducible exact ih0 _ _ _ _)
      | (with_reducible exact impl_ways.mono _ _ _)
      | (with_reducible exact LeO.refl _)
      | (with_reducible exact LeO.none _)
      | (with_reducible refine LeO.ite ?_ ?_)
      | (with_reducible refine LeO.bind ?_ (fun _ => ?_))
      | exact ih0 _ _ _ _
      | exact impl_ways.mono _ _ _
      | exact LeO.none _
      | refine LeO.ite ?_ ?_
      | refine LeO.bind ?_ (fun _ => ?_)
theorem impl_isGame.mono : ∀ a0 a1 k, LeO (impl_isGame.f k a0 a1) (impl_isGame.f (k + 1) a0 a1) := by
  intro a0 a1 k
  have ih0 := impl_isGame.mono_l k
  unfold impl_isGame.f
  repeat' first
      | (with_reducible exact ih0 _ _ _ _)
      | (with_reducible exact impl_ways.mono _ _ _)
      | (with_reducible exact LeO.refl _)
      | (with_reducible exact LeO.none _)
      | (with_reducible refine LeO.ite ?_ ?_)
      | (with_reducible refine LeO.bind ?_ (fun _ => ?_))
      | exact ih0 _ _ _ _
      | exact impl_ways.mono _ _ _
      | exact LeO.none _
      | refine LeO.ite ?_ ?_
      | refine LeO.bind ?_ (fun _ => ?_)
set_option maxHeartbeats 8000000 in
set_option maxRecDepth 100000 in
theorem impl_isGame.calls (k : Nat) (a0 : Int) (A1 : Option Addr) (c1 : Nat) (l1 : List Int) (r : Bool) (w : World) (hr1 : Kd.C (Kd.int .i64) w A1 l1.length l1) (hc1 : l1.length ≤ c1) (h : impl_isGame.f k a0 l1 = some r) :
    Calls Try.prog 109 #[.int .i64 a0, .slice A1 l1.length c1] w fun e w' => e = .returned (.bool r) ∧ Drawn0 w w' := by
  have HR1 := Aside0.mk hr1
  have HC1 := Aside0.mk hc1
  clear hr1 hc1
  have H : (impl_isGame.l0 k a0 l1 a0 0) = some r := h
  clear h
  have H' := Aside0.mk H
  clear H
  go_enter Try.func109, Try.ntmps109
  go_wp2
  go_loopg [9] k (fun kq v9 w' => ∃ (x9_1 : Int), v9 = .int .i64 x9_1 ∧ Aside0 (impl_isGame.l0 kq a0 l1 a0 x9_1 = some r) ∧ Aside0 (kq ≤ k) ∧ Drawn0 w w')
  case atStart => exact ⟨(0), (by first | rfl | (simp; done) | (simp [*]; done)), H', ⟨Nat.le_refl _⟩, by repeat (first | exact Drawn0.refl _ | apply Drawn0.step)⟩
  case round =>
    clear H'
    try clear c1
    try clear p2
    obtain ⟨x9_1, rfl, HA, HK1, ⟨m1, rfl⟩⟩ := hrel
    cases gk with
    | zero => exact absurd HA.out (by simp [impl_isGame.l0])
    | succ k1 =>
      have H := HA.out
      clear HA
      simp only [impl_isGame.l0] at H
      by_cases c3 : x9_1 < a0
      · rw [if_pos c3] at H
        have c3b0 : decide (x9_1 < a0) = true := decide_eq_true c3
        clear c3
        replace H := Option.bind_eq_some_iff.mp H
        obtain ⟨⟨t194, t195⟩, A40, H⟩ := H
        replace H : (if t195 > 0 then (some false) else (impl_isGame.l0 k1 a0 l1 a0 (wrap64 (x9_1 + 1)))) = some r := H
        have A4 := Aside0.mk A40
        clear A40
        by_cases c5 : t195 > 0
        · rw [if_pos c5] at H
          have c5b0 : decide (0 < t195) = true := decide_eq_true c5
          clear c5
          obtain rfl := Option.some.inj H
          go_wp2_with (first | ((with_reducible refine gate_callee (f := 144) rfl ?_); refine goesL_ (some 15) rfl rfl Try.func144 (by kernel_rfl) rfl #[.slice A1 l1.length c1, .int .i64 x9_1] rfl (by (try simp only [List.map_toArray, List.map_cons, List.map_nil]); first | done | rfl | (simp only [List.length_drop, List.length_take]; rfl)) ?_; (with_reducible refine (impl_ways.calls k1 _ _ l1 x9_1 t194 t195 _ ?side1 ?side2 A4.out).mono ?_); (case side1 => repeat (first | exact HR1.out | (with_reducible refine Kd.C_alloc ?_ _) | (with_reducible refine Kd.C_drewN ?_ _) | (with_reducible refine Kd.C_drew ?_))); (case side2 => exact HC1.out); rintro e w' ⟨rfl, ⟨nd, rfl⟩⟩; refine ⟨_, rfl, ?_⟩))
          go_ret
          exact ⟨by first | rfl | (simp; done) | (simp [*]; done), by repeat (first | exact Drawn0.refl _ | apply Drawn0.step)⟩
        · rw [if_neg c5] at H
          have c5b0 : decide (0 < t195) = false := decide_eq_false c5
          clear c5
          have H' := Aside0.mk H
          clear H
          go_wp2_with (first | ((with_reducible refine gate_callee (f := 144) rfl ?_); refine goesL_ (some 15) rfl rfl Try.func144 (by kernel_rfl) rfl #[.slice A1 l1.length c1, .int .i64 x9_1] rfl (by (try simp only [List.map_toArray, List.map_cons, List.map_nil]); first | done | rfl | (simp only [List.length_drop, List.length_take]; rfl)) ?_; (with_reducible refine (impl_ways.calls k1 _ _ l1 x9_1 t194 t195 _ ?side1 ?side2 A4.out).mono ?_); (case side1 => repeat (first | exact HR1.out | (with_reducible refine Kd.C_alloc ?_ _) | (with_reducible refine Kd.C_drewN ?_ _) | (with_reducible refine Kd.C_drew ?_))); (case side2 => exact HC1.out); rintro e w' ⟨rfl, ⟨nd, rfl⟩⟩; refine ⟨_, rfl, ?_⟩))
          go_roundg k1
          case measure => have := HK1.out; omega
          case rel => exact ⟨(wrap64 (x9_1 + 1)), (by first | rfl | (simp; done) | (simp [*]; done)), H', ⟨by have := HK1.out; omega⟩, by repeat (first | exact Drawn0.refl _ | apply Drawn0.step)⟩
      · rw [if_neg c3] at H
        have c3b0 : decide (x9_1 < a0) = false := decide_eq_false c3
        clear c3
        by_cases c6 : a0 ≥ 1
        · rw [if_pos c6] at H
          have c6b0 : decide (1 ≤ a0) = true := decide_eq_true c6
          clear c6
          by_cases c7 : 0 < (l1.length : Int)
          · rw [if_pos c7] at H
            have c7b0 : decide (0 < (l1.length : Int)) = true := decide_eq_true c7
            have c7b1 : decide (0 < l1.length) = true := decide_eq_true (by omega)
            clear c7
            by_cases c8 : (rd l1 0) = 0
            · rw [if_pos c8] at H
              have c8b0 : ((rd l1 0) == 0) = true := beq_iff_eq.mpr c8
              have c8b1 : ((rd l1 0) != 0) = false := bne_eq_false_iff_eq.mpr c8
              clear c8
              obtain ⟨ji9, hji9⟩ : ∃ j_ : Int, (wrap64 ((l1.length : Int) - 1)) = j_ := ⟨_, rfl⟩
              replace H : (if 0 ≤ (ji9) then (if (ji9) < (l1.length : Int) then (some ((rd l1 (ji9)) == 1)) else (none)) else (none)) = some r := by first | (rw [hji9] at H; exact H) | (simp only [hji9] at H ⊢; exact H)
              have hji9w : (IntKind.i64.wrap ((l1.length : Int) - 1)) = ji9 := (i64_w _).trans hji9
              by_cases c10 : 0 ≤ (ji9)
              · rw [if_pos c10] at H
                have c10b0 : decide (0 ≤ (ji9)) = true := decide_eq_true c10
                clear c10
                by_cases c11 : (ji9) < (l1.length : Int)
                · rw [if_pos c11] at H
                  have c11b0 : decide ((ji9) < (l1.length : Int)) = true := decide_eq_true c11
                  clear c11
                  obtain rfl := Option.some.inj H
                  have p196 : 0 ≤ (0 : Int) := (by omega)
                  have q196 : 0 < (l1.length : Int) := of_decide_eq_true (by first | (with_reducible assumption) | assumption)
                  obtain ⟨ad196, e196, hx196_0⟩ := Kd.at_int HR1.out 0 p196 q196
                  cases e196
                  have qi196 : (0 < l1.length) = True := eq_true (by omega)
                  (try rw [show ((0 : Int)).toNat = 0 from rfl] at hx196_0)
                  (try rw [Addr.add_zero'] at hx196_0)
                  replace p196 := eq_true p196
                  replace q196 := eq_true q196
                  have p197 : 0 ≤ ((ji9) : Int) := of_decide_eq_true (by first | (with_reducible assumption) | assumption)
                  have q197 : (ji9) < (l1.length : Int) := of_decide_eq_true (by first | (with_reducible assumption) | assumption)
                  obtain ⟨ad197, e197, hx197_0⟩ := Kd.at_int HR1.out (ji9) p197 q197
                  obtain rfl : ad196 = ad197 := (by injection e197)
                  replace p197 := eq_true p197
                  replace q197 := eq_true q197
                  go_wp2
                  go_ret
                  exact ⟨by first | rfl | (simp; done) | (simp only [← hji9] <;> (first | rfl | simp)) | (simp [*]; done), by repeat (first | exact Drawn0.refl _ | apply Drawn0.step)⟩
                · rw [if_neg c11] at H
                  exact absurd H (by simp)
              · rw [if_neg c10] at H
                exact absurd H (by simp)
            · rw [if_neg c8] at H
              have c8b0 : ((rd l1 0) == 0) = false := beq_eq_false_iff_ne.mpr c8
              have c8b1 : ((rd l1 0) != 0) = true := bne_iff_ne.mpr c8
              obtain rfl := Option.some.inj H
              have p196 : 0 ≤ (0 : Int) := (by omega)
              have q196 : 0 < (l1.length : Int) := of_decide_eq_true (by first | (with_reducible assumption) | assumption)
              obtain ⟨ad196, e196, hx196_0⟩ := Kd.at_int HR1.out 0 p196 q196
              cases e196
              have qi196 : (0 < l1.length) = True := eq_true (by omega)
              (try rw [show ((0 : Int)).toNat = 0 from rfl] at hx196_0)
              (try rw [Addr.add_zero'] at hx196_0)
              replace p196 := eq_true p196
              replace q196 := eq_true q196
              go_wp2
              go_ret
              exact ⟨by first | rfl | (simp; done) | (simp [*]; done), by repeat (first | exact Drawn0.refl _ | apply Drawn0.step)⟩
          · rw [if_neg c7] at H
            exact absurd H (by simp)
        · rw [if_neg c6] at H
          have c6b0 : decide (1 ≤ a0) = false := decide_eq_false c6
          clear c6
          obtain rfl := Option.some.inj H
          go_wp2
          go_ret
          exact ⟨by first | rfl | (simp; done) | (simp [*]; done), by repeat (first | exact Drawn0.refl _ | apply Drawn0.step)⟩

/-! ### impl_smallWeights: function 110 -/
def wfrom (L : List (List Int)) : Nat → Int → List (List Int)
  | 0, _ => []
  | c + 1, x => L.map (fun v => x :: v) ++ wfrom L c (x + 1)
/-- All lists of n numbers in -m..m, in order. -/
def wts (m : Nat) : Nat → List (List Int)
  | 0 => [[]]
  | n + 1 => wfrom (wts m n) (2 * m + 1) (-(m : Int))
/-- The next list of weights; none behind the last one. -/
def wnext (m : Nat) : List Int → Option (List Int)
  | [] => none
  | x :: v => match wnext m v with
    | some v' => some (x :: v')
    | none => if x = (m : Int) then none else some ((x + 1) :: v.map fun _ => -(m : Int))
theorem wfrom_mem (L : List (List Int)) : ∀ c x v, v ∈ wfrom L c x ↔ ∃ d : Nat, d < c ∧ ∃ u, u ∈ L ∧ v = (x + d) :: u := by
  intro c
  induction c with
  | zero => intro x v; simp [wfrom]
  | succ c ih =>
    intro x v
    simp only [wfrom, List.mem_append, List.mem_map, ih]
    constructor
    · rintro (⟨u, hu, rfl⟩ | ⟨d, hd, u, hu, rfl⟩)
      · exact ⟨0, by omega, u, hu, by simp⟩
      · exact ⟨d + 1, by omega, u, hu, by congr 1; omega⟩
    · rintro ⟨d, hd, u, hu, rfl⟩
      cases d with
      | zero => exact .inl ⟨u, hu, by simp⟩
      | succ d => exact .inr ⟨d, by omega, u, hu, by congr 1; omega⟩
theorem wfrom_length (L : List (List Int)) : ∀ c x, (wfrom L c x).length = c * L.length := by
  intro c
  induction c with
  | zero => intro x; simp [wfrom]
  | succ c ih => intro x; simp only [wfrom, List.length_append, List.length_map, ih, Nat.succ_mul]; omega
theorem wts_len (m : Nat) : ∀ n, ∀ v ∈ wts m n, v.length = n := by
  intro n
  induction n with
  | zero => intro v hv; simp [wts] at hv; subst hv; rfl
  | succ n ih =>
    intro v hv
    obtain ⟨d, _, u, hu, rfl⟩ := (wfrom_mem _ _ _ _).1 hv
    simp [ih u hu]
theorem wts_bd (m : Nat) : ∀ n, ∀ v ∈ wts m n, ∀ x ∈ v, -(m : Int) ≤ x ∧ x ≤ m := by
  intro n
  induction n with
  | zero => intro v hv; simp [wts] at hv; subst hv; intro x hx; simp at hx
  | succ n ih =>
    intro v hv x hx
    obtain ⟨d, hd, u, hu, rfl⟩ := (wfrom_mem _ _ _ _).1 hv
    rcases List.mem_cons.1 hx with rfl | hx
    · omega
    · exact ih u hu x hx
theorem wts_length (m : Nat) : ∀ n, (wts m n).length = (2 * m + 1) ^ n := by
  intro n
  induction n with
  | zero => rfl
  | succ n ih => simp only [wts, wfrom_length, ih, Nat.pow_succ, Nat.mul_comm]
theorem wts_head (m : Nat) : ∀ n, (wts m n)[0]? = some (List.replicate n (-(m : Int))) := by
  intro n
  induction n with
  | zero => rfl
  | succ n ih => simp only [wts, wfrom]; rw [List.getElem?_append_left (by rw [List.length_map, wts_length]; exact Nat.pow_pos (by omega)), List.getElem?_map, ih]; rfl
theorem wnext_chain (m n : Nat) (L : List (List Int)) (h0 : L[0]? = some (List.replicate n (-(m : Int)))) (hl : ∀ v ∈ L, v.length = n) (hc : ∀ i v, L[i]? = some v → wnext m v = L[i + 1]?) :
    ∀ (c : Nat) (x : Int), x + c = m + 1 → ∀ i v, (wfrom L c x)[i]? = some v → wnext m v = (wfrom L c x)[i + 1]? := by
  intro c
  induction c with
  | zero => intro x _ i v h; simp [wfrom] at h
  | succ c ih =>
    intro x hx i v h
    simp only [wfrom] at h ⊢
    have hL : (L.map fun v => x :: v).length = L.length := by simp
    rcases Nat.lt_or_ge i L.length with hi | hi
    · rw [List.getElem?_append_left (by rw [hL]; exact hi), List.getElem?_map, List.getElem?_eq_getElem hi] at h
      simp only [Option.map_some, Option.some.injEq] at h
      subst h
      have hn := hc i _ (List.getElem?_eq_getElem hi)
      simp only [wnext]
      rcases Nat.lt_or_ge (i + 1) L.length with hj | hj
      · rw [List.getElem?_eq_getElem hj] at hn
        rw [hn, List.getElem?_append_left (by rw [hL]; exact hj), List.getElem?_map, List.getElem?_eq_getElem hj]
        rfl
      · rw [List.getElem?_eq_none hj] at hn
        rw [hn, List.getElem?_append_right (by rw [hL]; exact hj), hL, show i + 1 - L.length = 0 by omega]
        simp only
        cases c with
        | zero => simp [wfrom]; omega
        | succ c =>
          rw [if_neg (by omega)]
          simp only [wfrom]
          have hl0 : 0 < L.length := by omega
          rw [List.getElem?_append_left (by simp; omega), List.getElem?_map, h0]
          have := hl _ (List.getElem_mem hi)
          simp only [Option.map_some, List.map_const', this]
    · rw [List.getElem?_append_right (by rw [hL]; exact hi), hL] at h
      rw [List.getElem?_append_right (by rw [hL]; omega), hL, show i + 1 - L.length = i - L.length + 1 by omega]
      exact ih (x + 1) (by omega) _ v h
theorem wts_next (m : Nat) : ∀ n i v, (wts m n)[i]? = some v → wnext m v = (wts m n)[i + 1]? := by
  intro n
  induction n with
  | zero => intro i v h; cases i with
    | zero => simp [wts] at h; subst h; rfl
    | succ i => simp [wts] at h
  | succ n ih => exact wnext_chain m n _ (wts_head m n) (wts_len m n) ih _ _ (by omega)
/-- What the loop from the right does: the place at which it stops, all numbers behind it being m. -/
theorem wnext_some (m : Nat) : ∀ (v : List Int) (i : Nat), i < v.length → v.getD i 0 ≠ m → (∀ j, i < j → j < v.length → v.getD j 0 = m) →
    wnext m v = some (v.take i ++ (v.getD i 0 + 1) :: List.replicate (v.length - i - 1) (-(m : Int))) := by
  intro v
  induction v with
  | nil => intro i hi; simp at hi
  | cons x v ih =>
    intro i hi hn ha
    have hnone : ∀ v : List Int, (∀ j, j < v.length → v.getD j 0 = m) → wnext m v = none := by
      intro v
      induction v with
      | nil => intro _; rfl
      | cons y v ihv =>
        intro h
        simp only [wnext]
        rw [ihv (fun j hj => by simpa using h (j + 1) (by simpa using hj))]
        have := h 0 (by simp)
        simp at this
        simp [this]
    cases i with
    | zero =>
      simp only [wnext]
      rw [hnone v (fun j hj => by simpa using ha (j + 1) (by omega) (by simpa using hj))]
      simp at hn
      simp [hn, List.map_const']
    | succ i =>
      simp only [wnext]
      rw [ih i (by simpa using hi) (by simpa using hn) (fun j h1 h2 => by simpa using ha (j + 1) (by omega) (by simpa using h2))]
      simp
theorem wnext_none (m : Nat) : ∀ v : List Int, (∀ j, j < v.length → v.getD j 0 = m) → wnext m v = none := by
  intro v
  induction v with
  | nil => intro _; rfl
  | cons y v ihv =>
    intro h
    simp only [wnext]
    rw [ihv (fun j hj => by simpa using h (j + 1) (by simpa using hj))]
    have := h 0 (by simp)
    simp at this
    simp [this]
/-- The reference's way: lists made longer at their end. -/
def wlong (m : Nat) (L : List (List Int)) : List (List Int) := L.flatMap fun v => (List.range (2 * m + 1)).map fun d : Nat => v ++ [(d : Int) - (m : Int)]
theorem wlong_cons (m : Nat) (L : List (List Int)) (x : Int) : wlong m (L.map fun v => x :: v) = (wlong m L).map fun v => x :: v := by
  simp [wlong, List.flatMap_map, List.map_flatMap, Function.comp_def]
theorem wlong_from (m : Nat) (L : List (List Int)) : ∀ c x, wlong m (wfrom L c x) = wfrom (wlong m L) c x := by
  intro c
  induction c with
  | zero => intro x; rfl
  | succ c ih => intro x; simp only [wfrom]; rw [← ih, ← wlong_cons]; simp [wlong]
theorem wfrom_nil : ∀ c x, wfrom [[]] c x = (List.range c).map fun d : Nat => [x + (d : Int)] := by
  intro c
  induction c with
  | zero => intro x; rfl
  | succ c ih => intro x; simp only [wfrom]; rw [ih, List.range_succ_eq_map]; simp [Function.comp_def]; intro a _; omega
theorem wts_long (m : Nat) : ∀ n, wlong m (wts m n) = wts m (n + 1) := by
  intro n
  induction n with
  | zero => simp [wts, wfrom_nil, wlong]; intro a _; omega
  | succ n ih => simp only [wts]; rw [wlong_from]; rw [ih]; rfl

def row3 (xs : List Int) : Obj := .cells (nums .i64 xs).toArray 3 (0, 0)
theorem row3_cell {w : World} {g : Nat} {xs : List Int} (h : w.heap[g]? = some (row3 xs)) (j : Nat) (hj : j < xs.length) : w.cell? ⟨g, j, none⟩ = some (.int .i64 (xs.getD j 0)) := by
  rw [blk_cell h j]
  simp [nums, List.getD_eq_getElem?_getD, List.getElem?_eq_getElem hj]
theorem row3_set {w : World} {g : Nat} {xs : List Int} (h : w.heap[g]? = some (row3 xs)) (j : Nat) (x : Int) : (w.setCell ⟨g, j, none⟩ (.int .i64 x)).heap[g]? = some (row3 (xs.set j x)) := by
  rw [blk_set h]
  simp [row3, nums, List.map_set]
theorem row3_eq {w : World} {g : Nat} {xs ys : List Int} (h : w.heap[g]? = some (row3 xs)) (e : xs = ys) : w.heap[g]? = some (row3 ys) := e ▸ h
theorem rep_step (j n : Nat) (x : Int) (h : j < n) : (List.replicate j x ++ List.replicate (n - j) 0).set j x = List.replicate (j + 1) x ++ List.replicate (n - (j + 1)) 0 := by
  rw [show n - j = n - (j + 1) + 1 by omega, List.replicate_succ, List.set_append_right _ _ (by simp)]
  simp [List.replicate_succ', List.append_assoc]
theorem down_step (v : List Int) (d n : Nat) (x : Int) (hl : v.length = n) (h : d + 1 ≤ n) : (v.take (d + 1) ++ List.replicate (n - (d + 1)) x).set d x = v.take d ++ List.replicate (n - d) x := by
  rw [List.set_append_left _ _ (by simp; omega), show n - d = n - (d + 1) + 1 by omega, List.replicate_succ]
  rw [show (v.take (d + 1)).set d x = v.take d ++ [x] by
    rw [List.take_succ_eq_append_getElem (by omega), List.set_append_right _ _ (by simp; omega)]; simp [show d ≤ v.length by omega]]
  simp
theorem down_at (v : List Int) (d n : Nat) (x : Int) (hl : v.length = n) (h : d + 1 ≤ n) : (v.take (d + 1) ++ List.replicate (n - (d + 1)) x).getD d 0 = v.getD d 0 := by
  rw [List.getD_eq_getElem?_getD, List.getD_eq_getElem?_getD, List.getElem?_append_left (by simp; omega), List.getElem?_take_of_lt (by omega)]
set_option maxHeartbeats 8000000 in
set_option maxRecDepth 100000 in
theorem smallWeights_calls (n m : Nat) (hn : n ≤ 8) (hm : m ≤ 9) (G : FuncId) (fn : Func) (hG : Try.prog.funcs[G]? = some fn) (hname : (fn.name == "runtime.NumGoroutine") = false) (hbody : fn.body.isSome = true) (caps : Array Value) (w : World)
    (Inv : List (List Int) → World → Prop) (h0 : ∀ cs, Inv [] (w.alloc (.cells cs 3))) (hset : ∀ ds W i v, Inv ds W → Inv ds (W.setCell ⟨w.heap.size, i, none⟩ v)) (hdrew : ∀ ds W, Inv ds W → Inv ds W.drew)
    (hstep : ∀ (i : Nat) (v : List Int) (W : World), (wts m n)[i]? = some v → Inv ((wts m n).take i) W → W.heap[w.heap.size]? = some (row3 v) →
      Calls Try.prog G (#[.slice (some ⟨w.heap.size, 0, none⟩) n n] ++ caps) W fun e W' => e = .returned (.tuple #[]) ∧ Inv ((wts m n).take (i + 1)) W' ∧ W'.heap[w.heap.size]? = W.heap[w.heap.size]?) :
    Calls Try.prog 110 #[.int .i64 (n : Int), .int .i64 (m : Int), .func (.func G) #[] caps] w fun e w' => e = .returned (.tuple #[]) ∧ Inv (wts m n) w' := by
  have hmk := print_make (P := Try.prog) 24 3 .i64 8 Try.underlying24 info3 (by decide) n (by omega)
  have H0 := Aside0.mk h0
  have HSet := Aside0.mk hset
  have HDrew := Aside0.mk hdrew
  have HStep := Aside0.mk hstep
  clear h0 hset hdrew hstep
  go_enter Try.func110, Try.ntmps110
  go_wp2
  go_loopw [7, 13] (fun v7 v13 w' => ∃ j : Nat, v13 = .int .i64 (j : Int) ∧ Aside0 (j ≤ n) ∧ Aside0 (w'.heap[w.heap.size]? = some (row3 (List.replicate j (-(m : Int)) ++ List.replicate (n - j) 0))) ∧ Aside0 (Inv [] w')) (fun _ v13 _ => n - (intOf v13).toNat)
  case atStart => exact ⟨0, rfl, ⟨Nat.zero_le _⟩, ⟨by rw [heap_alloc_new]; refine congrArg (fun x => some (Obj.cells x 3 (0, 0))) ?_; apply Array.ext <;> simp [nums, madeCells, Nat.mod_one]⟩, ⟨H0.out _⟩⟩
  case round =>
    obtain ⟨j, rfl, HJ, HR, HI⟩ := hrel
    by_cases c : j < n
    · have c0 : decide ((j : Int) < (n : Int)) = true := decide_eq_true (by omega)
      have c1 : decide (j < n) = true := decide_eq_true c
      have HC := Aside0.mk c
      have hjn : (j : Int) ≤ 1048576 := by have := HC.out; omega
      have h0j : (0 : Int) ≤ (j : Int) := by omega
      have hfr : ∀ i, wr.frozen? ⟨w.heap.size, i, none⟩ = false := fun i => blk_frozen HR.out i
      have hcl : wr.cell? ⟨w.heap.size, j, none⟩ = some (.int .i64 0) := by
        rw [row3_cell HR.out j (by have := HC.out; simp; omega)]
        simp [List.getD_eq_getElem?_getD, List.getElem?_append_right, show 0 < n - j by have := HC.out; omega]
      go_wp2
      go_roundw
      case rel => exact ⟨j + 1, by go_num, ⟨by have := HC.out; omega⟩, ⟨row3_eq (row3_set HR.out j _) (by have e1 : wrap64 (-(m : Int)) = -(m : Int) := (by unfold wrap64; omega); (try rw [e1]); exact rep_step j n _ HC.out)⟩, ⟨HSet.out _ _ _ _ HI.out⟩⟩
      case measure => have := HC.out; simp [intOf]; omega
    · have c0 : decide ((j : Int) < (n : Int)) = false := decide_eq_false (by omega)
      have c1 : decide (j < n) = false := decide_eq_false c
      have e : j = n := by have := HJ.out; omega
      subst e
      have HR1 := row3_eq HR.out (show List.replicate j (-(m : Int)) ++ List.replicate (j - j) 0 = List.replicate j (-(m : Int)) by simp)
      have HRR := Aside0.mk HR1
      clear HR HR1 c
      go_wp2
      go_loopg [8] (wts m j).length (fun kq v8 w' => ∃ (i : Nat) (v : List Int), Aside0 ((wts m j)[i]? = some v) ∧ Aside0 (kq + i = (wts m j).length) ∧ Aside0 (w'.heap[w.heap.size]? = some (row3 v)) ∧ Aside0 (Inv ((wts m j).take i) w'))
      case atStart => exact ⟨0, _, ⟨wts_head m j⟩, ⟨rfl⟩, HRR, HI⟩
      case round =>
        clear HRR HI
        obtain ⟨i, v, HV, HK, HR, HI⟩ := hrel
        have hE := fun args W => enters_ hG hname hbody args W
        have hvl := wts_len m j v (List.mem_of_getElem? HV.out)
        have hil := (List.getElem?_eq_some_iff.1 HV.out).1
        cases gk with
        | zero => have := HK.out; omega
        | succ k1 =>
        have HIL := Aside0.mk hil
        clear hil
        go_wp2_with (first | ((with_reducible refine (HStep.out i v _ HV.out HI.out HR.out).mono ?_); rintro e w2 ⟨rfl, hi2, hb2⟩; have n0_ := Aside0.mk hi2; have n1_ := Aside0.mk (hb2.trans HR.out); clear HI HR hi2 hb2; have HI := n0_; have HR := n1_; clear n0_ n1_))
        go_loopw [8] (fun v8 w' => ∃ d : Nat, v8 = .int .i64 ((d : Int) - 1) ∧ Aside0 (d ≤ j) ∧ Aside0 (∀ x, d ≤ x → x < j → v.getD x 0 = m) ∧ Aside0 (w'.heap[w.heap.size]? = some (row3 (v.take d ++ List.replicate (j - d) (-(m : Int))))) ∧ Aside0 (Inv ((wts m j).take (i + 1)) w')) (fun v8 _ => (intOf v8 + 1).toNat)
        case atStart => exact ⟨j, by go_num, ⟨Nat.le_refl _⟩, ⟨fun x h1 h2 => by omega⟩, ⟨row3_eq HR.out (by simp [List.take_of_length_le (Nat.le_of_eq hvl)])⟩, HI⟩
        case round =>
          clear HR HI
          obtain ⟨d, rfl, HD, HM, HR, HI⟩ := hrel
          have hd := HD.out
          cases d with
          | zero =>
            have hlast : (wts m j).take (i + 1) = wts m j := by
              have h1 := wts_next m j i v HV.out
              rw [wnext_none m v (fun x hx => HM.out x (Nat.zero_le _) (by omega))] at h1
              exact List.take_of_length_le (List.getElem?_eq_none_iff.1 h1.symm)
            have HL := Aside0.mk (hlast ▸ HI.out)
            clear hlast
            go_wp2
            ((try simp only [Exit.inBlock, Exit.then]); refine bodyPost_ret (results_none rfl _ _ _) rfl ?_)
            exact ⟨rfl, HL.out⟩
          | succ d =>
            have hfr : ∀ i, wr.frozen? ⟨w.heap.size, i, none⟩ = false := fun i => blk_frozen HR.out i
            have hcl : wr.cell? ⟨w.heap.size, d, none⟩ = some (.int .i64 (v.getD d 0)) := by
              rw [row3_cell HR.out d (by simp; omega), down_at v d j _ hvl hd]
            have hj8 : (d : Int) ≤ 8 := by omega
            have hdn : d < j := by omega
            have h0d : (0 : Int) ≤ (d : Int) := by omega
            have hxb := wts_bd m j v (List.mem_of_getElem? HV.out) (v.getD d 0) (by rw [List.getD_eq_getElem?_getD, List.getElem?_eq_getElem (by omega)]; exact List.getElem_mem _)
            obtain ⟨x, hx⟩ : ∃ x, v.getD d 0 = x := ⟨_, rfl⟩
            rw [hx] at hcl hxb
            have HX := Aside0.mk hx
            clear hx
            by_cases c : x = (m : Int)
            · have c0 : (x == (m : Int)) = true := beq_iff_eq.mpr c
              go_wp2
              go_roundw
              case rel =>
                refine ⟨d, by go_num, ⟨by omega⟩, ⟨fun y h1 h2 => ?_⟩, ⟨row3_eq (row3_set HR.out d _) (by have e1 : wrap64 (-(m : Int)) = -(m : Int) := (by unfold wrap64; omega); (try rw [e1]); exact down_step v d j _ hvl hd)⟩, ⟨HSet.out _ _ _ _ HI.out⟩⟩
                rcases Nat.lt_or_ge d y with h | h
                · exact HM.out y h h2
                · rw [show y = d by omega, HX.out]; exact c
              case measure => simp [intOf]
            · have c0 : (x == (m : Int)) = false := beq_eq_false_iff_ne.mpr c
              have hnx := wts_next m j i v HV.out
              rw [wnext_some m v d (by omega) (by rw [HX.out]; exact c) (fun y h1 h2 => HM.out y h1 (by omega)), HX.out] at hnx
              have HN := Aside0.mk hnx.symm
              clear hnx
              go_wp2
              go_roundg k1
              case measure => exact Nat.lt_succ_self _
              case rel =>
                refine ⟨i + 1, _, HN, ⟨by have := HK.out; omega⟩, ⟨row3_eq (row3_set HR.out d _) ?_⟩, ⟨HSet.out _ _ _ _ HI.out⟩⟩
                have e1 : wrap64 (x + 1) = x + 1 := by unfold wrap64; omega
                (try rw [e1])
                rw [List.set_append_left _ _ (by simp; omega), List.take_succ_eq_append_getElem (by omega), List.set_append_right _ _ (by simp; omega)]
                simp [show min d j = d by omega, hvl, Nat.sub_sub]
theorem row3_C {w : World} {g : Nat} {xs : List Int} (h : w.heap[g]? = some (row3 xs)) (hl : xs.length ≤ 9223372036854775807) : Kd.C (Kd.int .i64) w (some ⟨g, 0, none⟩) xs.length xs := by
  refine ⟨rfl, hl, fun hp => ⟨_, rfl, fun j p hj => ?_⟩⟩
  have hjl := (List.getElem?_eq_some_iff.1 hj).1
  refine ⟨[.int .i64 p], rfl, rfl, fun i u hu => ?_⟩
  cases i with
  | zero =>
    simp only [List.getElem?_cons_zero, Option.some.injEq] at hu
    subst hu
    have := row3_cell h j hjl
    rw [List.getD_eq_getElem?_getD, hj] at this
    show w.cell? ((⟨g, 0, none⟩ : Addr).add (j * 1 + 0)) = _
    rw [add_plain, Nat.mul_one, Nat.add_zero]; exact this
  | succ i => simp at hu
/-- What a call made is none of three blocks that stood before it. -/
theorem Kd.R_new3 {w w1 : World} {v : Value} {xs : List Int} {o1 o2 o3 : Obj} {g1 g2 g3 : Nat} (h : Kd.R (Kd.int .i64) 3 w1 w.heap.size (fun _ => True) v xs) (h1 : w.heap[g1]? = some o1) (h2 : w.heap[g2]? = some o2) (h3 : w.heap[g3]? = some o3) :
    Kd.R (Kd.int .i64) 3 w1 w.heap.size (fun k => k ≠ g1 ∧ k ≠ g2 ∧ k ≠ g3) v xs :=
  Kd.R_mono (Kd.R_bound h) (fun k hk => by
    have e1 := blk_lt h1
    have e2 := blk_lt h2
    have e3 := blk_lt h3
    have := hk.2.1
    exact ⟨by omega, by omega, by omega⟩)
theorem foldlM_take {σ α : Type} (f : σ → α → Option σ) (l : List α) (i : Nat) (x : α) (s : σ) (h : l[i]? = some x) : (l.take (i + 1)).foldlM f s = ((l.take i).foldlM f s).bind fun t => f t x := by
  have hi := (List.getElem?_eq_some_iff.1 h).1
  rw [List.take_succ_eq_append_getElem hi, List.foldlM_append, (List.getElem?_eq_some_iff.1 h).2]
  cases List.foldlM f s (List.take i l) <;> simp
theorem foldlM_pre {σ α : Type} (f : σ → α → Option σ) (l : List α) (i : Nat) (s r : σ) (h : l.foldlM f s = some r) : ∃ t, (l.take i).foldlM f s = some t := by
  rw [← List.take_append_drop i l, List.foldlM_append] at h
  cases e : List.foldlM f s (List.take i l) with
  | none => rw [e] at h; cases h
  | some t => exact ⟨t, rfl⟩
theorem foldlM_mono {σ α : Type} {f g : σ → α → Option σ} (h : ∀ s x, LeO (f s x) (g s x)) : ∀ (l : List α) (s : σ), LeO (l.foldlM f s) (l.foldlM g s) := by
  intro l
  induction l with
  | nil => intro s; exact LeO.refl _
  | cons x l ih => intro s; simp only [List.foldlM_cons]; exact LeO.bind (h s x) fun t => ih t

/-! ### slices_Min_int_int: function 112 -/
def slices_Min_int_int.f (l0 : List Int) : Option Int := match l0 with | [] => none | x :: l => if l.length < 1048576 then some (l.foldl mn x) else none
set_option maxHeartbeats 8000000 in
set_option maxRecDepth 100000 in
theorem slices_Min_int_int.calls (A0 : Option Addr) (c0 : Nat) (l0 : List Int) (r : Int) (w : World) (hr0 : Kd.C (Kd.int .i64) w A0 l0.length l0) (hc0 : l0.length ≤ c0) (h : slices_Min_int_int.f l0 = some r) :
    Calls Try.prog 112 #[.slice A0 l0.length c0] w fun e w' => e = .returned (.int .i64 r) ∧ Below w.heap.size w w' := by
  cases l0 with
  | nil => cases h
  | cons x0 l =>
    unfold slices_Min_int_int.f at h
    simp only at h
    by_cases c : l.length < 1048576
    · rw [if_pos c] at h
      cases h
      have HR := Aside0.mk hr0
      have HL := Aside0.mk c
      have HB := Aside0.mk (Below.refl w.heap.size w)
      obtain ⟨ad, e1, hc1⟩ := Kd.at_int hr0 0 (by omega) (by simp)
      cases e1
      have e0 : ad.add (0 : Int).toNat = ad := by simp [Addr.add]
      rw [e0, show rd (x0 :: l) 0 = x0 by simp [rd]] at hc1
      have hd0 : decide (((l.length + 1 : Nat) : Int) < 1) = false := decide_eq_false (by omega)
      have hd1 : decide ((0 : Int) < ((l.length + 1 : Nat) : Int)) = true := decide_eq_true (by omega)
      have hlen : (x0 :: l).length = l.length + 1 := rfl
      have hd2 : 0 < l.length + 1 := by omega
      clear hr0 e0 c
      go_enter Try.func112, Try.ntmps112
      go_wp2
      go_loopw [3, 4] (fun v3 v4 w' => ∃ j : Nat, w' = w ∧ v4 = .int .i64 (j : Int) ∧ v3 = .int .i64 ((l.take (j - 1)).foldl mn x0) ∧ Aside0 (1 ≤ j ∧ j ≤ l.length + 1)) (fun _ v4 _ => l.length + 1 - (intOf v4).toNat)
      case atStart => exact ⟨1, rfl, rfl, rfl, ⟨Nat.le_refl _, by omega⟩⟩
      case round =>
        obtain ⟨j, rfl, rfl, rfl, HJ⟩ := hrel
        have hj1 := HJ.out.1
        by_cases c : j < l.length + 1
        · have c0 : decide ((j : Int) < (l.length : Int) + 1) = true := decide_eq_true (by omega)
          have c1 : (j : Int) < (l.length : Int) + 1 := by omega
          have c2 : j < l.length + 1 := c
          have hjb : (j : Int) ≤ 1048577 := by have := HL.out; omega
          have h0j : (0 : Int) ≤ (j : Int) := by omega
          obtain ⟨ad2, e1, hcj⟩ := Kd.at_int HR.out (j : Int) (by omega) (by simp; omega)
          cases e1
          rw [Int.toNat_natCast] at hcj
          have hx : rd (x0 :: l) (j : Int) = l.getD (j - 1) 0 := by
            obtain ⟨i, rfl⟩ : ∃ i, j = i + 1 := ⟨j - 1, by omega⟩
            simp [rd]
          rw [hx] at hcj
          have HST := Aside0.mk (show (l.take (j + 1 - 1)).foldl mn x0 = mn ((l.take (j - 1)).foldl mn x0) (l.getD (j - 1) 0) by rw [show j + 1 - 1 = (j - 1) + 1 by omega, List.take_succ_eq_append_getElem (show j - 1 < l.length by omega), List.foldl_append, List.getD_eq_getElem?_getD, List.getElem?_eq_getElem (show j - 1 < l.length by omega)]; rfl)
          obtain ⟨y, hy⟩ : ∃ y, l.getD (j - 1) 0 = y := ⟨_, rfl⟩
          rw [hy] at hcj HST
          have HC := Aside0.mk c
          clear hy hx c
          go_wp2
          go_roundw
          case rel => exact ⟨j + 1, trivial, by go_num, by rw [HST.out]; rfl, ⟨by omega, HC.out⟩⟩
          case measure => have := HC.out; simp [intOf]; omega
        · have c0 : decide ((j : Int) < (l.length : Int) + 1) = false := decide_eq_false (by omega)
          have c1 : ¬ (j : Int) < (l.length : Int) + 1 := by omega
          have c2 : ¬ j < l.length + 1 := c
          have e : j = l.length + 1 := by have := HJ.out.2; omega
          have HE := Aside0.mk e
          clear e c
          go_wp2
          go_ret
          exact ⟨by rw [HE.out, Nat.add_sub_cancel, List.take_length]; rfl, Below.refl _ _⟩
    · rw [if_neg c] at h; cases h

/-! ### impl_total: function 113 -/
def impl_total.l0 : Nat → Int → List Int → Int → Int → Option (Int)
  | 0, _, _, _, _ => none
  | k + 1, x3, x6, x7, x8 => if x8 < x7 then (if 0 ≤ x8 then (if x8 < (x6.length : Int) then (impl_total.l0 k (wrap64 (x3 + (rd x6 x8))) x6 x7 (wrap64 (x8 + 1))) else (none)) else (none)) else (some x3)
def impl_total.f (k : Nat) (l0 : List Int) : Option (Int) := impl_total.l0 k 0 l0 (l0.length : Int) 0
theorem impl_total.mono_l : ∀ k, (∀ y0 y1 y2 y3, LeO (impl_total.l0 k y0 y1 y2 y3) (impl_total.l0 (k + 1) y0 y1 y2 y3))
  | 0 => fun _ _ _ _ r h => by simp [impl_total.l0] at h
  | k + 1 => by
    have ih0 := impl_total.mono_l k
    · intro y0 y1 y2 y3
      unfold impl_total.l0
      repeat' first
      | (with_reducible exact ih0 _ _ _ _)
      | (with_reducible exact LeO.refl _)
      | (with_reducible exact LeO.none _)
      | (with_reducible refine LeO.ite ?_ ?_)
      | (with_reducible refine LeO.bind ?_ (fun _ => ?_))
      | exact ih0 _ _ _ _
      | exact LeO.none _
      | refine LeO.ite ?_ ?_
      | refine LeO.bind ?_ (fun _ => ?_)
theorem impl_total.mono : ∀ a0 k, LeO (impl_total.f k a0) (impl_total.f (k + 1) a0) := by
  intro a0 k
  have ih0 := impl_total.mono_l k
  unfold impl_total.f
  repeat' first
      | (with_reducible exact ih0 _ _ _ _)
      | (with_reducible exact LeO.refl _)
      | (with_reducible exact LeO.none _)
      | (with_reducible refine LeO.ite ?_ ?_)
      | (with_reducible refine LeO.bind ?_ (fun _ => ?_))
      | exact ih0 _ _ _ _
      | exact LeO.none _
      | refine LeO.ite ?_ ?_
      | refine LeO.bind ?_ (fun _ => ?_)
set_option maxHeartbeats 8000000 in
set_option maxRecDepth 100000 in
theorem impl_total.calls (k : Nat) (A0 : Option Addr) (c0 : Nat) (l0 : List Int) (r : Int) (w : World) (hr0 : Kd.C (Kd.int .i64) w A0 l0.length l0) (hc0 : l0.length ≤ c0) (h : impl_total.f k l0 = some r) :
    Calls Try.prog 113 #[.slice A0 l0.length c0] w fun e w' => e = .returned (.int .i64 r) ∧ Drawn0 w w' := by
  have HR0 := Aside0.mk hr0
  have HC0 := Aside0.mk hc0
  clear hr0 hc0
  have H : (impl_total.l0 k 0 l0 (l0.length : Int) 0) = some r := h
  clear h
  have H' := Aside0.mk H
  clear H
  go_enter Try.func113, Try.ntmps113
  go_wp2
  go_loopg [3, 8] k (fun kq v3 v8 w' => ∃ (x3_1 : Int) (x8_1 : Int), v3 = .int .i64 x3_1 ∧ v8 = .int .i64 x8_1 ∧ Aside0 (impl_total.l0 kq x3_1 l0 (l0.length : Int) x8_1 = some r) ∧ Aside0 (kq ≤ k) ∧ Drawn0 w w')
  case atStart => exact ⟨(0), (0), (by first | rfl | (simp; done) | (simp [*]; done)), (by first | rfl | (simp; done) | (simp [*]; done)), H', ⟨Nat.le_refl _⟩, by repeat (first | exact Drawn0.refl _ | apply Drawn0.step)⟩
  case round =>
    clear H'
    try clear c1
    obtain ⟨x3_1, x8_1, rfl, rfl, HA, HK1, ⟨m1, rfl⟩⟩ := hrel
    cases gk with
    | zero => exact absurd HA.out (by simp [impl_total.l0])
    | succ k1 =>
      have H := HA.out
      clear HA
      simp only [impl_total.l0] at H
      by_cases c2 : x8_1 < (l0.length : Int)
      · rw [if_pos c2] at H
        have c2b0 : decide (x8_1 < (l0.length : Int)) = true := decide_eq_true c2
        clear c2
        by_cases c3 : 0 ≤ x8_1
        · rw [if_pos c3] at H
          have c3b0 : decide (0 ≤ x8_1) = true := decide_eq_true c3
          clear c3
          by_cases c4 : x8_1 < (l0.length : Int)
          · rw [if_pos c4] at H
            have c4b0 : decide (x8_1 < (l0.length : Int)) = true := decide_eq_true c4
            clear c4
            have H' := Aside0.mk H
            clear H
            have p198 : 0 ≤ (x8_1 : Int) := of_decide_eq_true (by first | (with_reducible assumption) | assumption)
            have q198 : x8_1 < (l0.length : Int) := of_decide_eq_true (by first | (with_reducible assumption) | assumption)
            obtain ⟨ad198, e198, hx198_0⟩ := Kd.at_int HR0.out x8_1 p198 q198
            cases e198
            replace p198 := eq_true p198
            replace q198 := eq_true q198
            go_wp2
            go_roundg k1
            case measure => have := HK1.out; omega
            case rel => exact ⟨(wrap64 (x3_1 + (rd l0 x8_1))), (wrap64 (x8_1 + 1)), (by first | rfl | (simp; done) | (simp [*]; done)), (by first | rfl | (simp; done) | (simp [*]; done)), H', ⟨by have := HK1.out; omega⟩, by repeat (first | exact Drawn0.refl _ | apply Drawn0.step)⟩
          · rw [if_neg c4] at H
            exact absurd H (by simp)
        · rw [if_neg c3] at H
          exact absurd H (by simp)
      · rw [if_neg c2] at H
        have c2b0 : decide (x8_1 < (l0.length : Int)) = false := decide_eq_false c2
        clear c2
        obtain rfl := Option.some.inj H
        go_wp2
        go_ret
        exact ⟨by first | rfl | (simp; done) | (simp [*]; done), by repeat (first | exact Drawn0.refl _ | apply Drawn0.step)⟩

end Go.Proofs.Ythfkgbkhkahmdaa.PFnExactVoteOf
