-- Laid for this claim by a program of the session's own (wip/tool/myprint.py).
import Derived.Test.YtkgekmpnbhomgaaDoorMFnVotesx0
namespace Go.Proofs.YtkgekmpnbhomgaaDoor.PFnVotes
open Go.RowKit Go.Proofs.YtkgekmpnbhomgaaDoorW.PrintWords Go.Proofs.YtkgekmpnbhomgaaDoorW.PrintLast Go.Proofs.YtkgekmpnbhomgaaDoorW.PrintMore
attribute [local go_sem] max2_int min2_int max_two min_two max_three min_three max_four min_four
set_option linter.unusedVariables false
set_option maxHeartbeats 8000000
set_option maxRecDepth 100000
set_option linter.unusedSimpArgs false
def spec_l6Edge.l0 : Nat → Int → List Bool → Int → Bool → Int → Option (Bool)
 | 0, _, _, _, _, _ => none
 | k + 1, x0, x1, x2, x3, x9 => if x9 < x0 then (if 0 ≤ x9 then (if (((Go.bits .and .i64 (shr .i64 x2 x9) 1) == 1) == x3) = true then (if 0 ≤ (Go.bits .xor .i64 x2 (shl .i64 1 x9)) then (if (Go.bits .xor .i64 x2 (shl .i64 1 x9)) < (x1.length : Int) then (if ((rdOf false x1 (Go.bits .xor .i64 x2 (shl .i64 1 x9))) == x3) = true then (some false) else (spec_l6Edge.l0 k x0 x1 x2 x3 (wrap64 (x9 + 1)))) else (none)) else (none)) else (spec_l6Edge.l0 k x0 x1 x2 x3 (wrap64 (x9 + 1)))) else (none)) else (if 0 ≤ x2 then (if x2 < (x1.length : Int) then (some ((rdOf false x1 x2) == x3)) else (none)) else (none))
def spec_l6Edge.f (k : Nat) (a0 : Int) (l1 : List Bool) (a2 : Int) (a3 : Bool) : Option (Bool) := spec_l6Edge.l0 k a0 l1 a2 a3 0
theorem spec_l6Edge.calls (k : Nat) (a0 : Int) (A1 : Option Addr) (c1 : Nat) (l1 : List Bool) (a2 : Int) (a3 : Bool) (r : Bool) (w : World) (hr1 : Kd.C Kd.bool w A1 l1.length l1) (hc1 : l1.length ≤ c1) (h : spec_l6Edge.f k a0 l1 a2 a3 = some r) :
  Calls Tryd.prog 58 #[.int .i64 a0, .slice A1 l1.length c1, .int .i64 a2, .bool a3] w fun e w' => e = .returned (.bool r) ∧ Drawn0 w w' := by
 have HR1 := aM hr1
 have HC1 := aM hc1
 clear hr1 hc1
 have H : (spec_l6Edge.l0 k a0 l1 a2 a3 0) = some r := h
 clear h
 have H' := aM H
 clear H
 go_enter Tryd.func58, Tryd.ntmps58
 go_wp2
 go_loopg [9] k (fun kq v9 w' => ∃ (x9_1 : Int), v9 = .int .i64 x9_1 ∧ Aside0 (spec_l6Edge.l0 kq a0 l1 a2 a3 x9_1 = some r) ∧ Aside0 (kq ≤ k) ∧ Drawn0 w w')
 case atStart => exact ⟨(0), yZ, H', ⟨Nat.le_refl _⟩, by repeat (first | exact Drawn0.refl _ | apply Drawn0.step)⟩
 case round =>
  clear H'
  try clear c1; try clear p2
  obtain ⟨x9_1, rfl, HA, HK1, ⟨m1, rfl⟩⟩ := hrel
  cases gk with
  | zero => exact absurd HA.out (by simp [spec_l6Edge.l0])
  | succ k1 =>
   have H := HA.out
   clear HA
   simp only [spec_l6Edge.l0] at H
   by_cases c5 : x9_1 < a0
   ·
    rw [if_pos c5] at H
    have c5b0 := decide_eq_true c5
    clear c5
    by_cases c6 : 0 ≤ x9_1
    ·
     rw [if_pos c6] at H
     have c6b0 := eq_true c6
     have c6b1 : decide (0 ≤ x9_1) = true := decide_eq_true c6
     clear c6
     obtain ⟨ji7, hji7⟩ := yJ ((shr .i64 a2 x9_1))
     replace H : (if (((Go.bits .and .i64 (ji7) 1) == 1) == a3) = true then (if 0 ≤ (Go.bits .xor .i64 a2 (shl .i64 1 x9_1)) then (if (Go.bits .xor .i64 a2 (shl .i64 1 x9_1)) < (l1.length : Int) then (if ((rdOf false l1 (Go.bits .xor .i64 a2 (shl .i64 1 x9_1))) == a3) = true then (some false) else (spec_l6Edge.l0 k1 a0 l1 a2 a3 (wrap64 (x9_1 + 1)))) else (none)) else (none)) else (spec_l6Edge.l0 k1 a0 l1 a2 a3 (wrap64 (x9_1 + 1)))) = some r := by first | (rw [hji7] at H; exact H) | (simp only [hji7] at H ⊢; exact H)
     have hji7_ : (a2 / 2 ^ min x9_1.toNat 64) = ji7 := hji7
     have hji7z : x9_1 ≤ 64 → (a2 / 2 ^ x9_1.toNat) = ji7 := shr_small hji7
     by_cases c8 : (((Go.bits .and .i64 (ji7) 1) == 1) == a3) = true
     ·
      rw [if_pos c8] at H
      have c8b0 : (((Go.bits .and .i64 (ji7) 1) == 1) == a3) = true := c8
      (try (have c8b1 : decide (((Go.bits .and .i64 (ji7) 1) == 1) = a3) = true := by simpa using c8))
      (try (have c8b2 : (((Go.bits .and .i64 (ji7) 1) == 1) == a3) = true := by simpa using c8))
      clear c8
      have c9b0 := eq_true (yA : 0 ≤ x9_1)
      obtain ⟨ji10, hji10⟩ := yJ ((shl .i64 1 x9_1))
      replace H : (if 0 ≤ (Go.bits .xor .i64 a2 (ji10)) then (if (Go.bits .xor .i64 a2 (ji10)) < (l1.length : Int) then (if ((rdOf false l1 (Go.bits .xor .i64 a2 (ji10))) == a3) = true then (some false) else (spec_l6Edge.l0 k1 a0 l1 a2 a3 (wrap64 (x9_1 + 1)))) else (none)) else (none)) = some r := by first | (rw [hji10] at H; exact H) | (simp only [hji10] at H ⊢; exact H)
      have hji10_ : (IntKind.i64.wrap (1 * 2 ^ min x9_1.toNat 64)) = ji10 := hji10
      have hji10z : x9_1 ≤ 64 → (IntKind.i64.wrap (1 * 2 ^ x9_1.toNat)) = ji10 := shl_small hji10
      have hji10u : (IntKind.i64.wrap (2 ^ min x9_1.toNat 64)) = ji10 := by have h_ := hji10_; rw [Int.one_mul] at h_; exact h_
      have hji10v : x9_1 ≤ 64 → (IntKind.i64.wrap (2 ^ x9_1.toNat)) = ji10 := fun hle_ => by have h_ := hji10z hle_; rw [Int.one_mul] at h_; exact h_
      have hji10y : (wrap64 (1 * 2 ^ min x9_1.toNat 64)) = ji10 := (i64_w _).symm.trans hji10_
      have hji10x : x9_1 ≤ 64 → (wrap64 (1 * 2 ^ x9_1.toNat)) = ji10 := fun h_ => (i64_w _).symm.trans (hji10z h_)
      by_cases c11 : 0 ≤ (Go.bits .xor .i64 a2 (ji10))
      ·
       rw [if_pos c11] at H
       have c11b0 := decide_eq_true c11
       clear c11
       by_cases c12 : (Go.bits .xor .i64 a2 (ji10)) < (l1.length : Int)
       ·
        rw [if_pos c12] at H
        have c12b0 := decide_eq_true c12
        clear c12
        by_cases c13 : ((rdOf false l1 (Go.bits .xor .i64 a2 (ji10))) == a3) = true
        ·
         rw [if_pos c13] at H
         have c13b0 : ((rdOf false l1 (Go.bits .xor .i64 a2 (ji10))) == a3) = true := c13
         (try (have c13b1 : decide ((rdOf false l1 (Go.bits .xor .i64 a2 (ji10))) = a3) = true := by simpa using c13))
         (try (have c13b2 : ((rdOf false l1 (Go.bits .xor .i64 a2 (ji10))) == a3) = true := by simpa using c13))
         clear c13
         obtain rfl := Option.some.inj H
         have p265 : 0 ≤ ((Go.bits .xor .i64 a2 (ji10)) : Int) := yA
         have q265 : (Go.bits .xor .i64 a2 (ji10)) < (l1.length : Int) := yA
         obtain ⟨ad265, e265, hx265_0⟩ := Kd.at_bool HR1.out (Go.bits .xor .i64 a2 (ji10)) p265 q265
         cases e265
         replace p265 := eq_true p265
         replace q265 := eq_true q265
         go_wp2
         go_ret
         exact ⟨by first | rfl | (simp; done) | (simp only [← hji7, ← hji10] <;> (first | rfl | simp)) | (simp [*]; done), by repeat (first | exact Drawn0.refl _ | apply Drawn0.step)⟩
        ·
         rw [if_neg c13] at H
         have c13b0 : ((rdOf false l1 (Go.bits .xor .i64 a2 (ji10))) == a3) = false := by simpa using c13
         (try (have c13b1 : decide ((rdOf false l1 (Go.bits .xor .i64 a2 (ji10))) = a3) = false := by simpa using c13))
         (try (have c13b2 : ((rdOf false l1 (Go.bits .xor .i64 a2 (ji10))) == a3) = false := by simpa using c13))
         (try (have c13b3 : ¬ ((rdOf false l1 (Go.bits .xor .i64 a2 (ji10))) = a3) := by simpa using c13))
         clear c13
         have H' := aM H
         clear H
         have p265 : 0 ≤ ((Go.bits .xor .i64 a2 (ji10)) : Int) := yA
         have q265 : (Go.bits .xor .i64 a2 (ji10)) < (l1.length : Int) := yA
         obtain ⟨ad265, e265, hx265_0⟩ := Kd.at_bool HR1.out (Go.bits .xor .i64 a2 (ji10)) p265 q265
         cases e265
         replace p265 := eq_true p265
         replace q265 := eq_true q265
         go_wp2
         go_roundg k1
         case measure => have := HK1.out; omega
         case rel => exact ⟨(wrap64 (x9_1 + 1)), yZ, H', ⟨by have := HK1.out; omega⟩, by repeat (first | exact Drawn0.refl _ | apply Drawn0.step)⟩
       ·
        rw [if_neg c12] at H
        exact absurd H (by simp)
      ·
       rw [if_neg c11] at H
       exact absurd H (by simp)
     ·
      rw [if_neg c8] at H
      have c8b0 : (((Go.bits .and .i64 (ji7) 1) == 1) == a3) = false := by simpa using c8
      (try (have c8b1 : decide (((Go.bits .and .i64 (ji7) 1) == 1) = a3) = false := by simpa using c8))
      (try (have c8b2 : (((Go.bits .and .i64 (ji7) 1) == 1) == a3) = false := by simpa using c8))
      (try (have c8b3 : ¬ (((Go.bits .and .i64 (ji7) 1) == 1) = a3) := by simpa using c8))
      clear c8
      have H' := aM H
      clear H
      go_wp2
      go_roundg k1
      case measure => have := HK1.out; omega
      case rel => exact ⟨(wrap64 (x9_1 + 1)), yZ, H', ⟨by have := HK1.out; omega⟩, by repeat (first | exact Drawn0.refl _ | apply Drawn0.step)⟩
    ·
     rw [if_neg c6] at H
     exact absurd H (by simp)
   ·
    rw [if_neg c5] at H
    have c5b0 := decide_eq_false c5
    clear c5
    by_cases c14 : 0 ≤ a2
    ·
     rw [if_pos c14] at H
     have c14b0 := decide_eq_true c14
     clear c14
     by_cases c15 : a2 < (l1.length : Int)
     ·
      rw [if_pos c15] at H
      have c15b0 := decide_eq_true c15
      clear c15
      obtain rfl := Option.some.inj H
      have p266 : 0 ≤ (a2 : Int) := yA
      have q266 : a2 < (l1.length : Int) := yA
      obtain ⟨ad266, e266, hx266_0⟩ := Kd.at_bool HR1.out a2 p266 q266
      cases e266
      replace p266 := eq_true p266
      replace q266 := eq_true q266
      go_wp2
      go_ret
      exact ⟨by first | rfl | (simp; done) | (simp [*]; done), by repeat (first | exact Drawn0.refl _ | apply Drawn0.step)⟩
     ·
      rw [if_neg c15] at H
      exact absurd H (by simp)
    ·
     rw [if_neg c14] at H
     exact absurd H (by simp)
def spec_l6Before.l0 : Nat → List Int → List Int → Int → Option (Bool)
 | 0, _, _, _ => none
 | k + 1, x0, x1, x5 => if x5 < (x0.length : Int) then (if 0 ≤ x5 then (if x5 < (x1.length : Int) then (if (rd x0 x5) = (rd x1 x5) then (spec_l6Before.l0 k x0 x1 (wrap64 (x5 + 1))) else (some (decide ((rd x0 x5) < (rd x1 x5))))) else (none)) else (none)) else (some false)
def spec_l6Before.f (k : Nat) (l0 : List Int) (l1 : List Int) : Option (Bool) := if (l0.length : Int) = (l1.length : Int) then (spec_l6Before.l0 k l0 l1 0) else (some (decide ((l0.length : Int) < (l1.length : Int))))
theorem spec_l6Before.calls (k : Nat) (A0 : Option Addr) (c0 : Nat) (l0 : List Int) (A1 : Option Addr) (c1 : Nat) (l1 : List Int) (r : Bool) (w : World) (hr0 : Kd.C (Kd.int .i64) w A0 l0.length l0) (hc0 : l0.length ≤ c0) (hr1 : Kd.C (Kd.int .i64) w A1 l1.length l1) (hc1 : l1.length ≤ c1) (h : spec_l6Before.f k l0 l1 = some r) :
  Calls Tryd.prog 68 #[.slice A0 l0.length c0, .slice A1 l1.length c1] w fun e w' => e = .returned (.bool r) ∧ Drawn0 w w' := by
 have HR0 := aM hr0
 have HC0 := aM hc0
 clear hr0 hc0
 have HR1 := aM hr1
 have HC1 := aM hc1
 clear hr1 hc1
 have H : (if (l0.length : Int) = (l1.length : Int) then (spec_l6Before.l0 k l0 l1 0) else (some (decide ((l0.length : Int) < (l1.length : Int))))) = some r := h
 clear h
 by_cases c3 : (l0.length : Int) = (l1.length : Int)
 ·
  rw [if_pos c3] at H
  have c3b0 : ((l0.length : Int) == (l1.length : Int)) = true := beq_iff_eq.mpr c3
  have c3b1 : ((l0.length : Int) != (l1.length : Int)) = false := bne_eq_false_iff_eq.mpr c3
  have c3b2 : (l0.length == l1.length) = true := by first | simpa using c3 | (simp at c3 ⊢; omega)
  clear c3
  have H' := aM H
  clear H
  go_enter Tryd.func68, Tryd.ntmps68
  go_wp2
  repeat (go_quiet (fail); try go_wp2)
  go_loopg [5] k (fun kq v5 w' => ∃ (x5_1 : Int), v5 = .int .i64 x5_1 ∧ Aside0 (spec_l6Before.l0 kq l0 l1 x5_1 = some r) ∧ Aside0 (kq ≤ k) ∧ Drawn0 w w')
  case atStart => exact ⟨(0), yZ, H', ⟨Nat.le_refl _⟩, by repeat (first | exact Drawn0.refl _ | apply Drawn0.step)⟩
  case round =>
   clear H'
   try clear c1; try clear p2; try clear c3; try clear c3b0; try clear c3b1; try clear c3b2
   obtain ⟨x5_1, rfl, HA, HK1, ⟨m1, rfl⟩⟩ := hrel
   cases gk with
   | zero => exact absurd HA.out (by simp [spec_l6Before.l0])
   | succ k1 =>
    have H := HA.out
    clear HA
    simp only [spec_l6Before.l0] at H
    by_cases c4 : x5_1 < (l0.length : Int)
    ·
     rw [if_pos c4] at H
     have c4b0 := decide_eq_true c4
     clear c4
     by_cases c5 : 0 ≤ x5_1
     ·
      rw [if_pos c5] at H
      have c5b0 := decide_eq_true c5
      clear c5
      by_cases c6 : x5_1 < (l1.length : Int)
      ·
       rw [if_pos c6] at H
       have c6b0 := decide_eq_true c6
       clear c6
       by_cases c7 : (rd l0 x5_1) = (rd l1 x5_1)
       ·
        rw [if_pos c7] at H
        have c7b0 : ((rd l0 x5_1) == (rd l1 x5_1)) = true := beq_iff_eq.mpr c7
        have c7b1 : ((rd l0 x5_1) != (rd l1 x5_1)) = false := bne_eq_false_iff_eq.mpr c7
        clear c7
        have H' := aM H
        clear H
        have p267 : 0 ≤ (x5_1 : Int) := yA
        have q267 : x5_1 < (l0.length : Int) := yA
        obtain ⟨ad267, e267, hx267_0⟩ := Kd.at_int HR0.out x5_1 p267 q267
        cases e267
        replace p267 := eq_true p267
        replace q267 := eq_true q267
        have p268 : 0 ≤ (x5_1 : Int) := yA
        have q268 : x5_1 < (l1.length : Int) := yA
        obtain ⟨ad268, e268, hx268_0⟩ := Kd.at_int HR1.out x5_1 p268 q268
        cases e268
        replace p268 := eq_true p268
        replace q268 := eq_true q268
        go_wp2
        repeat (go_quiet (fail); try go_wp2)
        go_roundg k1
        case measure => have := HK1.out; omega
        case rel => exact ⟨(wrap64 (x5_1 + 1)), yZ, H', ⟨by have := HK1.out; omega⟩, by repeat (first | exact Drawn0.refl _ | apply Drawn0.step)⟩
       ·
        rw [if_neg c7] at H
        have c7b0 : ((rd l0 x5_1) == (rd l1 x5_1)) = false := beq_eq_false_iff_ne.mpr c7
        have c7b1 : ((rd l0 x5_1) != (rd l1 x5_1)) = true := bne_iff_ne.mpr c7
        obtain rfl := Option.some.inj H
        have p267 : 0 ≤ (x5_1 : Int) := yA
        have q267 : x5_1 < (l0.length : Int) := yA
        obtain ⟨ad267, e267, hx267_0⟩ := Kd.at_int HR0.out x5_1 p267 q267
        cases e267
        replace p267 := eq_true p267
        replace q267 := eq_true q267
        have p268 : 0 ≤ (x5_1 : Int) := yA
        have q268 : x5_1 < (l1.length : Int) := yA
        obtain ⟨ad268, e268, hx268_0⟩ := Kd.at_int HR1.out x5_1 p268 q268
        cases e268
        replace p268 := eq_true p268
        replace q268 := eq_true q268
        have p269 : 0 ≤ (x5_1 : Int) := yA
        have q269 : x5_1 < (l0.length : Int) := yA
        obtain ⟨ad269, e269, hx269_0⟩ := Kd.at_int HR0.out x5_1 p269 q269
        obtain rfl : ad267 = ad269 := (by injection e269)
        replace p269 := eq_true p269
        replace q269 := eq_true q269
        have p270 : 0 ≤ (x5_1 : Int) := yA
        have q270 : x5_1 < (l1.length : Int) := yA
        obtain ⟨ad270, e270, hx270_0⟩ := Kd.at_int HR1.out x5_1 p270 q270
        obtain rfl : ad268 = ad270 := (by injection e270)
        replace p270 := eq_true p270
        replace q270 := eq_true q270
        go_wp2
        repeat (go_quiet (fail); try go_wp2)
        go_ret
        exact ⟨by first | rfl | (simp; done) | (simp [*]; done), by repeat (first | exact Drawn0.refl _ | apply Drawn0.step)⟩
      ·
       rw [if_neg c6] at H
       exact absurd H (by simp)
     ·
      rw [if_neg c5] at H
      exact absurd H (by simp)
    ·
     rw [if_neg c4] at H
     have c4b0 := decide_eq_false c4
     clear c4
     obtain rfl := Option.some.inj H
     go_wp2
     repeat (go_quiet (fail); try go_wp2)
     go_ret
     exact ⟨by first | rfl | (simp; done) | (simp [*]; done), by repeat (first | exact Drawn0.refl _ | apply Drawn0.step)⟩
 ·
  rw [if_neg c3] at H
  have c3b0 : ((l0.length : Int) == (l1.length : Int)) = false := beq_eq_false_iff_ne.mpr c3
  have c3b1 : ((l0.length : Int) != (l1.length : Int)) = true := bne_iff_ne.mpr c3
  have c3b2 : (l0.length == l1.length) = false := by first | simpa using c3 | (simp at c3 ⊢; omega)
  obtain rfl := Option.some.inj H
  go_enter Tryd.func68, Tryd.ntmps68
  go_wp2
  repeat (go_quiet (fail); try go_wp2)
  go_ret
  exact ⟨by first | rfl | (simp; done) | (simp [*]; done), by repeat (first | exact Drawn0.refl _ | apply Drawn0.step)⟩
end Go.Proofs.YtkgekmpnbhomgaaDoor.PFnVotes
