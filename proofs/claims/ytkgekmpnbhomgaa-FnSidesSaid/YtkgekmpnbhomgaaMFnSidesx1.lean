-- Laid for this claim by a program of the session's own (wip/tool/myprint.py).
import Derived.Test.YtkgekmpnbhomgaaMFnSidesx0
namespace Go.Proofs.Ytkgekmpnbhomgaa.PFnSides
open Go.RowKit Go.Proofs.YtkgekmpnbhomgaaW.PrintWords Go.Proofs.YtkgekmpnbhomgaaW.PrintLast Go.Proofs.YtkgekmpnbhomgaaW.PrintMore
attribute [local go_sem] max2_int min2_int max_two min_two max_three min_three max_four min_four
set_option linter.unusedVariables false
set_option maxHeartbeats 8000000
set_option maxRecDepth 100000
set_option linter.unusedSimpArgs false
def laws_rBig.f (l0 : List Int) : Option (Bool) := some (decide ((l0.length : Int) > 65536))
theorem laws_rBig.calls (A0 : Option Addr) (c0 : Nat) (l0 : List Int) (r : Bool) (w : World) (hr0 : Kd.C (Kd.int .u8) w A0 l0.length l0) (hc0 : l0.length ≤ c0) (h : laws_rBig.f l0 = some r) :
    Calls Try.prog 6 #[.slice A0 l0.length c0] w fun e w' => e = .returned (.bool r) ∧ Drawn0 w w' := by
  have HR0 := aM hr0; have HC0 := aM hc0; clear hr0 hc0; have H : (some (decide ((l0.length : Int) > 65536))) = some r := h; clear h; obtain rfl := Option.some.inj H; go_enter Try.func6, Try.ntmps6; go_wp2; go_ret; exact ⟨yZ, yDn⟩
def impl_within.f (a0 : Int) (a1 : Int) (a2 : Int) : Option (Bool) := if a0 ≥ a1 then (some (decide (a0 ≤ a2))) else (some false)
theorem impl_within.calls (a0 : Int) (a1 : Int) (a2 : Int) (r : Bool) (w : World) (h : impl_within.f a0 a1 a2 = some r) :
    Calls Try.prog 55 #[.int .i64 a0, .int .i64 a1, .int .i64 a2] w fun e w' => e = .returned (.bool r) ∧ Drawn0 w w' := by
 have H : (if a0 ≥ a1 then (some (decide (a0 ≤ a2))) else (some false)) = some r := h; clear h; obtain ⟨c4, -, H⟩ | ⟨c4, -, H⟩ := yif H
 ·
  have c4b0 : decide (a1 ≤ a0) = true := decide_eq_true c4; clear c4; obtain rfl := Option.some.inj H; go_enter Try.func55, Try.ntmps55; go_wp2; go_ret; exact ⟨yZ, yDn⟩
 have c4b0 : decide (a1 ≤ a0) = false := decide_eq_false c4; clear c4; obtain rfl := Option.some.inj H; go_enter Try.func55, Try.ntmps55; go_wp2; go_ret; exact ⟨yZ, yDn⟩
def impl_allWithin.l0 : Nat → Int → Int → List Int → Int → Int → Option (Bool)
  | 0, _, _, _, _, _ => none
  | k + 1, x1, x2, x9, x10, x11 => if x11 < x10 then (if 0 ≤ x11 then (if x11 < (x9.length : Int) then ((impl_within.f (rd x9 x11) x1 x2).bind fun t102 => (if t102 = true then (impl_allWithin.l0 k x1 x2 x9 x10 (wrap64 (x11 + 1))) else (some false))) else (none)) else (none)) else (some true)
def impl_allWithin.f (k : Nat) (l0 : List Int) (a1 : Int) (a2 : Int) : Option (Bool) := impl_allWithin.l0 k a1 a2 l0 (l0.length : Int) 0
theorem impl_allWithin.calls (k : Nat) (A0 : Option Addr) (c0 : Nat) (l0 : List Int) (a1 : Int) (a2 : Int) (r : Bool) (w : World) (hr0 : Kd.C (Kd.int .i64) w A0 l0.length l0) (hc0 : l0.length ≤ c0) (h : impl_allWithin.f k l0 a1 a2 = some r) :
    Calls Try.prog 56 #[.slice A0 l0.length c0, .int .i64 a1, .int .i64 a2] w fun e w' => e = .returned (.bool r) ∧ Drawn0 w w' := by
 have HR0 := aM hr0; have HC0 := aM hc0; clear hr0 hc0; have H : (impl_allWithin.l0 k a1 a2 l0 (l0.length : Int) 0) = some r := h; clear h; have H' := aM H; clear H; go_enter Try.func56, Try.ntmps56; go_wp2; go_loopg [11] k (fun kq v11 w' => ∃ (x11_1 : Int), v11 = .int .i64 x11_1 ∧ Aside0 (impl_allWithin.l0 kq a1 a2 l0 (l0.length : Int) x11_1 = some r) ∧ Aside0 (kq ≤ k) ∧ Drawn0 w w'); case atStart => exact ⟨(0), yZ, H', ⟨Nat.le_refl _⟩, yDn⟩
 case round =>
  clear H'; obtain ⟨x11_1, rfl, HA, HK1, ⟨m1, rfl⟩⟩ := hrel; cases gk with
  | zero => exact absurd HA.out (by simp [impl_allWithin.l0])
  | succ k1 =>
   have H := HA.out; clear HA; simp only [impl_allWithin.l0] at H; obtain ⟨-, c4b0, H⟩ | ⟨-, c4b0, H⟩ := yif H
   rotate_left
   ·
    obtain rfl := Option.some.inj H; go_wp2; go_ret; exact ⟨yZ, yDn⟩
   obtain ⟨-, c5b0, H⟩ | ⟨c5, -, H⟩ := yif H
   rotate_left
   · exact absurd H (by simp)
   obtain ⟨-, c6b0, H⟩ | ⟨c6, -, H⟩ := yif H
   rotate_left
   · exact absurd H (by simp)
   replace H := oA H; obtain ⟨t102, A7, H⟩ := H; by_cases c8 : t102 = true
   rotate_left
   ·
    replace c8 := Bool.eq_false_iff.mpr c8; subst c8; rw [if_neg (show ¬ (false = true) by decide)] at H; obtain rfl := Option.some.inj H; obtain ⟨ad101, e101, hx101_0, p101, q101⟩ := yi HR0.out x11_1; cases e101
    go_wp2_with (first | (refine yL 18 Try.func55 #[.int .i64 (rd l0 x11_1), .int .i64 a1, .int .i64 a2] ?_; (with_reducible refine (impl_within.calls (rd l0 x11_1) a1 a2 false _ A7.out).mono ?_); rintro e w' ⟨rfl, ⟨nd, rfl⟩⟩; refine ⟨_, rfl, ?_⟩)); go_ret; exact ⟨yZ, yDn⟩
   subst c8; rw [if_pos rfl] at H; have H' := aM H; clear H; obtain ⟨ad101, e101, hx101_0, p101, q101⟩ := yi HR0.out x11_1; cases e101
   go_wp2_with (first | (refine yL 18 Try.func55 #[.int .i64 (rd l0 x11_1), .int .i64 a1, .int .i64 a2] ?_; (with_reducible refine (impl_within.calls (rd l0 x11_1) a1 a2 true _ A7.out).mono ?_); rintro e w' ⟨rfl, ⟨nd, rfl⟩⟩; refine ⟨_, rfl, ?_⟩)); go_roundg k1; case measure => have := HK1.out; omega
   case rel => exact ⟨(wrap64 (x11_1 + 1)), yZ, H', ⟨by have := HK1.out; omega⟩, yDn⟩
def impl_IsPlane.f (k : Nat) (l0_0 : List Int) (a0_1 : Int) : Option (Bool) := (impl_within.f (l0_0.length : Int) 1 4).bind fun t104 => (if t104 = true then ((impl_allWithin.f k l0_0 (-99) 99).bind fun t105 => (if t105 = true then ((impl_within.f a0_1 (-99) 99).bind fun t106 => (some t106)) else (some false))) else (some false))
theorem impl_IsPlane.calls (k : Nat) (A0_0 : Option Addr) (c0_0 : Nat) (l0_0 : List Int) (a0_1 : Int) (r : Bool) (w : World) (hr0_0 : Kd.C (Kd.int .i64) w A0_0 l0_0.length l0_0) (hc0_0 : l0_0.length ≤ c0_0) (h : impl_IsPlane.f k l0_0 a0_1 = some r) :
    Calls Try.prog 10 #[.agg #[.slice A0_0 l0_0.length c0_0, .int .i64 a0_1]] w fun e w' => e = .returned (.bool r) ∧ Below w.heap.size w w' := by
 have hu26 := Try.underlying26; have HR0_0 := aM hr0_0; have HC0_0 := aM hc0_0; clear hr0_0 hc0_0; have HB := aM (Below.refl w.heap.size w); have H : ((impl_within.f (l0_0.length : Int) 1 4).bind fun t104 => (if t104 = true then ((impl_allWithin.f k l0_0 (-99) 99).bind fun t105 => (if t105 = true then ((impl_within.f a0_1 (-99) 99).bind fun t106 => (some t106)) else (some false))) else (some false))) = some r := h; clear h; replace H := oA H; obtain ⟨t104, A2, H⟩ := H; by_cases c3 : t104 = true
 rotate_left
 ·
  replace c3 := Bool.eq_false_iff.mpr c3; subst c3; rw [if_neg (show ¬ (false = true) by decide)] at H; obtain rfl := Option.some.inj H; go_enter Try.func10, Try.ntmps10; go_wp2_with (first | (refine yB 1 #[.slice A0_0 l0_0.length c0_0, .int .i64 a0_1] 26 ?_; intro gb103 hg w11 hbox hb; have BK103 := aM (hbox); have GW103 := yV0 hg HB; have GE103 := yV0 hg HB; replace HB := yS0 HB hb; clear hb hbox hg; obtain ⟨hcz12_0, hcz12_1, hfz12_0, hfz12_1⟩ := yD2 BK103) | (refine yL 6 Try.func55 #[.int .i64 (l0_0.length : Int), .int .i64 1, .int .i64 4] ?_; (with_reducible refine (impl_within.calls (l0_0.length : Int) 1 4 false _ A2.out).mono ?_); rintro e w' ⟨rfl, ⟨nd, rfl⟩⟩; refine ⟨_, rfl, ?_⟩)); go_ret; exact ⟨yF, xG1 HB.out GE103.out⟩
 subst c3; rw [if_pos rfl] at H; replace H := oA H; obtain ⟨t105, A4, H⟩ := H; by_cases c5 : t105 = true
 rotate_left
 ·
  replace c5 := Bool.eq_false_iff.mpr c5; subst c5; rw [if_neg (show ¬ (false = true) by decide)] at H; obtain rfl := Option.some.inj H; go_enter Try.func10, Try.ntmps10; go_wp2_with (first | (refine yB 1 #[.slice A0_0 l0_0.length c0_0, .int .i64 a0_1] 26 ?_; intro gb103 hg w9 hbox hb; have BK103 := aM (hbox); have GW103 := yV0 hg HB; have GE103 := yV0 hg HB; replace HB := yS0 HB hb; clear hb hbox hg; obtain ⟨hcz10_0, hcz10_1, hfz10_0, hfz10_1⟩ := yD2 BK103) | (refine yL 6 Try.func55 #[.int .i64 (l0_0.length : Int), .int .i64 1, .int .i64 4] ?_; (with_reducible refine (impl_within.calls (l0_0.length : Int) 1 4 true _ A2.out).mono ?_); rintro e w' ⟨rfl, ⟨nd, rfl⟩⟩; refine ⟨_, rfl, ?_⟩) | (go_at_call 56; (with_reducible refine (impl_allWithin.calls k _ _ l0_0 (-99) 99 false _ (xC (Kd.C_below HR0_0.out (xG1 HB.out GE103.out))) HC0_0.out A4.out).mono ?_); rintro e w' ⟨rfl, ⟨nd, rfl⟩⟩)); go_ret; exact ⟨yF, xG1 HB.out GE103.out⟩
 subst c5; rw [if_pos rfl] at H; replace H := oA H; obtain ⟨t106, A6, H⟩ := H; obtain rfl := Option.some.inj H; go_enter Try.func10, Try.ntmps10; go_wp2_with (first | (refine yB 1 #[.slice A0_0 l0_0.length c0_0, .int .i64 a0_1] 26 ?_; intro gb103 hg w7 hbox hb; have BK103 := aM (hbox); have GW103 := yV0 hg HB; have GE103 := yV0 hg HB; replace HB := yS0 HB hb; clear hb hbox hg; obtain ⟨hcz8_0, hcz8_1, hfz8_0, hfz8_1⟩ := yD2 BK103) | (refine yL 6 Try.func55 #[.int .i64 (l0_0.length : Int), .int .i64 1, .int .i64 4] ?_; (with_reducible refine (impl_within.calls (l0_0.length : Int) 1 4 true _ A2.out).mono ?_); rintro e w' ⟨rfl, ⟨nd, rfl⟩⟩; refine ⟨_, rfl, ?_⟩) | (go_at_call 56; (with_reducible refine (impl_allWithin.calls k _ _ l0_0 (-99) 99 true _ (xC (Kd.C_below HR0_0.out (xG1 HB.out GE103.out))) HC0_0.out A4.out).mono ?_); rintro e w' ⟨rfl, ⟨nd, rfl⟩⟩) | (go_at_call 55; (with_reducible refine (impl_within.calls a0_1 (-99) 99 t106 _ A6.out).mono ?_); rintro e w' ⟨rfl, ⟨nd, rfl⟩⟩)); go_ret; exact ⟨yF, xG1 HB.out GE103.out⟩
def laws_rInts.l0 : Nat → List Int → List Int → Int → Option (Bool)
  | 0, _, _, _ => none
  | k + 1, x0, x1, x5 => if x5 < (x0.length : Int) then (if 0 ≤ x5 then (if x5 < (x1.length : Int) then (if (rd x0 x5) = (rd x1 x5) then (laws_rInts.l0 k x0 x1 (wrap64 (x5 + 1))) else (some false)) else (none)) else (none)) else (some true)
def laws_rInts.f (k : Nat) (l0 : List Int) (l1 : List Int) : Option (Bool) := if (l0.length : Int) = (l1.length : Int) then (laws_rInts.l0 k l0 l1 0) else (some false)
theorem laws_rInts.calls (k : Nat) (A0 : Option Addr) (c0 : Nat) (l0 : List Int) (A1 : Option Addr) (c1 : Nat) (l1 : List Int) (r : Bool) (w : World) (hr0 : Kd.C (Kd.int .i64) w A0 l0.length l0) (hc0 : l0.length ≤ c0) (hr1 : Kd.C (Kd.int .i64) w A1 l1.length l1) (hc1 : l1.length ≤ c1) (h : laws_rInts.f k l0 l1 = some r) :
    Calls Try.prog 11 #[.slice A0 l0.length c0, .slice A1 l1.length c1] w fun e w' => e = .returned (.bool r) ∧ Drawn0 w w' := by
 have HR0 := aM hr0; have HC0 := aM hc0; clear hr0 hc0; have HR1 := aM hr1; have HC1 := aM hc1; clear hr1 hc1; have H : (if (l0.length : Int) = (l1.length : Int) then (laws_rInts.l0 k l0 l1 0) else (some false)) = some r := h; clear h; obtain ⟨c3, -, H⟩ | ⟨c3, -, H⟩ := yif H
 rotate_left
 ·
  have c3b0 : ((l0.length : Int) == (l1.length : Int)) = false := beq_eq_false_iff_ne.mpr c3; have c3b1 : ((l0.length : Int) != (l1.length : Int)) = true := bne_iff_ne.mpr c3; have c3b2 : (l0.length == l1.length) = false := by first | simpa using c3 | (simp at c3 ⊢; omega)
  obtain rfl := Option.some.inj H; go_enter Try.func11, Try.ntmps11; go_wp2
  repeat (go_quiet (fail); try go_wp2)
  go_ret; exact ⟨yZ, yDn⟩
 have c3b0 : ((l0.length : Int) == (l1.length : Int)) = true := beq_iff_eq.mpr c3; have c3b1 : ((l0.length : Int) != (l1.length : Int)) = false := bne_eq_false_iff_eq.mpr c3; have c3b2 : (l0.length == l1.length) = true := by first | simpa using c3 | (simp at c3 ⊢; omega)
 clear c3; have H' := aM H; clear H; go_enter Try.func11, Try.ntmps11; go_wp2
 repeat (go_quiet (fail); try go_wp2)
 go_loopg [5] k (fun kq v5 w' => ∃ (x5_1 : Int), v5 = .int .i64 x5_1 ∧ Aside0 (laws_rInts.l0 kq l0 l1 x5_1 = some r) ∧ Aside0 (kq ≤ k) ∧ Drawn0 w w'); case atStart => exact ⟨(0), yZ, H', ⟨Nat.le_refl _⟩, yDn⟩
 case round =>
  clear H'; try clear c1
  try clear c3
  try clear c3b0
  try clear c3b1
  try clear c3b2
  obtain ⟨x5_1, rfl, HA, HK1, ⟨m1, rfl⟩⟩ := hrel; cases gk with
  | zero => exact absurd HA.out (by simp [laws_rInts.l0])
  | succ k1 =>
   have H := HA.out; clear HA; simp only [laws_rInts.l0] at H; obtain ⟨-, c4b0, H⟩ | ⟨-, c4b0, H⟩ := yif H
   rotate_left
   ·
    obtain rfl := Option.some.inj H; go_wp2
    repeat (go_quiet (fail); try go_wp2)
    go_ret; exact ⟨yZ, yDn⟩
   obtain ⟨-, c5b0, H⟩ | ⟨c5, -, H⟩ := yif H
   rotate_left
   · exact absurd H (by simp)
   obtain ⟨-, c6b0, H⟩ | ⟨c6, -, H⟩ := yif H
   rotate_left
   · exact absurd H (by simp)
   obtain ⟨c7, -, H⟩ | ⟨c7, -, H⟩ := yif H
   rotate_left
   ·
    have c7b0 : ((rd l0 x5_1) == (rd l1 x5_1)) = false := beq_eq_false_iff_ne.mpr c7; have c7b1 : ((rd l0 x5_1) != (rd l1 x5_1)) = true := bne_iff_ne.mpr c7; obtain rfl := Option.some.inj H; obtain ⟨ad107, e107, hx107_0, p107, q107⟩ := yi HR0.out x5_1; cases e107
    obtain ⟨ad108, e108, hx108_0, p108, q108⟩ := yi HR1.out x5_1; cases e108
    go_wp2
    repeat (go_quiet (fail); try go_wp2)
    go_ret; exact ⟨yZ, yDn⟩
   have c7b0 : ((rd l0 x5_1) == (rd l1 x5_1)) = true := beq_iff_eq.mpr c7; have c7b1 : ((rd l0 x5_1) != (rd l1 x5_1)) = false := bne_eq_false_iff_eq.mpr c7; clear c7; have H' := aM H; clear H; obtain ⟨ad107, e107, hx107_0, p107, q107⟩ := yi HR0.out x5_1; cases e107
   obtain ⟨ad108, e108, hx108_0, p108, q108⟩ := yi HR1.out x5_1; cases e108
   go_wp2
   repeat (go_quiet (fail); try go_wp2)
   go_roundg k1; case measure => have := HK1.out; omega
   case rel => exact ⟨(wrap64 (x5_1 + 1)), yZ, H', ⟨by have := HK1.out; omega⟩, yDn⟩
def impl_IsPoint.f (k : Nat) (l0 : List Int) : Option (Bool) := (impl_within.f (l0.length : Int) 1 4).bind fun t109 => (if t109 = true then ((impl_allWithin.f k l0 (-9) 9).bind fun t110 => (some t110)) else (some false))
theorem impl_IsPoint.calls (k : Nat) (A0 : Option Addr) (c0 : Nat) (l0 : List Int) (r : Bool) (w : World) (hr0 : Kd.C (Kd.int .i64) w A0 l0.length l0) (hc0 : l0.length ≤ c0) (h : impl_IsPoint.f k l0 = some r) :
    Calls Try.prog 33 #[.slice A0 l0.length c0] w fun e w' => e = .returned (.bool r) ∧ Drawn0 w w' := by
 have HR0 := aM hr0; have HC0 := aM hc0; clear hr0 hc0; have H : ((impl_within.f (l0.length : Int) 1 4).bind fun t109 => (if t109 = true then ((impl_allWithin.f k l0 (-9) 9).bind fun t110 => (some t110)) else (some false))) = some r := h; clear h; replace H := oA H; obtain ⟨t109, A2, H⟩ := H; by_cases c3 : t109 = true
 rotate_left
 ·
  replace c3 := Bool.eq_false_iff.mpr c3; subst c3; rw [if_neg (show ¬ (false = true) by decide)] at H; obtain rfl := Option.some.inj H; go_enter Try.func33, Try.ntmps33; go_wp2_with (first | (refine yL 5 Try.func55 #[.int .i64 (l0.length : Int), .int .i64 1, .int .i64 4] ?_; (with_reducible refine (impl_within.calls (l0.length : Int) 1 4 false _ A2.out).mono ?_); rintro e w' ⟨rfl, ⟨nd, rfl⟩⟩; refine ⟨_, rfl, ?_⟩)); go_ret; exact ⟨yZ, yDn⟩
 subst c3; rw [if_pos rfl] at H; replace H := oA H; obtain ⟨t110, A4, H⟩ := H; obtain rfl := Option.some.inj H; go_enter Try.func33, Try.ntmps33; go_wp2_with (first | (refine yL 5 Try.func55 #[.int .i64 (l0.length : Int), .int .i64 1, .int .i64 4] ?_; (with_reducible refine (impl_within.calls (l0.length : Int) 1 4 true _ A2.out).mono ?_); rintro e w' ⟨rfl, ⟨nd, rfl⟩⟩; refine ⟨_, rfl, ?_⟩) | (go_at_call 56; (with_reducible refine (impl_allWithin.calls k _ _ l0 (-9) 9 t110 _ (xC HR0.out) HC0.out A4.out).mono ?_); rintro e w' ⟨rfl, ⟨nd, rfl⟩⟩)); go_ret; exact ⟨yZ, yDn⟩
def impl_isLabel.f (a0 : Int) : Option (Bool) := if a0 = 1 then (some true) else (some (a0 == (-1)))
theorem impl_isLabel.calls (a0 : Int) (r : Bool) (w : World) (h : impl_isLabel.f a0 = some r) :
    Calls Try.prog 82 #[.int .i64 a0] w fun e w' => e = .returned (.bool r) ∧ Drawn0 w w' := by
 have H : (if a0 = 1 then (some true) else (some (a0 == (-1)))) = some r := h; clear h; obtain ⟨c2, -, H⟩ | ⟨c2, -, H⟩ := yif H
 rotate_left
 ·
  have c2b0 : (a0 == 1) = false := beq_eq_false_iff_ne.mpr c2; have c2b1 : (a0 != 1) = true := bne_iff_ne.mpr c2; obtain rfl := Option.some.inj H; go_enter Try.func82, Try.ntmps82; go_wp2; go_ret; exact ⟨yZ, yDn⟩
 have c2b0 : (a0 == 1) = true := beq_iff_eq.mpr c2; have c2b1 : (a0 != 1) = false := bne_eq_false_iff_eq.mpr c2; clear c2; obtain rfl := Option.some.inj H; go_enter Try.func82, Try.ntmps82; go_wp2; go_ret; exact ⟨yZ, yDn⟩
mutual
def impl_IsSample.j0 : Nat → Bool → List (List Int) → List Int → Option (Bool)
  | 0, _, _, _ => none
  | k + 1, x17, x112000, x112001 => if x17 = true then (some false) else (impl_IsSample.l0 k x112000 (x112000.length : Int) 0 x112000 x112001)
def impl_IsSample.l0 : Nat → List (List Int) → Int → Int → List (List Int) → List Int → Option (Bool)
  | 0, _, _, _, _, _ => none
  | k + 1, x19, x20, x21, x112000, x112001 => if x21 < x20 then (if 0 ≤ x21 then (if x21 < (x19.length : Int) then ((impl_IsPoint.f k (rd_L2 x19 x21)).bind fun t113 => (if t113 = true then (if 0 < (x112000.length : Int) then (if ((rd_L2 x19 x21).length : Int) = ((rd_L2 x112000 0).length : Int) then (if x21 < (x112001.length : Int) then ((impl_isLabel.f (rd x112001 x21)).bind fun t116 => (if t116 = true then (impl_IsSample.l0 k x19 x20 (wrap64 (x21 + 1)) x112000 x112001) else (some false))) else (none)) else (some false)) else (none)) else (some false))) else (none)) else (none)) else (some true)
end
def impl_IsSample.f (k : Nat) (l0_0 : List (List Int)) (l0_1 : List Int) : Option (Bool) := if (l0_0.length : Int) > 16 then (impl_IsSample.j0 k true l0_0 l0_1) else (impl_IsSample.j0 k ((l0_1.length : Int) != (l0_0.length : Int)) l0_0 l0_1)
theorem impl_IsSample.calls (k : Nat) (A0_0 : Option Addr) (c0_0 : Nat) (l0_0 : List (List Int)) (A0_1 : Option Addr) (c0_1 : Nat) (l0_1 : List Int) (r : Bool) (w : World) (hr0_0 : Kd.C (Kd.slice 3 (Kd.int .i64)) w A0_0 l0_0.length l0_0) (hc0_0 : l0_0.length ≤ c0_0) (hr0_1 : Kd.C (Kd.int .i64) w A0_1 l0_1.length l0_1) (hc0_1 : l0_1.length ≤ c0_1) (h : impl_IsSample.f k l0_0 l0_1 = some r) :
    Calls Try.prog 35 #[.agg #[.slice A0_0 l0_0.length c0_0, .slice A0_1 l0_1.length c0_1]] w fun e w' => e = .returned (.bool r) ∧ Below w.heap.size w w' := by
 have hu36 := Try.underlying36; have HR0_0 := aM hr0_0; have HC0_0 := aM hc0_0; clear hr0_0 hc0_0; have HR0_1 := aM hr0_1; have HC0_1 := aM hc0_1; clear hr0_1 hc0_1; have HB := aM (Below.refl w.heap.size w); have H : (if (l0_0.length : Int) > 16 then (impl_IsSample.j0 k true l0_0 l0_1) else (impl_IsSample.j0 k ((l0_1.length : Int) != (l0_0.length : Int)) l0_0 l0_1)) = some r := h; clear h; have HC2 := aM H; clear H; go_enter Try.func35, Try.ntmps35; go_upto_region 1 with (first | ((with_reducible refine gate_dst (N := 1) rfl ?_); (try (refine gate_guard (by rfl) ?_; dsimp only)); refine yB 1 #[.slice A0_0 l0_0.length c0_0, .slice A0_1 l0_1.length c0_1] 36 ?_; intro gb111 hg w3 hbox hb; have BK111 := aM (hbox); have GW111 := yV0 hg HB; have GE111 := yV0 hg HB; replace HB := yS0 HB hb; clear hb hbox hg)); (try simp only [Act.put, sA, sZ, sU]); go_cut [17] (fun v17 wc => ∃ (kq : Nat) (x17_1 : Bool), v17 = .bool x17_1 ∧ Aside0 (impl_IsSample.j0 kq x17_1 l0_0 l0_1 = some r) ∧ Aside0 (kq ≤ k) ∧ Aside0 (wc.heap[gb111]? = some (.cells #[(.slice A0_0 l0_0.length c0_0), (.slice A0_1 l0_1.length c0_1)] 36 (0, 0))) ∧ Aside0 (Below w.heap.size w wc))
 case first =>
  have H := HC2.out; clear HC2; obtain ⟨c4, -, H⟩ | ⟨c4, -, H⟩ := yif H
  ·
   have c4b0 : decide (16 < (l0_0.length : Int)) = true := decide_eq_true c4; have c4b1 : decide (16 < l0_0.length) = true := decide_eq_true (by omega); clear c4; (first | rw [c4b0] | (simp only [i64_w, i32_w]; rw [c4b0]) | rw [c4b1] | skip); have H' := aM H; clear H; have hcz5_0 := yC0 BK111; have hcz5_1 := yC1 BK111; have hfz5_0 := bF BK111.out 0; have hfz5_1 := bF BK111.out 1; go_wp2; go_meet; case rel => exact ⟨_, (true), yZ, H', ⟨yM⟩, ⟨xB BK111.out⟩, ⟨xG1 HB.out GE111.out⟩⟩
  have c4b0 : decide (16 < (l0_0.length : Int)) = false := decide_eq_false c4; have c4b1 : decide (16 < l0_0.length) = false := decide_eq_false (by omega); clear c4; (first | rw [c4b0] | (simp only [i64_w, i32_w]; rw [c4b0]) | rw [c4b1] | skip); have H' := aM H; clear H; have hcz6_0 := yC0 BK111; have hcz6_1 := yC1 BK111; have hfz6_0 := bF BK111.out 0; have hfz6_1 := bF BK111.out 1; go_wp2; go_meet; case rel => exact ⟨_, (((l0_1.length : Int) != (l0_0.length : Int))), yZ, H', ⟨yM⟩, ⟨xB BK111.out⟩, ⟨xG1 HB.out GE111.out⟩⟩
 case rest =>
  clear HC2; try clear c3
  try clear c4
  try clear c4b0
  try clear c4b1
  try clear hcz5_0
  try clear hcz5_1
  try clear hcz6_0
  try clear hcz6_1
  try clear hfz5_0
  try clear hfz5_1
  try clear hfz6_0
  try clear hfz6_1
  obtain ⟨kq, x17_1, rfl, HA, HJ1, BK111, HB⟩ := hcut; cases kq with
  | zero => exact absurd HA.out (by simp [impl_IsSample.j0])
  | succ kj1 =>
   have H := HA.out; clear HA; simp only [impl_IsSample.j0] at H; by_cases c7 : x17_1 = true
   ·
    subst c7; rw [if_pos rfl] at H; obtain rfl := Option.some.inj H; go_wp2; go_ret; exact ⟨yF, xG1 HB.out GE111.out⟩
   replace c7 := Bool.eq_false_iff.mpr c7; subst c7; rw [if_neg (show ¬ (false = true) by decide)] at H; have H' := aM H; clear H; have hcz8_0 : wc.cell? ⟨gb111, 0, none⟩ = some (.slice A0_0 l0_0.length c0_0) := (bC BK111.out 0).trans rfl; have hcz8_1 : wc.cell? ⟨gb111, 1, none⟩ = some (.slice A0_1 l0_1.length c0_1) := (bC BK111.out 1).trans rfl; have hfz8_0 := bF BK111.out 0; have hfz8_1 := bF BK111.out 1; go_wp2; go_loopg [21] kj1 (fun kq v21 w' => ∃ (x21_2 : Int), v21 = .int .i64 x21_2 ∧ Aside0 (impl_IsSample.l0 kq l0_0 (l0_0.length : Int) x21_2 l0_0 l0_1 = some r) ∧ Aside0 (kq ≤ kj1) ∧ Aside0 (w'.heap[gb111]? = some (.cells #[(.slice A0_0 l0_0.length c0_0), (.slice A0_1 l0_1.length c0_1)] 36 (0, 0))) ∧ Aside0 (Below w.heap.size w w')); case atStart => exact ⟨(0), yZ, H', ⟨Nat.le_refl _⟩, ⟨xB BK111.out⟩, ⟨xG1 HB.out GE111.out⟩⟩
   case round =>
    clear H'; try clear c7
    try clear hcz8_0
    try clear hcz8_1
    try clear hfz8_0
    try clear hfz8_1
    obtain ⟨x21_2, rfl, HA, HK2, BK111, HB⟩ := hrel; cases gk with
    | zero => exact absurd HA.out (by simp [impl_IsSample.l0])
    | succ k2 =>
     have H := HA.out; clear HA; simp only [impl_IsSample.l0] at H; obtain ⟨-, c9b0, H⟩ | ⟨-, c9b0, H⟩ := yif H
     rotate_left
     ·
      obtain rfl := Option.some.inj H; go_wp2; go_ret; exact ⟨yF, xG1 HB.out GE111.out⟩
     obtain ⟨-, c10b0, H⟩ | ⟨c10, -, H⟩ := yif H
     rotate_left
     · exact absurd H (by simp)
     obtain ⟨-, c11b0, H⟩ | ⟨c11, -, H⟩ := yif H
     rotate_left
     · exact absurd H (by simp)
     replace H := oA H; obtain ⟨t113, A12, H⟩ := H; by_cases c13 : t113 = true
     rotate_left
     ·
      replace c13 := Bool.eq_false_iff.mpr c13; subst c13; rw [if_neg (show ¬ (false = true) by decide)] at H; obtain rfl := Option.some.inj H; have p112 : 0 ≤ (x21_2 : Int) := yA; have q112 : x21_2 < (l0_0.length : Int) := yA; obtain ⟨ad112, A112_0, c112_0, e112, hx112_0, hl112_0, hi112_0⟩ := at_L2 HR0_0.out x21_2 p112 q112; cases e112
      replace hx112_0 := yc HB hx112_0; have HR112_0 := aM hi112_0; have HC112_0 := aM hl112_0; clear hi112_0 hl112_0; replace p112 := eq_true p112; replace q112 := eq_true q112; go_wp2_with (first | (refine yL 27 Try.func33 #[.slice A112_0 (rd_L2 l0_0 x21_2).length c112_0] ?_; (with_reducible refine (impl_IsPoint.calls k2 _ _ (rd_L2 l0_0 x21_2) false _ (xC (Kd.C_below HR112_0.out HB.out)) HC112_0.out A12.out).mono ?_); rintro e w' ⟨rfl, ⟨nd, rfl⟩⟩; refine ⟨_, rfl, ?_⟩)); go_ret; exact ⟨yF, xG1 HB.out GE111.out⟩
     subst c13; rw [if_pos rfl] at H; obtain ⟨c14, c14b0, H⟩ | ⟨c14, -, H⟩ := yif H
     rotate_left
     · exact absurd H (by simp)
     have c14b1 : decide (0 < l0_0.length) = true := decide_eq_true (by omega); clear c14; obtain ⟨c15, -, H⟩ | ⟨c15, -, H⟩ := yif H
     rotate_left
     ·
      have c15b0 : (((rd_L2 l0_0 x21_2).length : Int) == ((rd_L2 l0_0 0).length : Int)) = false := beq_eq_false_iff_ne.mpr c15; have c15b1 : (((rd_L2 l0_0 x21_2).length : Int) != ((rd_L2 l0_0 0).length : Int)) = true := bne_iff_ne.mpr c15; have c15b2 : ((rd_L2 l0_0 x21_2).length == (rd_L2 l0_0 0).length) = false := by first | simpa using c15 | (simp at c15 ⊢; omega)
      obtain rfl := Option.some.inj H; have p112 : 0 ≤ (x21_2 : Int) := yA; have q112 : x21_2 < (l0_0.length : Int) := yA; obtain ⟨ad112, A112_0, c112_0, e112, hx112_0, hl112_0, hi112_0⟩ := at_L2 HR0_0.out x21_2 p112 q112; cases e112
      replace hx112_0 := yc HB hx112_0; have HR112_0 := aM hi112_0; have HC112_0 := aM hl112_0; clear hi112_0 hl112_0; replace p112 := eq_true p112; replace q112 := eq_true q112; go_wp2_with (first | (refine yL 27 Try.func33 #[.slice A112_0 (rd_L2 l0_0 x21_2).length c112_0] ?_; (with_reducible refine (impl_IsPoint.calls k2 _ _ (rd_L2 l0_0 x21_2) true _ (xC (Kd.C_below HR112_0.out HB.out)) HC112_0.out A12.out).mono ?_); rintro e w' ⟨rfl, ⟨nd, rfl⟩⟩; refine ⟨_, rfl, ?_⟩; have hcz21_0 : wr.cell? ⟨gb111, 0, none⟩ = some (.slice (some ad112) l0_0.length c0_0) := (bC BK111.out 0).trans rfl; have hcz21_1 : wr.cell? ⟨gb111, 1, none⟩ = some (.slice A0_1 l0_1.length c0_1) := (bC BK111.out 1).trans rfl; have hfz21_0 := bF BK111.out 0; have hfz21_1 := bF BK111.out 1; have p114 : 0 ≤ (0 : Int) := (by omega); have q114 : 0 < (l0_0.length : Int) := yA; obtain ⟨ad114, A114_0, c114_0, e114, hx114_0, hl114_0, hi114_0⟩ := at_L2 HR0_0.out 0 p114 q114; obtain rfl : ad112 = ad114 := (by injection e114); have qi114 : (0 < l0_0.length) = True := eq_true (by omega); (try rw [show ((0 : Int)).toNat = 0 from rfl] at hx114_0); (try rw [Addr.add_zero'] at hx114_0); replace hx114_0 := yc HB hx114_0; have HR114_0 := aM hi114_0; have HC114_0 := aM hl114_0; clear hi114_0 hl114_0; replace p114 := eq_true p114; replace q114 := eq_true q114)); go_ret; exact ⟨yF, xG1 HB.out GE111.out⟩
     have c15b0 : (((rd_L2 l0_0 x21_2).length : Int) == ((rd_L2 l0_0 0).length : Int)) = true := beq_iff_eq.mpr c15; have c15b1 : (((rd_L2 l0_0 x21_2).length : Int) != ((rd_L2 l0_0 0).length : Int)) = false := bne_eq_false_iff_eq.mpr c15; have c15b2 : ((rd_L2 l0_0 x21_2).length == (rd_L2 l0_0 0).length) = true := by first | simpa using c15 | (simp at c15 ⊢; omega)
     clear c15; obtain ⟨-, c16b0, H⟩ | ⟨c16, -, H⟩ := yif H
     rotate_left
     · exact absurd H (by simp)
     replace H := oA H; obtain ⟨t116, A17, H⟩ := H; by_cases c18 : t116 = true
     rotate_left
     ·
      replace c18 := Bool.eq_false_iff.mpr c18; subst c18; rw [if_neg (show ¬ (false = true) by decide)] at H; obtain rfl := Option.some.inj H; have p112 : 0 ≤ (x21_2 : Int) := yA; have q112 : x21_2 < (l0_0.length : Int) := yA; obtain ⟨ad112, A112_0, c112_0, e112, hx112_0, hl112_0, hi112_0⟩ := at_L2 HR0_0.out x21_2 p112 q112; cases e112
      replace hx112_0 := yc HB hx112_0; have HR112_0 := aM hi112_0; have HC112_0 := aM hl112_0; clear hi112_0 hl112_0; replace p112 := eq_true p112; replace q112 := eq_true q112; go_wp2_with (first | (refine yL 27 Try.func33 #[.slice A112_0 (rd_L2 l0_0 x21_2).length c112_0] ?_; (with_reducible refine (impl_IsPoint.calls k2 _ _ (rd_L2 l0_0 x21_2) true _ (xC (Kd.C_below HR112_0.out HB.out)) HC112_0.out A12.out).mono ?_); rintro e w' ⟨rfl, ⟨nd, rfl⟩⟩; refine ⟨_, rfl, ?_⟩; have hcz20_0 : wr.cell? ⟨gb111, 0, none⟩ = some (.slice (some ad112) l0_0.length c0_0) := (bC BK111.out 0).trans rfl; have hcz20_1 : wr.cell? ⟨gb111, 1, none⟩ = some (.slice A0_1 l0_1.length c0_1) := (bC BK111.out 1).trans rfl; have hfz20_0 := bF BK111.out 0; have hfz20_1 := bF BK111.out 1; have p114 : 0 ≤ (0 : Int) := (by omega); have q114 : 0 < (l0_0.length : Int) := yA; obtain ⟨ad114, A114_0, c114_0, e114, hx114_0, hl114_0, hi114_0⟩ := at_L2 HR0_0.out 0 p114 q114; obtain rfl : ad112 = ad114 := (by injection e114); have qi114 : (0 < l0_0.length) = True := eq_true (by omega); (try rw [show ((0 : Int)).toNat = 0 from rfl] at hx114_0); (try rw [Addr.add_zero'] at hx114_0); replace hx114_0 := yc HB hx114_0; have HR114_0 := aM hi114_0; have HC114_0 := aM hl114_0; clear hi114_0 hl114_0; replace p114 := eq_true p114; replace q114 := eq_true q114; have p115 : 0 ≤ (x21_2 : Int) := yA; have q115 : x21_2 < (l0_1.length : Int) := yA; obtain ⟨ad115, e115, hx115_0⟩ := Kd.at_int HR0_1.out x21_2 p115 q115; cases e115; replace hx115_0 := yc HB hx115_0; replace p115 := eq_true p115; replace q115 := eq_true q115) | (go_at_call 82; (with_reducible refine (impl_isLabel.calls (rd l0_1 x21_2) false _ A17.out).mono ?_); rintro e w' ⟨rfl, ⟨nd, rfl⟩⟩)); go_ret; exact ⟨yF, xG1 HB.out GE111.out⟩
     subst c18; rw [if_pos rfl] at H; have H' := aM H; clear H; have p112 : 0 ≤ (x21_2 : Int) := yA; have q112 : x21_2 < (l0_0.length : Int) := yA; obtain ⟨ad112, A112_0, c112_0, e112, hx112_0, hl112_0, hi112_0⟩ := at_L2 HR0_0.out x21_2 p112 q112; cases e112
     replace hx112_0 := yc HB hx112_0; have HR112_0 := aM hi112_0; have HC112_0 := aM hl112_0; clear hi112_0 hl112_0; replace p112 := eq_true p112; replace q112 := eq_true q112; go_wp2_with (first | (refine yL 27 Try.func33 #[.slice A112_0 (rd_L2 l0_0 x21_2).length c112_0] ?_; (with_reducible refine (impl_IsPoint.calls k2 _ _ (rd_L2 l0_0 x21_2) true _ (xC (Kd.C_below HR112_0.out HB.out)) HC112_0.out A12.out).mono ?_); rintro e w' ⟨rfl, ⟨nd, rfl⟩⟩; refine ⟨_, rfl, ?_⟩; have hcz19_0 : wr.cell? ⟨gb111, 0, none⟩ = some (.slice (some ad112) l0_0.length c0_0) := (bC BK111.out 0).trans rfl; have hcz19_1 : wr.cell? ⟨gb111, 1, none⟩ = some (.slice A0_1 l0_1.length c0_1) := (bC BK111.out 1).trans rfl; have hfz19_0 := bF BK111.out 0; have hfz19_1 := bF BK111.out 1; have p114 : 0 ≤ (0 : Int) := (by omega); have q114 : 0 < (l0_0.length : Int) := yA; obtain ⟨ad114, A114_0, c114_0, e114, hx114_0, hl114_0, hi114_0⟩ := at_L2 HR0_0.out 0 p114 q114; obtain rfl : ad112 = ad114 := (by injection e114); have qi114 : (0 < l0_0.length) = True := eq_true (by omega); (try rw [show ((0 : Int)).toNat = 0 from rfl] at hx114_0); (try rw [Addr.add_zero'] at hx114_0); replace hx114_0 := yc HB hx114_0; have HR114_0 := aM hi114_0; have HC114_0 := aM hl114_0; clear hi114_0 hl114_0; replace p114 := eq_true p114; replace q114 := eq_true q114; have p115 : 0 ≤ (x21_2 : Int) := yA; have q115 : x21_2 < (l0_1.length : Int) := yA; obtain ⟨ad115, e115, hx115_0⟩ := Kd.at_int HR0_1.out x21_2 p115 q115; cases e115; replace hx115_0 := yc HB hx115_0; replace p115 := eq_true p115; replace q115 := eq_true q115) | (go_at_call 82; (with_reducible refine (impl_isLabel.calls (rd l0_1 x21_2) true _ A17.out).mono ?_); rintro e w' ⟨rfl, ⟨nd, rfl⟩⟩)); go_roundg k2; case measure => have := HJ1.out; have := HK2.out; omega
     case rel => exact ⟨(wrap64 (x21_2 + 1)), yZ, H', ⟨by have := HJ1.out; have := HK2.out; omega⟩, ⟨xB BK111.out⟩, ⟨xG1 HB.out GE111.out⟩⟩
end Go.Proofs.Ytkgekmpnbhomgaa.PFnSides
