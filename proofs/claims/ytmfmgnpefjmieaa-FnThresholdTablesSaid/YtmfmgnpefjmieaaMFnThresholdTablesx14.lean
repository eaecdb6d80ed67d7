-- Laid for this claim by a program of the session's own (wip/tool/myprint.py).
import Derived.Test.YtmfmgnpefjmieaaMFnThresholdTablesx5
import Derived.Test.YtmfmgnpefjmieaaMFnThresholdTablesx7
import Derived.Test.YtmfmgnpefjmieaaMFnThresholdTablesx10
namespace Go.Proofs.Ytmfmgnpefjmieaa.PFnThresholdTables
open Go.RowKit Go.Proofs.YtmfmgnpefjmieaaW.PrintWords Go.Proofs.YtmfmgnpefjmieaaW.PrintLast Go.Proofs.YtmfmgnpefjmieaaW.PrintMore
attribute [local go_sem] max2_int min2_int max_two min_two max_three min_three max_four min_four
set_option linter.unusedVariables false
set_option maxHeartbeats 8000000
set_option maxRecDepth 100000
set_option linter.unusedSimpArgs false
def spec_IsTrade.f (k : Nat) (a0 : Int) (l1 : List Int) (l2 : List Int) : Option (Bool × Bool) := (spec_l2Table.f k a0 l1).bind fun t497 => (if t497 = true then ((spec_l5Trade.f k a0 l1 l2).bind fun t498 => (some (t498, true))) else (some (false, false)))
theorem spec_IsTrade.calls (k : Nat) (a0 : Int) (A1 : Option Addr) (c1 : Nat) (l1 : List Int) (A2 : Option Addr) (c2 : Nat) (l2 : List Int) (r1 : Bool) (r2 : Bool) (w : World) (hr1 : Kd.C (Kd.int .i64) w A1 l1.length l1) (hc1 : l1.length ≤ c1) (hr2 : Kd.C (Kd.int .i64) w A2 l2.length l2) (hc2 : l2.length ≤ c2) (h : spec_IsTrade.f k a0 l1 l2 = some (r1, r2)) :
    Calls Try.prog 20 #[.int .i64 a0, .slice A1 l1.length c1, .slice A2 l2.length c2] w fun e w' => e = .returned (.tuple #[.bool r1, .bool r2]) ∧ Drawn0 w w' := by
 have HR1 := aM hr1
 have HC1 := aM hc1
 clear hr1 hc1
 have HR2 := aM hr2
 have HC2 := aM hc2
 clear hr2 hc2
 have H : ((spec_l2Table.f k a0 l1).bind fun t497 => (if t497 = true then ((spec_l5Trade.f k a0 l1 l2).bind fun t498 => (some (t498, true))) else (some (false, false)))) = some (r1, r2) := h
 clear h
 replace H := oB.mp H
 obtain ⟨t497, A40, H⟩ := H
 have A4 := aM A40
 clear A40
 by_cases c5 : t497 = true
 rotate_left
 ·
  replace c5 := Bool.eq_false_iff.mpr c5
  subst c5
  rw [if_neg (show ¬ (false = true) by decide)] at H
  simp only [Option.some.injEq, Prod.mk.injEq] at H
  obtain ⟨rfl, rfl⟩ := H
  go_enter Try.func20, Try.ntmps20
  go_wp2_with (first | (refine yL 10 Try.func76 #[.int .i64 a0, .slice A1 l1.length c1] ?_; (with_reducible refine (spec_l2Table.calls k a0 _ _ l1 false _ (xC HR1.out) HC1.out A4.out).mono ?_); rintro e w' ⟨rfl, ⟨nd, rfl⟩⟩; refine ⟨_, rfl, ?_⟩))
  go_ret2
  exact ⟨yZ, yDn⟩
 subst c5
 rw [if_pos rfl] at H
 replace H := oB.mp H
 obtain ⟨t498, A60, H⟩ := H
 have A6 := aM A60
 clear A60
 simp only [Option.some.injEq, Prod.mk.injEq] at H
 obtain ⟨rfl, rfl⟩ := H
 go_enter Try.func20, Try.ntmps20
 go_wp2_with (first | (refine yL 10 Try.func76 #[.int .i64 a0, .slice A1 l1.length c1] ?_; (with_reducible refine (spec_l2Table.calls k a0 _ _ l1 true _ (xC HR1.out) HC1.out A4.out).mono ?_); rintro e w' ⟨rfl, ⟨nd, rfl⟩⟩; refine ⟨_, rfl, ?_⟩) | (refine yL 15 Try.func89 #[.int .i64 a0, .slice A1 l1.length c1, .slice A2 l2.length c2] ?_; (with_reducible refine (spec_l5Trade.calls k a0 _ _ l1 _ _ l2 t498 _ (xC HR1.out) HC1.out (xC HR2.out) HC2.out A6.out).mono ?_); rintro e w' ⟨rfl, ⟨nd, rfl⟩⟩; refine ⟨_, rfl, ?_⟩))
 go_ret2
 exact ⟨yZ, yDn⟩
def laws_vInts.l0 : Nat → List Int → List Int → Int → Option (Bool)
  | 0, _, _, _ => none
  | k + 1, x0, x1, x5 => if x5 < (x0.length : Int) then (if 0 ≤ x5 then (if x5 < (x1.length : Int) then (if (rd x0 x5) = (rd x1 x5) then (laws_vInts.l0 k x0 x1 (wrap64 (x5 + 1))) else (some false)) else (none)) else (none)) else (some true)
def laws_vInts.f (k : Nat) (l0 : List Int) (l1 : List Int) : Option (Bool) := if (l0.length : Int) = (l1.length : Int) then (laws_vInts.l0 k l0 l1 0) else (some false)
theorem laws_vInts.calls (k : Nat) (A0 : Option Addr) (c0 : Nat) (l0 : List Int) (A1 : Option Addr) (c1 : Nat) (l1 : List Int) (r : Bool) (w : World) (hr0 : Kd.C (Kd.int .i64) w A0 l0.length l0) (hc0 : l0.length ≤ c0) (hr1 : Kd.C (Kd.int .i64) w A1 l1.length l1) (hc1 : l1.length ≤ c1) (h : laws_vInts.f k l0 l1 = some r) :
    Calls Try.prog 22 #[.slice A0 l0.length c0, .slice A1 l1.length c1] w fun e w' => e = .returned (.bool r) ∧ Drawn0 w w' := by
 have HR0 := aM hr0
 have HC0 := aM hc0
 clear hr0 hc0
 have HR1 := aM hr1
 have HC1 := aM hc1
 clear hr1 hc1
 have H : (if (l0.length : Int) = (l1.length : Int) then (laws_vInts.l0 k l0 l1 0) else (some false)) = some r := h
 clear h
 obtain ⟨c3, -, H⟩ | ⟨c3, -, H⟩ := yif H
 rotate_left
 ·
  have c3b0 : ((l0.length : Int) == (l1.length : Int)) = false := beq_eq_false_iff_ne.mpr c3
  have c3b1 : ((l0.length : Int) != (l1.length : Int)) = true := bne_iff_ne.mpr c3
  have c3b2 : (l0.length == l1.length) = false := by first | simpa using c3 | (simp at c3 ⊢; omega)
  obtain rfl := Option.some.inj H
  go_enter Try.func22, Try.ntmps22
  go_wp2
  repeat (go_quiet (fail); try go_wp2)
  go_ret
  exact ⟨yZ, yDn⟩
 have c3b0 : ((l0.length : Int) == (l1.length : Int)) = true := beq_iff_eq.mpr c3
 have c3b1 : ((l0.length : Int) != (l1.length : Int)) = false := bne_eq_false_iff_eq.mpr c3
 have c3b2 : (l0.length == l1.length) = true := by first | simpa using c3 | (simp at c3 ⊢; omega)
 clear c3
 have H' := aM H
 clear H
 go_enter Try.func22, Try.ntmps22
 go_wp2
 repeat (go_quiet (fail); try go_wp2)
 go_loopg [5] k (fun kq v5 w' => ∃ (x5_1 : Int), v5 = .int .i64 x5_1 ∧ Aside0 (laws_vInts.l0 kq l0 l1 x5_1 = some r) ∧ Aside0 (kq ≤ k) ∧ Drawn0 w w')
 case atStart => exact ⟨(0), yZ, H', ⟨Nat.le_refl _⟩, yDn⟩
 case round =>
  clear H'
  try clear c1
  try clear c2
  try clear c3
  try clear c3b0
  try clear c3b1
  try clear c3b2
  obtain ⟨x5_1, rfl, HA, HK1, ⟨m1, rfl⟩⟩ := hrel
  cases gk with
  | zero => exact absurd HA.out (by simp [laws_vInts.l0])
  | succ k1 =>
   have H := HA.out
   clear HA
   simp only [laws_vInts.l0] at H
   obtain ⟨-, c4b0, H⟩ | ⟨-, c4b0, H⟩ := yif H
   rotate_left
   ·
    obtain rfl := Option.some.inj H
    go_wp2
    repeat (go_quiet (fail); try go_wp2)
    go_ret
    exact ⟨yZ, yDn⟩
   obtain ⟨-, c5b0, H⟩ | ⟨c5, -, H⟩ := yif H
   rotate_left
   · exact absurd H (by simp)
   obtain ⟨-, c6b0, H⟩ | ⟨c6, -, H⟩ := yif H
   rotate_left
   · exact absurd H (by simp)
   obtain ⟨c7, -, H⟩ | ⟨c7, -, H⟩ := yif H
   rotate_left
   ·
    have c7b0 : ((rd l0 x5_1) == (rd l1 x5_1)) = false := beq_eq_false_iff_ne.mpr c7
    have c7b1 : ((rd l0 x5_1) != (rd l1 x5_1)) = true := bne_iff_ne.mpr c7
    obtain rfl := Option.some.inj H
    obtain ⟨ad499, e499, hx499_0, p499, q499⟩ := yi HR0.out x5_1
    cases e499
    obtain ⟨ad500, e500, hx500_0, p500, q500⟩ := yi HR1.out x5_1
    cases e500
    go_wp2
    repeat (go_quiet (fail); try go_wp2)
    go_ret
    exact ⟨yZ, yDn⟩
   have c7b0 : ((rd l0 x5_1) == (rd l1 x5_1)) = true := beq_iff_eq.mpr c7
   have c7b1 : ((rd l0 x5_1) != (rd l1 x5_1)) = false := bne_eq_false_iff_eq.mpr c7
   clear c7
   have H' := aM H
   clear H
   obtain ⟨ad499, e499, hx499_0, p499, q499⟩ := yi HR0.out x5_1
   cases e499
   obtain ⟨ad500, e500, hx500_0, p500, q500⟩ := yi HR1.out x5_1
   cases e500
   go_wp2
   repeat (go_quiet (fail); try go_wp2)
   go_roundg k1
   case measure => have := HK1.out; omega
   case rel => exact ⟨(wrap64 (x5_1 + 1)), yZ, H', ⟨by have := HK1.out; omega⟩, yDn⟩
def laws_vPlane.f (k : Nat) (l0_0 : List Int) (a0_1 : Int) (l1_0 : List Int) (a1_1 : Int) : Option (Bool) := (laws_vInts.f k l0_0 l1_0).bind fun t503 => (if t503 = true then (some (a0_1 == a1_1)) else (some false))
theorem laws_vPlane.calls (k : Nat) (A0_0 : Option Addr) (c0_0 : Nat) (l0_0 : List Int) (a0_1 : Int) (A1_0 : Option Addr) (c1_0 : Nat) (l1_0 : List Int) (a1_1 : Int) (r : Bool) (w : World) (hr0_0 : Kd.C (Kd.int .i64) w A0_0 l0_0.length l0_0) (hc0_0 : l0_0.length ≤ c0_0) (hr1_0 : Kd.C (Kd.int .i64) w A1_0 l1_0.length l1_0) (hc1_0 : l1_0.length ≤ c1_0) (h : laws_vPlane.f k l0_0 a0_1 l1_0 a1_1 = some r) :
    Calls Try.prog 21 #[.agg #[.slice A0_0 l0_0.length c0_0, .int .i64 a0_1], .agg #[.slice A1_0 l1_0.length c1_0, .int .i64 a1_1]] w fun e w' => e = .returned (.bool r) ∧ Below w.heap.size w w' := by
 have hu28 := Try.underlying28
 have HR0_0 := aM hr0_0
 have HC0_0 := aM hc0_0
 clear hr0_0 hc0_0
 have HR1_0 := aM hr1_0
 have HC1_0 := aM hc1_0
 clear hr1_0 hc1_0
 have HB := aM (Below.refl w.heap.size w)
 have H : ((laws_vInts.f k l0_0 l1_0).bind fun t503 => (if t503 = true then (some (a0_1 == a1_1)) else (some false))) = some r := h
 clear h
 replace H := oB.mp H
 obtain ⟨t503, A30, H⟩ := H
 have A3 := aM A30
 clear A30
 by_cases c4 : t503 = true
 ·
  subst c4
  rw [if_pos rfl] at H
  obtain rfl := Option.some.inj H
  go_enter Try.func21, Try.ntmps21
  go_wp2_with (first | (refine yB 2 #[.slice A0_0 l0_0.length c0_0, .int .i64 a0_1] 28 ?_; intro gb501 hg w5 hbox hb; have BK501 := aM (hbox); have GW501 := yV0 hg HB; have GE501 := yV0 hg HB; replace HB := yS0 HB hb; clear hb hbox hg) | (refine yB 3 #[.slice A1_0 l1_0.length c1_0, .int .i64 a1_1] 28 ?_; intro gb502 hg w6 hbox hb; have BK502 := aM (hbox); have GW502 := yV1 hg HB GE501; have GE502 := yV1 hg HB GE501; replace HB := yS1 HB GE501 hb; have NB501_502 := yX hg BK501; have NB502_501 := yY NB501_502; replace BK501 := yK BK501 hb; clear hb hbox hg; have hnb7 := NB501_502.out; have hnc7 := NB502_501.out; obtain ⟨hcz8_0, hcz8_1, hfz8_0, hfz8_1⟩ := yD2 BK501; obtain ⟨hcz9_0, hcz9_1, hfz9_0, hfz9_1⟩ := yD2 BK502) | (refine yL 9 Try.func22 #[.slice A0_0 l0_0.length c0_0, .slice A1_0 l1_0.length c1_0] ?_; (with_reducible refine (laws_vInts.calls k _ _ l0_0 _ _ l1_0 true _ (xC (Kd.C_below HR0_0.out HB.out)) HC0_0.out (xC (Kd.C_below HR1_0.out HB.out)) HC1_0.out A3.out).mono ?_); rintro e w' ⟨rfl, ⟨nd, rfl⟩⟩; refine ⟨_, rfl, ?_⟩))
  go_ret
  exact ⟨yF, xG2 HB.out GE501.out GE502.out⟩
 replace c4 := Bool.eq_false_iff.mpr c4
 subst c4
 rw [if_neg (show ¬ (false = true) by decide)] at H
 obtain rfl := Option.some.inj H
 go_enter Try.func21, Try.ntmps21
 go_wp2_with (first | (refine yB 2 #[.slice A0_0 l0_0.length c0_0, .int .i64 a0_1] 28 ?_; intro gb501 hg w10 hbox hb; have BK501 := aM (hbox); have GW501 := yV0 hg HB; have GE501 := yV0 hg HB; replace HB := yS0 HB hb; clear hb hbox hg) | (refine yB 3 #[.slice A1_0 l1_0.length c1_0, .int .i64 a1_1] 28 ?_; intro gb502 hg w11 hbox hb; have BK502 := aM (hbox); have GW502 := yV1 hg HB GE501; have GE502 := yV1 hg HB GE501; replace HB := yS1 HB GE501 hb; have NB501_502 := yX hg BK501; have NB502_501 := yY NB501_502; replace BK501 := yK BK501 hb; clear hb hbox hg; have hnb12 := NB501_502.out; have hnc12 := NB502_501.out; obtain ⟨hcz13_0, hcz13_1, hfz13_0, hfz13_1⟩ := yD2 BK501; obtain ⟨hcz14_0, hcz14_1, hfz14_0, hfz14_1⟩ := yD2 BK502) | (refine yL 9 Try.func22 #[.slice A0_0 l0_0.length c0_0, .slice A1_0 l1_0.length c1_0] ?_; (with_reducible refine (laws_vInts.calls k _ _ l0_0 _ _ l1_0 false _ (xC (Kd.C_below HR0_0.out HB.out)) HC0_0.out (xC (Kd.C_below HR1_0.out HB.out)) HC1_0.out A3.out).mono ?_); rintro e w' ⟨rfl, ⟨nd, rfl⟩⟩; refine ⟨_, rfl, ?_⟩))
 go_ret
 exact ⟨yF, xG2 HB.out GE501.out GE502.out⟩
def impl_IsTable.f (k : Nat) (a0 : Int) (l1 : List Int) : Option (Bool) := (impl_isTable.f k a0 l1).bind fun t504 => (some t504)
theorem impl_IsTable.calls (k : Nat) (a0 : Int) (A1 : Option Addr) (c1 : Nat) (l1 : List Int) (r : Bool) (w : World) (hr1 : Kd.C (Kd.int .i64) w A1 l1.length l1) (hc1 : l1.length ≤ c1) (h : impl_IsTable.f k a0 l1 = some r) :
    Calls Try.prog 23 #[.int .i64 a0, .slice A1 l1.length c1] w fun e w' => e = .returned (.bool r) ∧ Drawn0 w w' := by
  have HR1 := aM hr1
  have HC1 := aM hc1
  clear hr1 hc1
  have H : ((impl_isTable.f k a0 l1).bind fun t504 => (some t504)) = some r := h
  clear h
  replace H := oB.mp H
  obtain ⟨t504, A30, H⟩ := H
  have A3 := aM A30
  clear A30
  obtain rfl := Option.some.inj H
  go_enter Try.func23, Try.ntmps23
  go_wp2_with (first | (refine yL 7 Try.func74 #[.int .i64 a0, .slice A1 l1.length c1] ?_; (with_reducible refine (impl_isTable.calls k a0 _ _ l1 t504 _ (xC HR1.out) HC1.out A3.out).mono ?_); rintro e w' ⟨rfl, ⟨nd, rfl⟩⟩; refine ⟨_, rfl, ?_⟩))
  go_ret
  exact ⟨yZ, yDn⟩
def spec_IsTable.f (k : Nat) (a0 : Int) (l1 : List Int) : Option (Bool) := (spec_l2Table.f k a0 l1).bind fun t505 => (some t505)
theorem spec_IsTable.calls (k : Nat) (a0 : Int) (A1 : Option Addr) (c1 : Nat) (l1 : List Int) (r : Bool) (w : World) (hr1 : Kd.C (Kd.int .i64) w A1 l1.length l1) (hc1 : l1.length ≤ c1) (h : spec_IsTable.f k a0 l1 = some r) :
    Calls Try.prog 24 #[.int .i64 a0, .slice A1 l1.length c1] w fun e w' => e = .returned (.bool r) ∧ Drawn0 w w' := by
  have HR1 := aM hr1
  have HC1 := aM hc1
  clear hr1 hc1
  have H : ((spec_l2Table.f k a0 l1).bind fun t505 => (some t505)) = some r := h
  clear h
  replace H := oB.mp H
  obtain ⟨t505, A30, H⟩ := H
  have A3 := aM A30
  clear A30
  obtain rfl := Option.some.inj H
  go_enter Try.func24, Try.ntmps24
  go_wp2_with (first | (refine yL 7 Try.func76 #[.int .i64 a0, .slice A1 l1.length c1] ?_; (with_reducible refine (spec_l2Table.calls k a0 _ _ l1 t505 _ (xC HR1.out) HC1.out A3.out).mono ?_); rintro e w' ⟨rfl, ⟨nd, rfl⟩⟩; refine ⟨_, rfl, ?_⟩))
  go_ret
  exact ⟨yZ, yDn⟩
end Go.Proofs.Ytmfmgnpefjmieaa.PFnThresholdTables
