-- Laid for this claim by a program of the session's own (wip/tool/myprint.py).
import Derived.Test.YtgidnmpppbkamaaMFnExactIsWeightedx0
import Derived.Test.YtgidnmpppbkamaaMFnExactIsWeightedx3
import Derived.Test.YtgidnmpppbkamaaMFnExactIsWeightedx4
import Derived.Test.YtgidnmpppbkamaaMFnExactIsWeightedx5
namespace Go.Proofs.Ytgidnmpppbkamaa.PFnExactIsWeighted
open Go.RowKit Go.Proofs.YtgidnmpppbkamaaW.PrintWords Go.Proofs.YtgidnmpppbkamaaW.PrintLast Go.Proofs.YtgidnmpppbkamaaW.PrintMore
attribute [local go_sem] max2_int min2_int max_two min_two max_three min_three max_four min_four
set_option linter.unusedVariables false
set_option linter.unusedSimpArgs false
mutual
def spec_l4Relation.l0 : Nat → Int → List (List Int) → List Int → Int → Int → Option (List Int × Bool)
 | 0, _, _, _, _, _ => none
 | k + 1, x1, x6, x7, x8, x9 => (spec_l1Has.f k x7 x8).bind fun t187 => (if t187 = true then (spec_l4Relation.l0 k x1 x6 x7 (wrap64 (x8 + 1)) x9) else (spec_l4Relation.l1 k x1 x6 x7 x8 x9 0))
def spec_l4Relation.l1 : Nat → Int → List (List Int) → List Int → Int → Int → Int → Option (List Int × Bool)
 | 0, _, _, _, _, _, _ => none
 | k + 1, x1, x6, x7, x8, x9, x10 => if x10 < (x7.length : Int) then (if 0 ≤ x10 then (if x10 < (x6.length : Int) then (if 0 ≤ (rd x7 x10) then (if (rd x7 x10) < ((rd_L1 x6 x10).length : Int) then ((spec_l1Most.f (rd (rd_L1 x6 x10) (rd x7 x10)) (wrap64 (-(rd (rd_L1 x6 x10) (rd x7 x10))))).bind fun t194 => ((spec_l2Gcd.f k x9 t194).bind fun t195 => (if t195 = 0 then (none) else (spec_l4Relation.l1 k x1 x6 x7 x8 (wrap64 ((wrap64 (Int.tdiv x9 t195)) * t194)) (wrap64 (x10 + 1)))))) else (none)) else (none)) else (none)) else (none)) else (if 0 ≤ x1 then (if (x1 : Int).toNat ≤ 35184372088832 then ((some (List.replicate (x1 : Int).toNat 0 : List Int)).bind fun y196 => (if 0 ≤ x8 then (if x8 < (y196.length : Int) then (spec_l4Relation.l2 k x6 x7 x8 x9 (y196.set (x8 : Int).toNat x9) 0) else (none)) else (none))) else (none)) else (none))
def spec_l4Relation.l2 : Nat → List (List Int) → List Int → Int → Int → List Int → Int → Option (List Int × Bool)
 | 0, _, _, _, _, _, _ => none
 | k + 1, x6, x7, x8, x9, x12, x13 => if x13 < (x7.length : Int) then (if 0 ≤ x13 then (if x13 < (x6.length : Int) then (if 0 ≤ x8 then (if x8 < ((rd_L1 x6 x13).length : Int) then (if 0 ≤ (rd x7 x13) then (if (rd x7 x13) < ((rd_L1 x6 x13).length : Int) then (if (rd (rd_L1 x6 x13) (rd x7 x13)) = 0 then (none) else (if (rd x7 x13) < (x12.length : Int) then (spec_l4Relation.l2 k x6 x7 x8 x9 (x12.set ((rd x7 x13) : Int).toNat (wrap64 ((wrap64 (-(rd (rd_L1 x6 x13) x8))) * (wrap64 (Int.tdiv x9 (rd (rd_L1 x6 x13) (rd x7 x13))))))) (wrap64 (x13 + 1))) else (none))) else (none)) else (none)) else (none)) else (none)) else (none)) else (none)) else ((spec_l4Divided.f k x12).bind fun t207 => (some (t207, true)))
end
def spec_l4Relation.f (k : Nat) (l0 : List (List Int)) (a1 : Int) : Option (List Int × Bool) := (spec_l4Reduced.f k l0 a1).bind fun bt178 => (if (bt178.2.length : Int) = (wrap64 (a1 - 1)) then (spec_l4Relation.l0 k a1 bt178.1 bt178.2 0 1) else (some ((([] : List Int)), false)))
def spec_l4Relation.T10 : Bool × List (List Nat × List Nat) := (true, [([], []), ([], []), ([0, 1], [0, 1]), ([2], [2]), ([], []), ([], []), ([4, 5], [4, 5]), ([6], [6]), ([3, 7], [3, 7]), ([8], [8]), ([], []), ([], []), ([10, 11], [10, 11]), ([12], [12]), ([], []), ([], []), ([14, 15], [14, 15]), ([16], [16]), ([13, 17], [13, 17]), ([18], [18]), ([19], [19]), ([9, 20], [9, 20]), ([21, 21, 0, 1, 2, 3, 4, 5, 6, 7, 8, 9, 10, 11, 12, 13, 14, 15, 16, 17, 18, 19, 20, 21], [21])])
def spec_l4Relation.B10 : List Nat := [0, 0, 3, 7, 0, 0, 48, 112, 255, 511, 0, 0, 3072, 7168, 0, 0, 49152, 114688, 261120, 523264, 1047552, 2097151, 4194303]
theorem spec_l4Relation.tab10 : rtab .any (opsOf Try.f73 10) = spec_l4Relation.T10 := by kernel_rfl
theorem spec_l4Relation.bits10 : waitsOk spec_l4Relation.T10.2 spec_l4Relation.B10 = true := by kernel_rfl
def spec_l4Relation.T17 : Bool × List (List Nat × List Nat) := (true, [([], []), ([], []), ([], []), ([1, 2], [1, 2]), ([3], [3]), ([], []), ([], []), ([5, 6], [5, 6]), ([7], [7]), ([], []), ([8, 9], [8, 9]), ([10], [10]), ([11], [11]), ([], []), ([], []), ([], []), ([14, 15], [14, 15]), ([16], [16]), ([], []), ([], []), ([18, 19], [18, 19]), ([20], [20]), ([17, 21], [17, 21]), ([22], [22]), ([13, 23], [13, 23]), ([12, 24], [12, 24]), ([0, 4, 0, 1, 2, 3, 4, 5, 6, 7, 8, 9, 10, 11, 12, 13, 14, 15, 16, 17, 18, 19, 20, 21, 22, 23, 24, 25], [0, 4]), ([26, 25, 0, 1, 2, 3, 4, 5, 6, 7, 8, 9, 10, 11, 12, 13, 14, 15, 16, 17, 18, 19, 20, 21, 22, 23, 24, 25], [25, 26])])
def spec_l4Relation.B17 : List Nat := [0, 0, 0, 6, 14, 0, 0, 96, 224, 0, 992, 2016, 4064, 0, 0, 0, 49152, 114688, 0, 0, 786432, 1835008, 4177920, 8372224, 16769024, 33554400, 67108863, 134217727]
theorem spec_l4Relation.tab17 : rtab .any (opsOf Try.f73 17) = spec_l4Relation.T17 := by kernel_rfl
theorem spec_l4Relation.bits17 : waitsOk spec_l4Relation.T17.2 spec_l4Relation.B17 = true := by kernel_rfl
set_option maxHeartbeats 8000000 in
set_option maxRecDepth 100000 in
theorem spec_l4Relation.calls (k : Nat) (A0 : Option Addr) (c0 : Nat) (l0 : List (List Int)) (a1 : Int) (r1 : List Int) (r2 : Bool) (w : World) (hr0 : Kd.C (Kd.slice 3 (Kd.int .i64)) w A0 l0.length l0) (hc0 : l0.length ≤ c0) (h : spec_l4Relation.f k l0 a1 = some (r1, r2)) :
  Calls Try.prog 73 #[.slice A0 l0.length c0, .int .i64 a1] w fun e w' => ∃ v0_ : Value, e = .returned (.tuple #[v0_, .bool r2]) ∧ Kd.R (Kd.int .i64) 3 w' w.heap.size (fun _ => True) v0_ r1 ∧ Below w.heap.size w w' := by
 have HR0 := aM hr0
 have HC0 := aM hc0
 clear hr0 hc0
 have HB := aM (Below.refl w.heap.size w)
 have H : ((spec_l4Reduced.f k l0 a1).bind fun bt178 => (if (bt178.2.length : Int) = (wrap64 (a1 - 1)) then (spec_l4Relation.l0 k a1 bt178.1 bt178.2 0 1) else (some ((([] : List Int)), false)))) = some (r1, r2) := h
 clear h
 replace H := oB.mp H
 obtain ⟨⟨t178, t179⟩, A30, H⟩ := H
 replace H : (if (t179.length : Int) = (wrap64 (a1 - 1)) then (spec_l4Relation.l0 k a1 t178 t179 0 1) else (some ((([] : List Int)), false))) = some (r1, r2) := H
 have A3 := aM A30
 clear A30
 by_cases c4 : (t179.length : Int) = (wrap64 (a1 - 1))
 ·
  rw [if_pos c4] at H
  have c4b0 : ((t179.length : Int) == (wrap64 (a1 - 1))) = true := beq_iff_eq.mpr c4
  have c4b1 : ((t179.length : Int) != (wrap64 (a1 - 1))) = false := bne_eq_false_iff_eq.mpr c4
  clear c4
  have H' := aM H
  clear H
  go_enter Try.func73, Try.ntmps73
  go_wp2_with (first | ((with_reducible refine gate_callee (f := 96) rfl ?_); refine goesL_ (some 17) rfl rfl Try.func96 (by kernel_rfl) rfl #[.slice A0 l0.length c0, .int .i64 a1] rfl xL ?_; (with_reducible refine (spec_l4Reduced.calls k _ _ l0 a1 t178 t179 _ ?side1 ?side2 A3.out).mono ?_); (case side1 => exact xC HR0.out); (case side2 => exact HC0.out); rintro e w5 ⟨v180, v182, rfl, ho0, ho1, hb⟩; refine ⟨_, rfl, ?_⟩; have HO181 := aM (Kd.S_lower ho0 (below_size (xH HB.out))); have HO183 := aM (Kd.R_lower ho1 (below_size (xH HB.out))); replace HB := aM (below_step (xH HB.out) hb); (try clear hb; try clear hb2; try clear hk; try clear hi; try clear ho0; try clear ho1); obtain ⟨Ao6, co6, eo6⟩ := Kd.R_slice HO183.out; subst eo6))
  go_loopg [8] k (fun kq v8 w' => ∃ (x8_1 : Int), v8 = .int .i64 x8_1 ∧ Aside0 (spec_l4Relation.l0 kq a1 t178 t179 x8_1 1 = some (r1, r2)) ∧ Aside0 (kq ≤ k) ∧ Aside0 (Kd.S (Kd.slice 3 (Kd.int .i64)) 22 w' w.heap.size (fun k_ => some k_ ≠ ((.slice Ao6 t179.length co6) : Value).ownBlock) v180 t178) ∧ Aside0 (Kd.R (Kd.int .i64) 3 w' w.heap.size (fun _ => True) (.slice Ao6 t179.length co6) t179) ∧ Aside0 (Below w.heap.size w w'))
  case atStart => exact ⟨(0), (by first | rfl | (simp; done) | (simp [*]; done)), H', ⟨Nat.le_refl _⟩, ⟨xS HO181.out⟩, ⟨xR HO183.out⟩, ⟨xH HB.out⟩⟩
  case round =>
   clear H'
   try clear c4; try clear c4b0; try clear c4b1
   obtain ⟨x8_1, rfl, HA, HK1, HO_6, HO_7, HB⟩ := hrel
   cases gk with
   | zero => exact absurd HA.out (by simp [spec_l4Relation.l0])
   | succ k1 =>
    have H := HA.out
    clear HA
    simp only [spec_l4Relation.l0] at H
    replace H := oB.mp H
    obtain ⟨t187, A70, H⟩ := H
    replace H : (if t187 = true then (spec_l4Relation.l0 k1 a1 t178 t179 (wrap64 (x8_1 + 1)) 1) else (spec_l4Relation.l1 k1 a1 t178 t179 x8_1 1 0)) = some (r1, r2) := H
    have A7 := aM A70
    clear A70
    by_cases c8 : t187 = true
    ·
     subst c8
     have H1 : (spec_l4Relation.l0 k1 a1 t178 t179 (wrap64 (x8_1 + 1)) 1) = some (r1, r2) := by rw [if_pos rfl] at H; exact H
     clear H
     have H := H1
     clear H1
     have H' := aM H
     clear H
     go_wp2_with (first | ((with_reducible refine gate_callee (f := 32) rfl ?_); refine goesL_ (some 28) rfl rfl Try.func32 (by kernel_rfl) rfl #[.slice Ao6 t179.length co6, .int .i64 x8_1] rfl xL ?_; (with_reducible refine (spec_l1Has.calls k1 _ _ t179 x8_1 true _ ?side1 ?side2 A7.out).mono ?_); (case side1 => exact xC (Kd.R_reads' HO_7.out).2.2); (case side2 => exact (Kd.R_reads' HO_7.out).2.1); rintro e w' ⟨rfl, ⟨nd, rfl⟩⟩; refine ⟨_, rfl, ?_⟩))
     go_roundg k1
     case measure => have := HK1.out; omega
     case rel => exact ⟨(wrap64 (x8_1 + 1)), (by first | rfl | (simp; done) | (simp [*]; done)), H', ⟨by have := HK1.out; omega⟩, ⟨xS HO_6.out⟩, ⟨xR HO_7.out⟩, ⟨xH HB.out⟩⟩
    ·
     replace c8 := Bool.eq_false_iff.mpr c8
     subst c8
     have H1 : (spec_l4Relation.l1 k1 a1 t178 t179 x8_1 1 0) = some (r1, r2) := by rw [if_neg (show ¬ (false = true) by decide)] at H; exact H
     clear H
     have H := H1
     clear H1
     have H' := aM H
     clear H
     go_wp2_with (first | ((with_reducible refine gate_callee (f := 32) rfl ?_); refine goesL_ (some 28) rfl rfl Try.func32 (by kernel_rfl) rfl #[.slice Ao6 t179.length co6, .int .i64 x8_1] rfl xL ?_; (with_reducible refine (spec_l1Has.calls k1 _ _ t179 x8_1 false _ ?side1 ?side2 A7.out).mono ?_); (case side1 => exact xC (Kd.R_reads' HO_7.out).2.2); (case side2 => exact (Kd.R_reads' HO_7.out).2.1); rintro e w' ⟨rfl, ⟨nd, rfl⟩⟩; refine ⟨_, rfl, ?_⟩))
     go_loopg [9, 10] k1 (fun kq v9 v10 w' => ∃ (x9_2 : Int) (x10_2 : Int), v9 = .int .i64 x9_2 ∧ v10 = .int .i64 x10_2 ∧ Aside0 (spec_l4Relation.l1 kq a1 t178 t179 x8_1 x9_2 x10_2 = some (r1, r2)) ∧ Aside0 (kq ≤ k1) ∧ Aside0 (Kd.S (Kd.slice 3 (Kd.int .i64)) 22 w' w.heap.size (fun k_ => some k_ ≠ ((.slice Ao6 t179.length co6) : Value).ownBlock) v180 t178) ∧ Aside0 (Kd.R (Kd.int .i64) 3 w' w.heap.size (fun _ => True) (.slice Ao6 t179.length co6) t179) ∧ Aside0 (Below w.heap.size w w'))
     case atStart => exact ⟨(1), (0), (by first | rfl | (simp; done) | (simp [*]; done)), (by first | rfl | (simp; done) | (simp [*]; done)), H', ⟨Nat.le_refl _⟩, ⟨xS HO_6.out⟩, ⟨xR HO_7.out⟩, ⟨xH HB.out⟩⟩
     case round =>
      clear H'
      try clear c8
      obtain ⟨x9_2, x10_2, rfl, rfl, HA, HK2, HO_6, HO_7, HB⟩ := hrel
      cases gk with
      | zero => exact absurd HA.out (by simp [spec_l4Relation.l1])
      | succ k2 =>
       have H := HA.out
       clear HA
       simp only [spec_l4Relation.l1] at H
       by_cases c9 : x10_2 < (t179.length : Int)
       ·
        rw [if_pos c9] at H
        have c9b0 : decide (x10_2 < (t179.length : Int)) = true := decide_eq_true c9
        clear c9
        by_cases c10 : 0 ≤ x10_2
        ·
         rw [if_pos c10] at H
         have c10b0 : decide (0 ≤ x10_2) = true := decide_eq_true c10
         clear c10
         by_cases c11 : x10_2 < (t178.length : Int)
         ·
          rw [if_pos c11] at H
          have c11b0 : decide (x10_2 < (t178.length : Int)) = true := decide_eq_true c11
          clear c11
          by_cases c12 : 0 ≤ (rd t179 x10_2)
          ·
           rw [if_pos c12] at H
           have c12b0 : decide (0 ≤ (rd t179 x10_2)) = true := decide_eq_true c12
           clear c12
           by_cases c13 : (rd t179 x10_2) < ((rd_L1 t178 x10_2).length : Int)
           ·
            rw [if_pos c13] at H
            have c13b0 : decide ((rd t179 x10_2) < ((rd_L1 t178 x10_2).length : Int)) = true := decide_eq_true c13
            clear c13
            replace H := oB.mp H
            obtain ⟨t194, A140, H⟩ := H
            replace H : ((spec_l2Gcd.f k2 x9_2 t194).bind fun t195 => (if t195 = 0 then (none) else (spec_l4Relation.l1 k2 a1 t178 t179 x8_1 (wrap64 ((wrap64 (Int.tdiv x9_2 t195)) * t194)) (wrap64 (x10_2 + 1))))) = some (r1, r2) := H
            have A14 := aM A140
            clear A140
            replace H := oB.mp H
            obtain ⟨t195, A150, H⟩ := H
            replace H : (if t195 = 0 then (none) else (spec_l4Relation.l1 k2 a1 t178 t179 x8_1 (wrap64 ((wrap64 (Int.tdiv x9_2 t195)) * t194)) (wrap64 (x10_2 + 1)))) = some (r1, r2) := H
            have A15 := aM A150
            clear A150
            by_cases c16 : t195 = 0
            ·
             rw [if_pos c16] at H
             exact absurd H (by simp)
            ·
             rw [if_neg c16] at H
             have c16b0 : (t195 == 0) = false := beq_eq_false_iff_ne.mpr c16
             have c16b1 : (t195 != 0) = true := bne_iff_ne.mpr c16
             have H' := aM H
             clear H
             try go_wp2
             have n0_ := aM (Kd.S_drew HO_6.out)
             have n1_ := aM (rD HO_7.out)
             have n2_ := aM (eD HB.out)
             clear HO_6 HO_7 HB
             have HO_6 := n0_
             have HO_7 := n1_
             have HB := n2_
             clear n0_ n1_ n2_
             obtain ⟨Ao18, co18, eo18⟩ := Kd.S_slice HO_6.out
             (first | subst eo18 | (injection eo18 with f1_ f2_ f3_; have f4_ := f1_.symm; have f5_ := f3_.symm; clear f1_ f2_ f3_; subst f4_; subst f5_))
             have p188 : 0 ≤ (x10_2 : Int) := of_decide_eq_true (by first | (with_reducible assumption) | assumption)
             have q188 : x10_2 < (t178.length : Int) := of_decide_eq_true (by first | (with_reducible assumption) | assumption)
             obtain ⟨ad188, A188_0, c188_0, e188, hx188_0, hl188_0, hi188_0⟩ := at_L1 (Kd.S_reads' HO_6.out).2.2 x10_2 p188 q188
             cases e188
             obtain ⟨ce188, hce188, hMe188, hcc188⟩ := Kd.S_get HO_6.out [] x10_2 p188 (by first | exact q188 | exact of_decide_eq_true (by first | (with_reducible assumption) | assumption) | (have e_ := (Kd.S_reads' HO_6.out).1; omega))
             obtain ⟨ve188_0, rfl, ge188_0⟩ := hMe188
             have hv188_0 := hcc188 0 _ rfl
             rw [Nat.add_zero, show ((Kd.slice 3 (Kd.int .i64))).sz = 1 from rfl, Nat.mul_one] at hv188_0
             replace hv188_0 := Option.some.inj (hv188_0.symm.trans hx188_0)
             rw [hv188_0] at ge188_0
             have HL188_0 := aM (show Kd.R (Kd.int .i64) 3 _ _ _ _ (rd_L1 t178 x10_2) from ge188_0)
             clear hv188_0 ge188_0 hcc188 hce188
             have HR188_0 := aM hi188_0
             have HC188_0 := aM hl188_0
             clear hi188_0 hl188_0
             replace p188 := eq_true p188
             replace q188 := eq_true q188
             have p189 : 0 ≤ (x10_2 : Int) := of_decide_eq_true (by first | (with_reducible assumption) | assumption)
             have q189 : x10_2 < (t179.length : Int) := of_decide_eq_true (by first | (with_reducible assumption) | assumption)
             obtain ⟨ad189, e189, hx189_0⟩ := Kd.at_int (Kd.R_reads' HO_7.out).2.2 x10_2 p189 q189
             cases e189
             replace p189 := eq_true p189
             replace q189 := eq_true q189
             have p190 : 0 ≤ ((rd t179 x10_2) : Int) := of_decide_eq_true (by first | (with_reducible assumption) | assumption)
             have q190 : (rd t179 x10_2) < ((rd_L1 t178 x10_2).length : Int) := of_decide_eq_true (by first | (with_reducible assumption) | assumption)
             obtain ⟨ad190, e190, hx190_0⟩ := Kd.at_int (by repeat (first | (with_reducible exact HR188_0.out) | (with_reducible refine Kd.C_alloc ?_ _) | (with_reducible refine Kd.C_drewN ?_ _) | (with_reducible refine Kd.C_drew ?_) | exact HR188_0.out)) (rd t179 x10_2) p190 q190
             cases e190
             replace p190 := eq_true p190
             replace q190 := eq_true q190
             have p191 : 0 ≤ (x10_2 : Int) := of_decide_eq_true (by first | (with_reducible assumption) | assumption)
             have q191 : x10_2 < (t178.length : Int) := of_decide_eq_true (by first | (with_reducible assumption) | assumption)
             obtain ⟨ad191, A191_0, c191_0, e191, hx191_0, hl191_0, hi191_0⟩ := at_L1 (Kd.S_reads' HO_6.out).2.2 x10_2 p191 q191
             obtain rfl : ad188 = ad191 := (by injection e191)
             obtain ⟨ce191, hce191, hMe191, hcc191⟩ := Kd.S_get HO_6.out [] x10_2 p191 (by first | exact q191 | exact of_decide_eq_true (by first | (with_reducible assumption) | assumption) | (have e_ := (Kd.S_reads' HO_6.out).1; omega))
             obtain ⟨ve191_0, rfl, ge191_0⟩ := hMe191
             have hv191_0 := hcc191 0 _ rfl
             rw [Nat.add_zero, show ((Kd.slice 3 (Kd.int .i64))).sz = 1 from rfl, Nat.mul_one] at hv191_0
             replace hv191_0 := Option.some.inj (hv191_0.symm.trans hx191_0)
             rw [hv191_0] at ge191_0
             have HL191_0 := aM (show Kd.R (Kd.int .i64) 3 _ _ _ _ (rd_L1 t178 x10_2) from ge191_0)
             clear hv191_0 ge191_0 hcc191 hce191
             have HR191_0 := aM hi191_0
             have HC191_0 := aM hl191_0
             clear hi191_0 hl191_0
             replace p191 := eq_true p191
             replace q191 := eq_true q191
             have ea_ := Option.some.inj (hx188_0.symm.trans hx191_0)
             injection ea_ with ea_ en_ ec_
             subst ea_
             subst ec_
             clear en_
             have p192 : 0 ≤ (x10_2 : Int) := of_decide_eq_true (by first | (with_reducible assumption) | assumption)
             have q192 : x10_2 < (t179.length : Int) := of_decide_eq_true (by first | (with_reducible assumption) | assumption)
             obtain ⟨ad192, e192, hx192_0⟩ := Kd.at_int (Kd.R_reads' HO_7.out).2.2 x10_2 p192 q192
             obtain rfl : ad189 = ad192 := (by injection e192)
             replace p192 := eq_true p192
             replace q192 := eq_true q192
             have p193 : 0 ≤ ((rd t179 x10_2) : Int) := of_decide_eq_true (by first | (with_reducible assumption) | assumption)
             have q193 : (rd t179 x10_2) < ((rd_L1 t178 x10_2).length : Int) := of_decide_eq_true (by first | (with_reducible assumption) | assumption)
             obtain ⟨ad193, e193, hx193_0⟩ := Kd.at_int (by repeat (first | (with_reducible exact HR191_0.out) | (with_reducible refine Kd.C_alloc ?_ _) | (with_reducible refine Kd.C_drewN ?_ _) | (with_reducible refine Kd.C_drew ?_) | exact HR191_0.out)) (rd t179 x10_2) p193 q193
             obtain rfl : ad190 = ad193 := (by injection e193)
             replace p193 := eq_true p193
             replace q193 := eq_true q193
             refine start_ (n := 23) (S := fun w' => w'.cell? (ad188.add (x10_2).toNat) = some (.slice (some ad190) (rd_L1 t178 x10_2).length c188_0) ∧ w'.cell? (ad189.add (x10_2).toNat) = some (.int .i64 (rd t179 x10_2)) ∧ w'.cell? (ad190.add ((rd t179 x10_2)).toNat) = some (.int .i64 (rd (rd_L1 t178 x10_2) (rd t179 x10_2))) ∧ w'.cell? (ad188.add (x10_2).toNat) = some (.slice (some ad190) (rd_L1 t178 x10_2).length c188_0) ∧ w'.cell? (ad189.add (x10_2).toNat) = some (.int .i64 (rd t179 x10_2)) ∧ w'.cell? (ad190.add ((rd t179 x10_2)).toNat) = some (.int .i64 (rd (rd_L1 t178 x10_2) (rd t179 x10_2)))) (ds := []) #[false, false, false, false, false, false, false, false, false, false, false, false, false, false, false, false, false, false, false, false, false, false, false] (by kernel_rfl) rfl rfl ⟨hx188_0, hx189_0, hx190_0, hx191_0, hx192_0, hx193_0⟩ (fun hHeld => ?_); refine with_tabW spec_l4Relation.tab10 spec_l4Relation.bits10 (fun HT_ HW_ => ?_)
             generalize wr.drew = w17 at HO_6 HO_7 HB HL188_0 HL191_0 HR188_0 HR191_0 hx188_0 hx189_0 hx190_0 hx191_0 hx192_0 hx193_0 hHeld ⊢
             refine pure_ (i := 0) (N := some 37) (v := ?_) (a' := ?_) #[true, false, false, false, false, false, false, false, false, false, false, false, false, false, false, false, false, false, false, false, false, false, false] rfl rfl (any_of HT_.out (by kernel_rfl)) (fun _ _ _ h => h) (Or.inl ⟨by rfl, ?_⟩) ?_ ?_
             rotate_left
             ·
              intro w'
              go_simp
              with_reducible rfl
             rotate_left
             ·
              simp only [Act.put, sA, sZ, sU, i64_w, i32_w]
              rfl
             refine pure_ (i := 1) (N := some 38) (v := ?_) (a' := ?_) #[true, true, false, false, false, false, false, false, false, false, false, false, false, false, false, false, false, false, false, false, false, false, false] rfl rfl (any_of HT_.out (by kernel_rfl)) (fun _ _ _ h => h) (Or.inl ⟨by rfl, ?_⟩) ?_ ?_
             rotate_left
             ·
              intro w'
              go_simp
              with_reducible rfl
             rotate_left
             ·
              simp only [Act.put, sA, sZ, sU, i64_w, i32_w]
              rfl
             refine pure_ (i := 2) (N := some 39) (v := ?_) (a' := ?_) #[true, true, true, false, false, false, false, false, false, false, false, false, false, false, false, false, false, false, false, false, false, false, false] rfl rfl (any_of HT_.out (by kernel_rfl)) (fun _ _ _ h => h) (Or.inl ⟨by rfl, ?_⟩) ?_ ?_
             rotate_left
             ·
              intro w'
              go_simp
              with_reducible rfl
             rotate_left
             ·
              simp only [Act.put, sA, sZ, sU, i64_w, i32_w]
              rfl
             refine pure_ (i := 4) (N := some 41) (v := ?_) (a' := ?_) #[true, true, true, false, true, false, false, false, false, false, false, false, false, false, false, false, false, false, false, false, false, false, false] rfl rfl (any_of HT_.out (by kernel_rfl)) (fun _ _ _ h => h) (Or.inl ⟨by rfl, ?_⟩) ?_ ?_
             rotate_left
             ·
              intro w'
              go_simp
              with_reducible rfl
             rotate_left
             ·
              simp only [Act.put, sA, sZ, sU, i64_w, i32_w]
              rfl
             refine pure_ (i := 5) (N := some 42) (v := ?_) (a' := ?_) #[true, true, true, false, true, true, false, false, false, false, false, false, false, false, false, false, false, false, false, false, false, false, false] rfl rfl (any_of HT_.out (by kernel_rfl)) (fun _ _ _ h => h) (Or.inl ⟨by rfl, ?_⟩) ?_ ?_
             rotate_left
             ·
              intro w'
              go_simp
              with_reducible rfl
             rotate_left
             ·
              simp only [Act.put, sA, sZ, sU, i64_w, i32_w]
              rfl
             refine pure_ (i := 6) (N := some 43) (v := ?_) (a' := ?_) #[true, true, true, false, true, true, true, false, false, false, false, false, false, false, false, false, false, false, false, false, false, false, false] rfl rfl (any_of HT_.out (by kernel_rfl)) (fun _ _ _ h => h) (Or.inl ⟨by rfl, ?_⟩) ?_ ?_
             rotate_left
             ·
              intro w'
              go_simp
              with_reducible rfl
             rotate_left
             ·
              simp only [Act.put, sA, sZ, sU, i64_w, i32_w]
              rfl
             refine pure_ (i := 10) (N := some 47) (v := ?_) (a' := ?_) #[true, true, true, false, true, true, true, false, false, false, true, false, false, false, false, false, false, false, false, false, false, false, false] rfl rfl (any_of HT_.out (by kernel_rfl)) (fun _ _ _ h => h) (Or.inl ⟨by rfl, ?_⟩) ?_ ?_
             rotate_left
             ·
              intro w'
              go_simp
              with_reducible rfl
             rotate_left
             ·
              simp only [Act.put, sA, sZ, sU, i64_w, i32_w]
              rfl
             refine pure_ (i := 11) (N := some 48) (v := ?_) (a' := ?_) #[true, true, true, false, true, true, true, false, false, false, true, true, false, false, false, false, false, false, false, false, false, false, false] rfl rfl (any_of HT_.out (by kernel_rfl)) (fun _ _ _ h => h) (Or.inl ⟨by rfl, ?_⟩) ?_ ?_
             rotate_left
             ·
              intro w'
              go_simp
              with_reducible rfl
             rotate_left
             ·
              simp only [Act.put, sA, sZ, sU, i64_w, i32_w]
              rfl
             refine pure_ (i := 12) (N := some 49) (v := ?_) (a' := ?_) #[true, true, true, false, true, true, true, false, false, false, true, true, true, false, false, false, false, false, false, false, false, false, false] rfl rfl (any_of HT_.out (by kernel_rfl)) (fun _ _ _ h => h) (Or.inl ⟨by rfl, ?_⟩) ?_ ?_
             rotate_left
             ·
              intro w'
              go_simp
              with_reducible rfl
             rotate_left
             ·
              simp only [Act.put, sA, sZ, sU, i64_w, i32_w]
              rfl
             refine pure_ (i := 14) (N := some 51) (v := ?_) (a' := ?_) #[true, true, true, false, true, true, true, false, false, false, true, true, true, false, true, false, false, false, false, false, false, false, false] rfl rfl (any_of HT_.out (by kernel_rfl)) (fun _ _ _ h => h) (Or.inl ⟨by rfl, ?_⟩) ?_ ?_
             rotate_left
             ·
              intro w'
              go_simp
              with_reducible rfl
             rotate_left
             ·
              simp only [Act.put, sA, sZ, sU, i64_w, i32_w]
              rfl
             refine pure_ (i := 15) (N := some 52) (v := ?_) (a' := ?_) #[true, true, true, false, true, true, true, false, false, false, true, true, true, false, true, true, false, false, false, false, false, false, false] rfl rfl (any_of HT_.out (by kernel_rfl)) (fun _ _ _ h => h) (Or.inl ⟨by rfl, ?_⟩) ?_ ?_
             rotate_left
             ·
              intro w'
              go_simp
              with_reducible rfl
             rotate_left
             ·
              simp only [Act.put, sA, sZ, sU, i64_w, i32_w]
              rfl
             refine pure_ (i := 16) (N := some 53) (v := ?_) (a' := ?_) #[true, true, true, false, true, true, true, false, false, false, true, true, true, false, true, true, true, false, false, false, false, false, false] rfl rfl (any_of HT_.out (by kernel_rfl)) (fun _ _ _ h => h) (Or.inl ⟨by rfl, ?_⟩) ?_ ?_
             rotate_left
             ·
              intro w'
              go_simp
              with_reducible rfl
             rotate_left
             ·
              simp only [Act.put, sA, sZ, sU, i64_w, i32_w]
              rfl
             refine take_ (i := 3) (N := some 40) (v := ?_) (a' := ?_) #[true, true, true, true, true, true, true, false, false, false, true, true, true, false, true, true, true, false, false, false, false, false, false] rfl rfl (take_ofW HT_.out HW_.out (by kernel_rfl)) (fun _ _ _ h => h) (Or.inl ⟨by rfl, ?_⟩) hHeld ?_ ?_
             rotate_left
             ·
              rintro w' ⟨s0, s1, s2, s3, s4, s5⟩
              first | (go_simp; with_reducible rfl) | (simp only [add_plain] at s0 s1 s2 s3 s4 s5; go_simp; with_reducible rfl)
             rotate_left
             ·
              simp only [Act.put, sA, sZ, sU, i64_w, i32_w]
              rfl
             refine take_ (i := 7) (N := some 44) (v := ?_) (a' := ?_) #[true, true, true, true, true, true, true, true, false, false, true, true, true, false, true, true, true, false, false, false, false, false, false] rfl rfl (take_ofW HT_.out HW_.out (by kernel_rfl)) (fun _ _ _ h => h) (Or.inl ⟨by rfl, ?_⟩) hHeld ?_ ?_
             rotate_left
             ·
              rintro w' ⟨s0, s1, s2, s3, s4, s5⟩
              first | (go_simp; with_reducible rfl) | (simp only [add_plain] at s0 s1 s2 s3 s4 s5; go_simp; with_reducible rfl)
             rotate_left
             ·
              simp only [Act.put, sA, sZ, sU, i64_w, i32_w]
              rfl
             refine pure_ (i := 8) (N := some 45) (v := ?_) (a' := ?_) #[true, true, true, true, true, true, true, true, true, false, true, true, true, false, true, true, true, false, false, false, false, false, false] rfl rfl (any_of HT_.out (by kernel_rfl)) (fun _ _ _ h => h) (Or.inl ⟨by rfl, ?_⟩) ?_ ?_
             rotate_left
             ·
              intro w'
              go_simp
              with_reducible rfl
             rotate_left
             ·
              simp only [Act.put, sA, sZ, sU, i64_w, i32_w]
              rfl
             refine take_ (i := 9) (N := some 46) (v := ?_) (a' := ?_) #[true, true, true, true, true, true, true, true, true, true, true, true, true, false, true, true, true, false, false, false, false, false, false] rfl rfl (take_ofW HT_.out HW_.out (by kernel_rfl)) (fun _ _ _ h => h) (Or.inl ⟨by rfl, ?_⟩) hHeld ?_ ?_
             rotate_left
             ·
              rintro w' ⟨s0, s1, s2, s3, s4, s5⟩
              first | (go_simp; with_reducible rfl) | (simp only [add_plain] at s0 s1 s2 s3 s4 s5; go_simp; with_reducible rfl)
             rotate_left
             ·
              simp only [Act.put, sA, sZ, sU, i64_w, i32_w]
              rfl
             refine take_ (i := 13) (N := some 50) (v := ?_) (a' := ?_) #[true, true, true, true, true, true, true, true, true, true, true, true, true, true, true, true, true, false, false, false, false, false, false] rfl rfl (take_ofW HT_.out HW_.out (by kernel_rfl)) (fun _ _ _ h => h) (Or.inl ⟨by rfl, ?_⟩) hHeld ?_ ?_
             rotate_left
             ·
              rintro w' ⟨s0, s1, s2, s3, s4, s5⟩
              first | (go_simp; with_reducible rfl) | (simp only [add_plain] at s0 s1 s2 s3 s4 s5; go_simp; with_reducible rfl)
             rotate_left
             ·
              simp only [Act.put, sA, sZ, sU, i64_w, i32_w]
              rfl
             refine take_ (i := 17) (N := some 54) (v := ?_) (a' := ?_) #[true, true, true, true, true, true, true, true, true, true, true, true, true, true, true, true, true, true, false, false, false, false, false] rfl rfl (take_ofW HT_.out HW_.out (by kernel_rfl)) (fun _ _ _ h => h) (Or.inl ⟨by rfl, ?_⟩) hHeld ?_ ?_
             rotate_left
             ·
              rintro w' ⟨s0, s1, s2, s3, s4, s5⟩
              first | (go_simp; with_reducible rfl) | (simp only [add_plain] at s0 s1 s2 s3 s4 s5; go_simp; with_reducible rfl)
             rotate_left
             ·
              simp only [Act.put, sA, sZ, sU, i64_w, i32_w]
              rfl
             refine pure_ (i := 18) (N := some 55) (v := ?_) (a' := ?_) #[true, true, true, true, true, true, true, true, true, true, true, true, true, true, true, true, true, true, true, false, false, false, false] rfl rfl (any_of HT_.out (by kernel_rfl)) (fun _ _ _ h => h) (Or.inl ⟨by rfl, ?_⟩) ?_ ?_
             rotate_left
             ·
              intro w'
              go_simp
              with_reducible rfl
             rotate_left
             ·
              simp only [Act.put, sA, sZ, sU, i64_w, i32_w]
              rfl
             refine take_ (i := 19) (N := some 56) (v := ?_) (a' := ?_) #[true, true, true, true, true, true, true, true, true, true, true, true, true, true, true, true, true, true, true, true, false, false, false] rfl rfl (take_ofW HT_.out HW_.out (by kernel_rfl)) (fun _ _ _ h => h) (Or.inl ⟨by rfl, ?_⟩) hHeld ?_ ?_
             rotate_left
             ·
              rintro w' ⟨s0, s1, s2, s3, s4, s5⟩
              first | (go_simp; with_reducible rfl) | (simp only [add_plain] at s0 s1 s2 s3 s4 s5; go_simp; with_reducible rfl)
             rotate_left
             ·
              simp only [Act.put, sA, sZ, sU, i64_w, i32_w]
              rfl
             refine pure_ (i := 20) (N := some 57) (v := ?_) (a' := ?_) #[true, true, true, true, true, true, true, true, true, true, true, true, true, true, true, true, true, true, true, true, true, false, false] rfl rfl (any_of HT_.out (by kernel_rfl)) (fun _ _ _ h => h) (Or.inl ⟨by rfl, ?_⟩) ?_ ?_
             rotate_left
             ·
              intro w'
              go_simp
              with_reducible rfl
             rotate_left
             ·
              simp only [Act.put, sA, sZ, sU, i64_w, i32_w]
              rfl
             refine one_ (i := 21) (N := some 58) #[true, true, true, true, true, true, true, true, true, true, true, true, true, true, true, true, true, true, true, true, true, true, false] rfl rfl (one_of HT_.out (by kernel_rfl)) (by decide) (fun K hK => ?_)
             refine goes_ Try.func97 (by kernel_rfl) rfl #[.int .i64 (rd (rd_L1 t178 x10_2) (rd t179 x10_2)), .int .i64 (wrap64 (-(rd (rd_L1 t178 x10_2) (rd t179 x10_2))))] (by rfl) rfl rfl xL ?_
             with_reducible refine (spec_l1Most.calls (rd (rd_L1 t178 x10_2) (rd t179 x10_2)) (wrap64 (-(rd (rd_L1 t178 x10_2) (rd t179 x10_2)))) t194 _ A14.out).mono ?_
             rintro e w' ⟨rfl, ⟨nd, rfl⟩⟩
             refine ⟨_, rfl, ?_⟩
             refine hK.out _ _ ⟨hHeld.1, hHeld.2.1, hHeld.2.2.1, hHeld.2.2.2.1, hHeld.2.2.2.2.1, hHeld.2.2.2.2.2⟩ (fun hHeld => ?_)
             clear hK K
             refine norm_ (a' := ?_) ?_ ?_
             rotate_left
             ·
              show Act.put _ (some 58) _ = _
              simp only [Act.put, sA, sZ, sU, i64_w, i32_w]
              rfl
             refine pure_ (i := 22) (N := some 11) (v := ?_) (a' := ?_) #[true, true, true, true, true, true, true, true, true, true, true, true, true, true, true, true, true, true, true, true, true, true, true] rfl rfl (any_of HT_.out (by kernel_rfl)) (fun _ _ _ h => h) (Or.inl ⟨by rfl, ?_⟩) ?_ ?_
             rotate_left
             ·
              intro w'
              go_simp
              with_reducible rfl
             rotate_left
             ·
              simp only [Act.put, sA, sZ, sU, i64_w, i32_w]
              rfl
             refine done_ (done_of HT_.out (by kernel_rfl)) ?_
             try go_wp2_with (first | ((with_reducible refine gate_callee (f := 98) rfl ?_); refine goesL_ (some 62) rfl rfl Try.func98 (by kernel_rfl) rfl #[.int .i64 x9_2, .int .i64 t194] rfl xL ?_; (with_reducible refine (spec_l2Gcd.calls k2 x9_2 t194 t195 _ A15.out).mono ?_); rintro e w' ⟨rfl, ⟨nd, rfl⟩⟩; refine ⟨_, rfl, ?_⟩))
             go_roundg k2
             case measure => have := HK1.out; have := HK2.out; omega
             case rel => exact ⟨(wrap64 ((wrap64 (Int.tdiv x9_2 t195)) * t194)), (wrap64 (x10_2 + 1)), (by first | rfl | (simp; done) | (simp [*]; done)), (by first | rfl | (simp; done) | (simp [*]; done)), H', ⟨by have := HK1.out; have := HK2.out; omega⟩, ⟨xS HO_6.out⟩, ⟨xR HO_7.out⟩, ⟨xH HB.out⟩⟩
           ·
            rw [if_neg c13] at H
            exact absurd H (by simp)
          ·
           rw [if_neg c12] at H
           exact absurd H (by simp)
         ·
          rw [if_neg c11] at H
          exact absurd H (by simp)
        ·
         rw [if_neg c10] at H
         exact absurd H (by simp)
       ·
        rw [if_neg c9] at H
        have c9b0 : decide (x10_2 < (t179.length : Int)) = false := decide_eq_false c9
        clear c9
        by_cases c19 : 0 ≤ a1
        ·
         rw [if_pos c19] at H
         have c19b0 := eq_true c19
         have c19b1 : decide (0 ≤ a1) = true := decide_eq_true c19
         clear c19
         by_cases c20 : (a1 : Int).toNat ≤ 35184372088832
         ·
          rw [if_pos c20] at H
          have c20b0 := eq_true c20
          have c20b1 : decide ((a1 : Int).toNat ≤ 35184372088832) = true := decide_eq_true c20
          clear c20
          obtain ⟨y196, hy196⟩ : ∃ y_ : List Int, y_ = (List.replicate (a1 : Int).toNat 0) := ⟨_, rfl⟩
          replace H : (if 0 ≤ x8_1 then (if x8_1 < (y196.length : Int) then (spec_l4Relation.l2 k2 t178 t179 x8_1 x9_2 (y196.set (x8_1 : Int).toNat x9_2) 0) else (none)) else (none)) = some (r1, r2) := by first | (rw [hy196]; with_reducible exact H) | (have H2_ := (Option.bind_some _ _).symm.trans H; rw [hy196]; with_reducible exact H2_) | (have H2_ := (Option.bind_some _ _).symm.trans H; with_reducible exact H2_) | with_reducible exact H | (rw [hy196]; exact H) | exact H
          have Ny196 := aM hy196
          clear hy196
          by_cases c21 : 0 ≤ x8_1
          ·
           rw [if_pos c21] at H
           have c21b0 : decide (0 ≤ x8_1) = true := decide_eq_true c21
           clear c21
           by_cases c22 : x8_1 < (y196.length : Int)
           ·
            rw [if_pos c22] at H
            have c22b0 : decide (x8_1 < (y196.length : Int)) = true := decide_eq_true c22
            clear c22
            obtain ⟨y199, hy199⟩ : ∃ y_ : List Int, y_ = (y196.set (x8_1 : Int).toNat x9_2) := ⟨_, rfl⟩
            replace H : (spec_l4Relation.l2 k2 t178 t179 x8_1 x9_2 y199 0) = some (r1, r2) := by first | (rw [hy199]; with_reducible exact H) | (have H2_ := (Option.bind_some _ _).symm.trans H; rw [hy199]; with_reducible exact H2_) | (have H2_ := (Option.bind_some _ _).symm.trans H; with_reducible exact H2_) | with_reducible exact H | (rw [hy199]; exact H) | exact H
            have Ny199 := aM hy199
            clear hy199
            have H' := aM H
            clear H
            go_wp2_with (first | ((with_reducible refine gate_dst (N := 67) rfl ?_); refine Kd.R_make (Kd.int .i64) _ 3 rfl (N := 67) rfl 22 _ _ rfl a1 rfl rfl Try.underlying22 (.int .i64 0) 8 info3 rfl (by decide) (by omega) 0 (ok := fun _ => True) (okp := fun _ => True) rfl (fun _ hk => hk) trivial (of_decide_eq_true (by first | (with_reducible assumption) | assumption)) (Nat.le_trans (Nat.mul_le_mul_right _ (of_decide_eq_true (by first | (with_reducible assumption) | assumption) : a1.toNat ≤ 35184372088832)) (by omega)) (Below.refl _ _) (Nat.le_refl _) ?_; intro v197 w24 ho25 hb hg_ hnew_; clear hg_ hnew_; (first | rw [← Ny196.out] at ho25 | (simp only [Int.reduceToNat] at ho25; rw [← Ny196.out] at ho25)); replace HO_6 := aM (Kd.S_elder' (xS HO_6.out) (Kd.R_base ho25) hb); have HO198 := aM (Kd.R_lower (Kd.R_new' ho25 (Kd.R_lt (xR HO_7.out))) (below_size (xH HB.out))); replace HO_7 := aM (Kd.R_elder' (xR HO_7.out) (Kd.R_base ho25) hb); replace HB := aM (below_step (xH HB.out) hb); clear hb ho25; have p23 : 0 ≤ (x8_1 : Int) := of_decide_eq_true (by first | (with_reducible assumption) | assumption); have q23 : (x8_1 : Int) < ((y196.length : Int) : Int) := of_decide_eq_true (by first | (with_reducible assumption) | assumption); obtain ⟨go23, co23, eo23, gb23, gl23, cl23, HG23⟩ := Kd.R_form HO198.out (by omega); (first | cases eo23 | (injection eo23 with ea_ en_ ec_; (first | subst ea_ | (injection ea_ with ea_; subst ea_)); subst ec_; clear en_)); have GB23 := aM gb23; have GG23 := aM HG23; clear gb23 gl23 HG23; obtain ⟨hx23_0, hf23_0⟩ := Kd.R_celln 0 HO198.out (x8_1 : Int) p23 q23; replace p23 := eq_true p23; replace q23 := eq_true q23; have n_ := aM (rM (ok' := (fun k_ => some k_ ≠ (.slice Ao6 t179.length co6 : Value).ownBlock)) HO198.out (fun k_ hk => hk.2)); clear HO198; have HO198 := n_; clear n_; obtain ⟨hy26_, hz26_⟩ := Kd.R_celln 0 HO198.out (x8_1 : Int) (of_decide_eq_true (by first | (with_reducible assumption) | assumption)) (of_decide_eq_true (by first | (with_reducible assumption) | assumption)); have HP26 := Kd.R_putg HO198.out (x8_1 : Int) x9_2) | ((with_reducible refine gate_store (t := 3) (p := 71) rfl ?_); refine store_event (t := 3) (p := 71) (v := ?vo_w27) (w1 := (w24.setCell ⟨go23, (x8_1 : Int).toNat, none⟩ (.int .i64 x9_2))) ?hg ?ho ?hn ?hr ?_; (case ho => rfl); (case hg => rfl); (case hn => rfl); (case hr => first | (go_simp; done) | (go_simp; rfl)); intro w27 hw; have hg : w24.grownBy w27 (some go23) := (by rw [hw]; exact HP26.2); have hp_ : Kd.R (Kd.int .i64) 3 w27 w.heap.size (fun k_ => some k_ ≠ (.slice Ao6 t179.length co6 : Value).ownBlock) (.slice (some ⟨go23, 0, none⟩) y196.length co23) y199 := (by rw [hw, Ny199.out]; exact HP26.1); clear HP26; replace HO_6 := aM (Kd.S_after (v := (.slice (some ⟨go23, 0, none⟩) y196.length co23)) (v1 := (.slice (some ⟨go23, 0, none⟩) y196.length co23)) (ok := (fun k_ => some k_ ≠ (.slice Ao6 t179.length co6 : Value).ownBlock)) (xS HO_6.out) hg (.inl rfl)); replace HO_7 := aM (Kd.R_after (v := (.slice (some ⟨go23, 0, none⟩) y196.length co23)) (v1 := (.slice (some ⟨go23, 0, none⟩) y196.length co23)) (ok := (fun _ => True)) (xR HO_7.out) hg (.inl rfl)); replace HO198 := aM (hp_); replace HB := aM ((by rw [hw]; exact eS (HB.out) GB23.out : Below w.heap.size w w27)); clear hg hw hp_))
            go_loopg [13] k2 (fun kq v13 w' => ∃ (x12_3 : List Int) (x13_3 : Int), v13 = .int .i64 x13_3 ∧ Aside0 (spec_l4Relation.l2 kq t178 t179 x8_1 x9_2 x12_3 x13_3 = some (r1, r2)) ∧ Aside0 (kq ≤ k2) ∧ Aside0 (Kd.S (Kd.slice 3 (Kd.int .i64)) 22 w' w.heap.size (fun k_ => some k_ ≠ ((.slice Ao6 t179.length co6) : Value).ownBlock ∧ some k_ ≠ ((.slice (some ⟨go23, 0, none⟩) y196.length co23) : Value).ownBlock) v180 t178) ∧ Aside0 (Kd.R (Kd.int .i64) 3 w' w.heap.size (fun k_ => some k_ ≠ ((.slice (some ⟨go23, 0, none⟩) y196.length co23) : Value).ownBlock) (.slice Ao6 t179.length co6) t179) ∧ Aside0 (Kd.R (Kd.int .i64) 3 w' w.heap.size (fun k_ => some k_ ≠ ((.slice Ao6 t179.length co6) : Value).ownBlock) (.slice (some ⟨go23, 0, none⟩) y196.length co23) x12_3) ∧ Aside0 (Below w.heap.size w w'))
            case atStart => exact ⟨(y199), (0), (by first | rfl | (simp; done) | (simp [*]; done)), H', ⟨Nat.le_refl _⟩, ⟨xS HO_6.out⟩, ⟨by (with_reducible repeat (first | apply rA | apply rN | apply rD)); exact rM HO_7.out (fun _ hk => hk.2)⟩, ⟨xR HO198.out⟩, ⟨xH HB.out⟩⟩
            case round =>
             clear H'
             try clear c9; try clear c9b0; try clear c10; try clear c10b0; try clear c11; try clear c11b0; try clear c12; try clear c12b0; try clear c13; try clear c13b0; try clear c16; try clear c16b0; try clear c16b1; try clear c19; try clear c19b0; try clear c19b1; try clear c20; try clear c20b0; try clear c20b1; try clear c21; try clear c21b0; try clear c22; try clear c22b0; try clear p23; try clear q23; try clear hx188_0; try clear hx189_0; try clear hx190_0; try clear hx191_0; try clear hx192_0; try clear hx193_0; try clear hx23_0; try clear p188; try clear p189; try clear p190; try clear p191; try clear p192; try clear p193; try clear q188; try clear q189; try clear q190; try clear q191; try clear q192; try clear q193
             obtain ⟨x12_3, x13_3, rfl, HA, HK3, HO_6, HO_7, HO_12, HB⟩ := hrel
             have hl12_3 := (Kd.R_reads' HO_12.out).1
             rw [hl12_3] at HO_12
             (try simp only [hl12_3])
             (try simp only [hl12_3] at HO_6)
             (try simp only [hl12_3] at HO_7)
             cases gk with
             | zero => exact absurd HA.out (by simp [spec_l4Relation.l2])
             | succ k3 =>
              have H := HA.out
              clear HA
              simp only [spec_l4Relation.l2] at H
              by_cases c28 : x13_3 < (t179.length : Int)
              ·
               rw [if_pos c28] at H
               have c28b0 : decide (x13_3 < (t179.length : Int)) = true := decide_eq_true c28
               clear c28
               by_cases c29 : 0 ≤ x13_3
               ·
                rw [if_pos c29] at H
                have c29b0 : decide (0 ≤ x13_3) = true := decide_eq_true c29
                clear c29
                by_cases c30 : x13_3 < (t178.length : Int)
                ·
                 rw [if_pos c30] at H
                 have c30b0 : decide (x13_3 < (t178.length : Int)) = true := decide_eq_true c30
                 clear c30
                 by_cases c31 : 0 ≤ x8_1
                 ·
                  rw [if_pos c31] at H
                  have c31b0 : decide (0 ≤ x8_1) = true := decide_eq_true c31
                  clear c31
                  by_cases c32 : x8_1 < ((rd_L1 t178 x13_3).length : Int)
                  ·
                   rw [if_pos c32] at H
                   have c32b0 : decide (x8_1 < ((rd_L1 t178 x13_3).length : Int)) = true := decide_eq_true c32
                   clear c32
                   by_cases c33 : 0 ≤ (rd t179 x13_3)
                   ·
                    rw [if_pos c33] at H
                    have c33b0 : decide (0 ≤ (rd t179 x13_3)) = true := decide_eq_true c33
                    clear c33
                    by_cases c34 : (rd t179 x13_3) < ((rd_L1 t178 x13_3).length : Int)
                    ·
                     rw [if_pos c34] at H
                     have c34b0 : decide ((rd t179 x13_3) < ((rd_L1 t178 x13_3).length : Int)) = true := decide_eq_true c34
                     clear c34
                     by_cases c35 : (rd (rd_L1 t178 x13_3) (rd t179 x13_3)) = 0
                     ·
                      rw [if_pos c35] at H
                      exact absurd H (by simp)
                     ·
                      rw [if_neg c35] at H
                      have c35b0 : ((rd (rd_L1 t178 x13_3) (rd t179 x13_3)) == 0) = false := beq_eq_false_iff_ne.mpr c35
                      have c35b1 : ((rd (rd_L1 t178 x13_3) (rd t179 x13_3)) != 0) = true := bne_iff_ne.mpr c35
                      by_cases c36 : (rd t179 x13_3) < (x12_3.length : Int)
                      ·
                       rw [if_pos c36] at H
                       have c36b0 : decide ((rd t179 x13_3) < (x12_3.length : Int)) = true := decide_eq_true c36
                       clear c36
                       obtain ⟨y206, hy206⟩ : ∃ y_ : List Int, y_ = (x12_3.set ((rd t179 x13_3) : Int).toNat (wrap64 ((wrap64 (-(rd (rd_L1 t178 x13_3) x8_1))) * (wrap64 (Int.tdiv x9_2 (rd (rd_L1 t178 x13_3) (rd t179 x13_3))))))) := ⟨_, rfl⟩
                       replace H : (spec_l4Relation.l2 k3 t178 t179 x8_1 x9_2 y206 (wrap64 (x13_3 + 1))) = some (r1, r2) := by first | (rw [hy206]; with_reducible exact H) | (have H2_ := (Option.bind_some _ _).symm.trans H; rw [hy206]; with_reducible exact H2_) | (have H2_ := (Option.bind_some _ _).symm.trans H; with_reducible exact H2_) | with_reducible exact H | (rw [hy206]; exact H) | exact H
                       have Ny206 := aM hy206
                       clear hy206
                       have H' := aM H
                       clear H
                       try go_wp2
                       have n0_ := aM (Kd.S_drew HO_6.out)
                       have n1_ := aM (rD HO_7.out)
                       have n2_ := aM (rD HO_12.out)
                       have n3_ := aM (eD HB.out)
                       clear HO_6 HO_7 HO_12 HB
                       have HO_6 := n0_
                       have HO_7 := n1_
                       have HO_12 := n2_
                       have HB := n3_
                       clear n0_ n1_ n2_ n3_
                       have p200 : 0 ≤ (x13_3 : Int) := of_decide_eq_true (by first | (with_reducible assumption) | assumption)
                       have q200 : x13_3 < (t179.length : Int) := of_decide_eq_true (by first | (with_reducible assumption) | assumption)
                       obtain ⟨ad200, e200, hx200_0⟩ := Kd.at_int (Kd.R_reads' HO_7.out).2.2 x13_3 p200 q200
                       cases e200
                       replace p200 := eq_true p200
                       replace q200 := eq_true q200
                       obtain ⟨Ao39, co39, eo39⟩ := Kd.S_slice HO_6.out
                       (first | subst eo39 | (injection eo39 with f1_ f2_ f3_; have f4_ := f1_.symm; have f5_ := f3_.symm; clear f1_ f2_ f3_; subst f4_; subst f5_))
                       have p201 : 0 ≤ (x13_3 : Int) := of_decide_eq_true (by first | (with_reducible assumption) | assumption)
                       have q201 : x13_3 < (t178.length : Int) := of_decide_eq_true (by first | (with_reducible assumption) | assumption)
                       obtain ⟨ad201, A201_0, c201_0, e201, hx201_0, hl201_0, hi201_0⟩ := at_L1 (Kd.S_reads' HO_6.out).2.2 x13_3 p201 q201
                       cases e201
                       obtain ⟨ce201, hce201, hMe201, hcc201⟩ := Kd.S_get HO_6.out [] x13_3 p201 (by first | exact q201 | exact of_decide_eq_true (by first | (with_reducible assumption) | assumption) | (have e_ := (Kd.S_reads' HO_6.out).1; omega))
                       obtain ⟨ve201_0, rfl, ge201_0⟩ := hMe201
                       have hv201_0 := hcc201 0 _ rfl
                       rw [Nat.add_zero, show ((Kd.slice 3 (Kd.int .i64))).sz = 1 from rfl, Nat.mul_one] at hv201_0
                       replace hv201_0 := Option.some.inj (hv201_0.symm.trans hx201_0)
                       rw [hv201_0] at ge201_0
                       have HL201_0 := aM (show Kd.R (Kd.int .i64) 3 _ _ _ _ (rd_L1 t178 x13_3) from ge201_0)
                       clear hv201_0 ge201_0 hcc201 hce201
                       have HR201_0 := aM hi201_0
                       have HC201_0 := aM hl201_0
                       clear hi201_0 hl201_0
                       replace p201 := eq_true p201
                       replace q201 := eq_true q201
                       have p202 : 0 ≤ (x8_1 : Int) := of_decide_eq_true (by first | (with_reducible assumption) | assumption)
                       have q202 : x8_1 < ((rd_L1 t178 x13_3).length : Int) := of_decide_eq_true (by first | (with_reducible assumption) | assumption)
                       obtain ⟨ad202, e202, hx202_0⟩ := Kd.at_int (by repeat (first | (with_reducible exact HR201_0.out) | (with_reducible refine Kd.C_alloc ?_ _) | (with_reducible refine Kd.C_drewN ?_ _) | (with_reducible refine Kd.C_drew ?_) | exact HR201_0.out)) x8_1 p202 q202
                       cases e202
                       replace p202 := eq_true p202
                       replace q202 := eq_true q202
                       have p203 : 0 ≤ (x13_3 : Int) := of_decide_eq_true (by first | (with_reducible assumption) | assumption)
                       have q203 : x13_3 < (t178.length : Int) := of_decide_eq_true (by first | (with_reducible assumption) | assumption)
                       obtain ⟨ad203, A203_0, c203_0, e203, hx203_0, hl203_0, hi203_0⟩ := at_L1 (Kd.S_reads' HO_6.out).2.2 x13_3 p203 q203
                       obtain rfl : ad201 = ad203 := (by injection e203)
                       obtain ⟨ce203, hce203, hMe203, hcc203⟩ := Kd.S_get HO_6.out [] x13_3 p203 (by first | exact q203 | exact of_decide_eq_true (by first | (with_reducible assumption) | assumption) | (have e_ := (Kd.S_reads' HO_6.out).1; omega))
                       obtain ⟨ve203_0, rfl, ge203_0⟩ := hMe203
                       have hv203_0 := hcc203 0 _ rfl
                       rw [Nat.add_zero, show ((Kd.slice 3 (Kd.int .i64))).sz = 1 from rfl, Nat.mul_one] at hv203_0
                       replace hv203_0 := Option.some.inj (hv203_0.symm.trans hx203_0)
                       rw [hv203_0] at ge203_0
                       have HL203_0 := aM (show Kd.R (Kd.int .i64) 3 _ _ _ _ (rd_L1 t178 x13_3) from ge203_0)
                       clear hv203_0 ge203_0 hcc203 hce203
                       have HR203_0 := aM hi203_0
                       have HC203_0 := aM hl203_0
                       clear hi203_0 hl203_0
                       replace p203 := eq_true p203
                       replace q203 := eq_true q203
                       have ea_ := Option.some.inj (hx201_0.symm.trans hx203_0)
                       injection ea_ with ea_ en_ ec_
                       subst ea_
                       subst ec_
                       clear en_
                       have p204 : 0 ≤ (x13_3 : Int) := of_decide_eq_true (by first | (with_reducible assumption) | assumption)
                       have q204 : x13_3 < (t179.length : Int) := of_decide_eq_true (by first | (with_reducible assumption) | assumption)
                       obtain ⟨ad204, e204, hx204_0⟩ := Kd.at_int (Kd.R_reads' HO_7.out).2.2 x13_3 p204 q204
                       obtain rfl : ad200 = ad204 := (by injection e204)
                       replace p204 := eq_true p204
                       replace q204 := eq_true q204
                       have p205 : 0 ≤ ((rd t179 x13_3) : Int) := of_decide_eq_true (by first | (with_reducible assumption) | assumption)
                       have q205 : (rd t179 x13_3) < ((rd_L1 t178 x13_3).length : Int) := of_decide_eq_true (by first | (with_reducible assumption) | assumption)
                       obtain ⟨ad205, e205, hx205_0⟩ := Kd.at_int (by repeat (first | (with_reducible exact HR203_0.out) | (with_reducible refine Kd.C_alloc ?_ _) | (with_reducible refine Kd.C_drewN ?_ _) | (with_reducible refine Kd.C_drew ?_) | exact HR203_0.out)) (rd t179 x13_3) p205 q205
                       obtain rfl : ad202 = ad205 := (by injection e205)
                       replace p205 := eq_true p205
                       replace q205 := eq_true q205
                       have p37 : 0 ≤ ((rd t179 x13_3) : Int) := of_decide_eq_true (by first | (with_reducible assumption) | assumption)
                       have q37 : ((rd t179 x13_3) : Int) < ((x12_3.length : Int) : Int) := of_decide_eq_true (by first | (with_reducible assumption) | assumption)
                       obtain ⟨hx37_0, hf37_0⟩ := Kd.R_celln 0 HO_12.out ((rd t179 x13_3) : Int) p37 q37
                       replace p37 := eq_true p37
                       replace q37 := eq_true q37
                       have HP40 := Kd.R_putn HO_12.out ((rd t179 x13_3) : Int) (wrap64 ((wrap64 (-(rd (rd_L1 t178 x13_3) x8_1))) * (wrap64 (Int.tdiv x9_2 (rd (rd_L1 t178 x13_3) (rd t179 x13_3))))))
                       rw [← Ny206.out] at HP40
                       have HQ40 := aM HP40
                       clear HP40
                       refine start_ (n := 28) (S := fun w' => w'.cell? (ad200.add (x13_3).toNat) = some (.int .i64 (rd t179 x13_3)) ∧ w'.cell? (ad201.add (x13_3).toNat) = some (.slice (some ad202) (rd_L1 t178 x13_3).length c201_0) ∧ w'.cell? (ad202.add (x8_1).toNat) = some (.int .i64 (rd (rd_L1 t178 x13_3) x8_1)) ∧ w'.cell? (ad201.add (x13_3).toNat) = some (.slice (some ad202) (rd_L1 t178 x13_3).length c201_0) ∧ w'.cell? (ad200.add (x13_3).toNat) = some (.int .i64 (rd t179 x13_3)) ∧ w'.cell? (ad202.add ((rd t179 x13_3)).toNat) = some (.int .i64 (rd (rd_L1 t178 x13_3) (rd t179 x13_3)))) (ds := [27]) #[false, false, false, false, false, false, false, false, false, false, false, false, false, false, false, false, false, false, false, false, false, false, false, false, false, false, false, false] (by kernel_rfl) rfl rfl ⟨hx200_0, hx201_0, hx202_0, hx203_0, hx204_0, hx205_0⟩ (fun hHeld => ?_); refine with_tabW spec_l4Relation.tab17 spec_l4Relation.bits17 (fun HT_ HW_ => ?_)
                       generalize wr.drew = w38 at HO_6 HO_7 HO_12 HB HL201_0 HL203_0 HQ40 HR201_0 HR203_0 hf37_0 hx200_0 hx201_0 hx202_0 hx203_0 hx204_0 hx205_0 hx37_0 hHeld ⊢
                       refine pure_ (i := 0) (N := some 78) (v := ?_) (a' := ?_) #[true, false, false, false, false, false, false, false, false, false, false, false, false, false, false, false, false, false, false, false, false, false, false, false, false, false, false, false] rfl rfl (any_of HT_.out (by kernel_rfl)) (fun _ _ _ h => h) (Or.inl ⟨by rfl, ?_⟩) ?_ ?_
                       rotate_left
                       ·
                        intro w'
                        go_simp
                        with_reducible rfl
                       rotate_left
                       ·
                        simp only [Act.put, sA, sZ, sU, i64_w, i32_w]
                        rfl
                       refine pure_ (i := 1) (N := some 79) (v := ?_) (a' := ?_) #[true, true, false, false, false, false, false, false, false, false, false, false, false, false, false, false, false, false, false, false, false, false, false, false, false, false, false, false] rfl rfl (any_of HT_.out (by kernel_rfl)) (fun _ _ _ h => h) (Or.inl ⟨by rfl, ?_⟩) ?_ ?_
                       rotate_left
                       ·
                        intro w'
                        go_simp
                        with_reducible rfl
                       rotate_left
                       ·
                        simp only [Act.put, sA, sZ, sU, i64_w, i32_w]
                        rfl
                       refine pure_ (i := 2) (N := some 80) (v := ?_) (a' := ?_) #[true, true, true, false, false, false, false, false, false, false, false, false, false, false, false, false, false, false, false, false, false, false, false, false, false, false, false, false] rfl rfl (any_of HT_.out (by kernel_rfl)) (fun _ _ _ h => h) (Or.inl ⟨by rfl, ?_⟩) ?_ ?_
                       rotate_left
                       ·
                        intro w'
                        go_simp
                        with_reducible rfl
                       rotate_left
                       ·
                        simp only [Act.put, sA, sZ, sU, i64_w, i32_w]
                        rfl
                       refine pure_ (i := 3) (N := some 81) (v := ?_) (a' := ?_) #[true, true, true, true, false, false, false, false, false, false, false, false, false, false, false, false, false, false, false, false, false, false, false, false, false, false, false, false] rfl rfl (any_of HT_.out (by kernel_rfl)) (fun _ _ _ h => h) (Or.inl ⟨by rfl, ?_⟩) ?_ ?_
                       rotate_left
                       ·
                        intro w'
                        go_simp
                        with_reducible rfl
                       rotate_left
                       ·
                        simp only [Act.put, sA, sZ, sU, i64_w, i32_w]
                        rfl
                       refine pure_ (i := 5) (N := some 83) (v := ?_) (a' := ?_) #[true, true, true, true, false, true, false, false, false, false, false, false, false, false, false, false, false, false, false, false, false, false, false, false, false, false, false, false] rfl rfl (any_of HT_.out (by kernel_rfl)) (fun _ _ _ h => h) (Or.inl ⟨by rfl, ?_⟩) ?_ ?_
                       rotate_left
                       ·
                        intro w'
                        go_simp
                        with_reducible rfl
                       rotate_left
                       ·
                        simp only [Act.put, sA, sZ, sU, i64_w, i32_w]
                        rfl
                       refine pure_ (i := 6) (N := some 84) (v := ?_) (a' := ?_) #[true, true, true, true, false, true, true, false, false, false, false, false, false, false, false, false, false, false, false, false, false, false, false, false, false, false, false, false] rfl rfl (any_of HT_.out (by kernel_rfl)) (fun _ _ _ h => h) (Or.inl ⟨by rfl, ?_⟩) ?_ ?_
                       rotate_left
                       ·
                        intro w'
                        go_simp
                        with_reducible rfl
                       rotate_left
                       ·
                        simp only [Act.put, sA, sZ, sU, i64_w, i32_w]
                        rfl
                       refine pure_ (i := 7) (N := some 85) (v := ?_) (a' := ?_) #[true, true, true, true, false, true, true, true, false, false, false, false, false, false, false, false, false, false, false, false, false, false, false, false, false, false, false, false] rfl rfl (any_of HT_.out (by kernel_rfl)) (fun _ _ _ h => h) (Or.inl ⟨by rfl, ?_⟩) ?_ ?_
                       rotate_left
                       ·
                        intro w'
                        go_simp
                        with_reducible rfl
                       rotate_left
                       ·
                        simp only [Act.put, sA, sZ, sU, i64_w, i32_w]
                        rfl
                       refine pure_ (i := 9) (N := some 87) (v := ?_) (a' := ?_) #[true, true, true, true, false, true, true, true, false, true, false, false, false, false, false, false, false, false, false, false, false, false, false, false, false, false, false, false] rfl rfl (any_of HT_.out (by kernel_rfl)) (fun _ _ _ h => h) (Or.inl ⟨by rfl, ?_⟩) ?_ ?_
                       rotate_left
                       ·
                        intro w'
                        go_simp
                        with_reducible rfl
                       rotate_left
                       ·
                        simp only [Act.put, sA, sZ, sU, i64_w, i32_w]
                        rfl
                       refine pure_ (i := 13) (N := some 91) (v := ?_) (a' := ?_) #[true, true, true, true, false, true, true, true, false, true, false, false, false, true, false, false, false, false, false, false, false, false, false, false, false, false, false, false] rfl rfl (any_of HT_.out (by kernel_rfl)) (fun _ _ _ h => h) (Or.inl ⟨by rfl, ?_⟩) ?_ ?_
                       rotate_left
                       ·
                        intro w'
                        go_simp
                        with_reducible rfl
                       rotate_left
                       ·
                        simp only [Act.put, sA, sZ, sU, i64_w, i32_w]
                        rfl
                       refine pure_ (i := 14) (N := some 92) (v := ?_) (a' := ?_) #[true, true, true, true, false, true, true, true, false, true, false, false, false, true, true, false, false, false, false, false, false, false, false, false, false, false, false, false] rfl rfl (any_of HT_.out (by kernel_rfl)) (fun _ _ _ h => h) (Or.inl ⟨by rfl, ?_⟩) ?_ ?_
                       rotate_left
                       ·
                        intro w'
                        go_simp
                        with_reducible rfl
                       rotate_left
                       ·
                        simp only [Act.put, sA, sZ, sU, i64_w, i32_w]
                        rfl
                       refine pure_ (i := 15) (N := some 93) (v := ?_) (a' := ?_) #[true, true, true, true, false, true, true, true, false, true, false, false, false, true, true, true, false, false, false, false, false, false, false, false, false, false, false, false] rfl rfl (any_of HT_.out (by kernel_rfl)) (fun _ _ _ h => h) (Or.inl ⟨by rfl, ?_⟩) ?_ ?_
                       rotate_left
                       ·
                        intro w'
                        go_simp
                        with_reducible rfl
                       rotate_left
                       ·
                        simp only [Act.put, sA, sZ, sU, i64_w, i32_w]
                        rfl
                       refine pure_ (i := 16) (N := some 94) (v := ?_) (a' := ?_) #[true, true, true, true, false, true, true, true, false, true, false, false, false, true, true, true, true, false, false, false, false, false, false, false, false, false, false, false] rfl rfl (any_of HT_.out (by kernel_rfl)) (fun _ _ _ h => h) (Or.inl ⟨by rfl, ?_⟩) ?_ ?_
                       rotate_left
                       ·
                        intro w'
                        go_simp
                        with_reducible rfl
                       rotate_left
                       ·
                        simp only [Act.put, sA, sZ, sU, i64_w, i32_w]
                        rfl
                       refine pure_ (i := 18) (N := some 96) (v := ?_) (a' := ?_) #[true, true, true, true, false, true, true, true, false, true, false, false, false, true, true, true, true, false, true, false, false, false, false, false, false, false, false, false] rfl rfl (any_of HT_.out (by kernel_rfl)) (fun _ _ _ h => h) (Or.inl ⟨by rfl, ?_⟩) ?_ ?_
                       rotate_left
                       ·
                        intro w'
                        go_simp
                        with_reducible rfl
                       rotate_left
                       ·
                        simp only [Act.put, sA, sZ, sU, i64_w, i32_w]
                        rfl
                       refine pure_ (i := 19) (N := some 97) (v := ?_) (a' := ?_) #[true, true, true, true, false, true, true, true, false, true, false, false, false, true, true, true, true, false, true, true, false, false, false, false, false, false, false, false] rfl rfl (any_of HT_.out (by kernel_rfl)) (fun _ _ _ h => h) (Or.inl ⟨by rfl, ?_⟩) ?_ ?_
                       rotate_left
                       ·
                        intro w'
                        go_simp
                        with_reducible rfl
                       rotate_left
                       ·
                        simp only [Act.put, sA, sZ, sU, i64_w, i32_w]
                        rfl
                       refine pure_ (i := 20) (N := some 98) (v := ?_) (a' := ?_) #[true, true, true, true, false, true, true, true, false, true, false, false, false, true, true, true, true, false, true, true, true, false, false, false, false, false, false, false] rfl rfl (any_of HT_.out (by kernel_rfl)) (fun _ _ _ h => h) (Or.inl ⟨by rfl, ?_⟩) ?_ ?_
                       rotate_left
                       ·
                        intro w'
                        go_simp
                        with_reducible rfl
                       rotate_left
                       ·
                        simp only [Act.put, sA, sZ, sU, i64_w, i32_w]
                        rfl
                       refine take_ (i := 4) (N := some 82) (v := ?_) (a' := ?_) #[true, true, true, true, true, true, true, true, false, true, false, false, false, true, true, true, true, false, true, true, true, false, false, false, false, false, false, false] rfl rfl (take_ofW HT_.out HW_.out (by kernel_rfl)) (fun _ _ _ h => h) (Or.inl ⟨by rfl, ?_⟩) hHeld ?_ ?_
                       rotate_left
                       ·
                        rintro w' ⟨s0, s1, s2, s3, s4, s5⟩
                        first | (go_simp; with_reducible rfl) | (simp only [add_plain] at s0 s1 s2 s3 s4 s5; go_simp; with_reducible rfl)
                       rotate_left
                       ·
                        simp only [Act.put, sA, sZ, sU, i64_w, i32_w]
                        rfl
                       refine take_ (i := 8) (N := some 86) (v := ?_) (a' := ?_) #[true, true, true, true, true, true, true, true, true, true, false, false, false, true, true, true, true, false, true, true, true, false, false, false, false, false, false, false] rfl rfl (take_ofW HT_.out HW_.out (by kernel_rfl)) (fun _ _ _ h => h) (Or.inl ⟨by rfl, ?_⟩) hHeld ?_ ?_
                       rotate_left
                       ·
                        rintro w' ⟨s0, s1, s2, s3, s4, s5⟩
                        first | (go_simp; with_reducible rfl) | (simp only [add_plain] at s0 s1 s2 s3 s4 s5; go_simp; with_reducible rfl)
                       rotate_left
                       ·
                        simp only [Act.put, sA, sZ, sU, i64_w, i32_w]
                        rfl
                       refine pure_ (i := 10) (N := some 88) (v := ?_) (a' := ?_) #[true, true, true, true, true, true, true, true, true, true, true, false, false, true, true, true, true, false, true, true, true, false, false, false, false, false, false, false] rfl rfl (any_of HT_.out (by kernel_rfl)) (fun _ _ _ h => h) (Or.inl ⟨by rfl, ?_⟩) ?_ ?_
                       rotate_left
                       ·
                        intro w'
                        go_simp
                        with_reducible rfl
                       rotate_left
                       ·
                        simp only [Act.put, sA, sZ, sU, i64_w, i32_w]
                        rfl
                       refine take_ (i := 11) (N := some 89) (v := ?_) (a' := ?_) #[true, true, true, true, true, true, true, true, true, true, true, true, false, true, true, true, true, false, true, true, true, false, false, false, false, false, false, false] rfl rfl (take_ofW HT_.out HW_.out (by kernel_rfl)) (fun _ _ _ h => h) (Or.inl ⟨by rfl, ?_⟩) hHeld ?_ ?_
                       rotate_left
                       ·
                        rintro w' ⟨s0, s1, s2, s3, s4, s5⟩
                        first | (go_simp; with_reducible rfl) | (simp only [add_plain] at s0 s1 s2 s3 s4 s5; go_simp; with_reducible rfl)
                       rotate_left
                       ·
                        simp only [Act.put, sA, sZ, sU, i64_w, i32_w]
                        rfl
                       refine pure_ (i := 12) (N := some 90) (v := ?_) (a' := ?_) #[true, true, true, true, true, true, true, true, true, true, true, true, true, true, true, true, true, false, true, true, true, false, false, false, false, false, false, false] rfl rfl (any_of HT_.out (by kernel_rfl)) (fun _ _ _ h => h) (Or.inl ⟨by rfl, ?_⟩) ?_ ?_
                       rotate_left
                       ·
                        intro w'
                        go_simp
                        with_reducible rfl
                       rotate_left
                       ·
                        simp only [Act.put, sA, sZ, sU, i64_w, i32_w]
                        rfl
                       refine take_ (i := 17) (N := some 95) (v := ?_) (a' := ?_) #[true, true, true, true, true, true, true, true, true, true, true, true, true, true, true, true, true, true, true, true, true, false, false, false, false, false, false, false] rfl rfl (take_ofW HT_.out HW_.out (by kernel_rfl)) (fun _ _ _ h => h) (Or.inl ⟨by rfl, ?_⟩) hHeld ?_ ?_
                       rotate_left
                       ·
                        rintro w' ⟨s0, s1, s2, s3, s4, s5⟩
                        first | (go_simp; with_reducible rfl) | (simp only [add_plain] at s0 s1 s2 s3 s4 s5; go_simp; with_reducible rfl)
                       rotate_left
                       ·
                        simp only [Act.put, sA, sZ, sU, i64_w, i32_w]
                        rfl
                       refine take_ (i := 21) (N := some 99) (v := ?_) (a' := ?_) #[true, true, true, true, true, true, true, true, true, true, true, true, true, true, true, true, true, true, true, true, true, true, false, false, false, false, false, false] rfl rfl (take_ofW HT_.out HW_.out (by kernel_rfl)) (fun _ _ _ h => h) (Or.inl ⟨by rfl, ?_⟩) hHeld ?_ ?_
                       rotate_left
                       ·
                        rintro w' ⟨s0, s1, s2, s3, s4, s5⟩
                        first | (go_simp; with_reducible rfl) | (simp only [add_plain] at s0 s1 s2 s3 s4 s5; go_simp; with_reducible rfl)
                       rotate_left
                       ·
                        simp only [Act.put, sA, sZ, sU, i64_w, i32_w]
                        rfl
                       refine pure_ (i := 22) (N := some 100) (v := ?_) (a' := ?_) #[true, true, true, true, true, true, true, true, true, true, true, true, true, true, true, true, true, true, true, true, true, true, true, false, false, false, false, false] rfl rfl (any_of HT_.out (by kernel_rfl)) (fun _ _ _ h => h) (Or.inl ⟨by rfl, ?_⟩) ?_ ?_
                       rotate_left
                       ·
                        intro w'
                        go_simp
                        with_reducible rfl
                       rotate_left
                       ·
                        simp only [Act.put, sA, sZ, sU, i64_w, i32_w]
                        rfl
                       refine take_ (i := 23) (N := some 101) (v := ?_) (a' := ?_) #[true, true, true, true, true, true, true, true, true, true, true, true, true, true, true, true, true, true, true, true, true, true, true, true, false, false, false, false] rfl rfl (take_ofW HT_.out HW_.out (by kernel_rfl)) (fun _ _ _ h => h) (Or.inl ⟨by rfl, ?_⟩) hHeld ?_ ?_
                       rotate_left
                       ·
                        rintro w' ⟨s0, s1, s2, s3, s4, s5⟩
                        first | (go_simp; with_reducible rfl) | (simp only [add_plain] at s0 s1 s2 s3 s4 s5; go_simp; with_reducible rfl)
                       rotate_left
                       ·
                        simp only [Act.put, sA, sZ, sU, i64_w, i32_w]
                        rfl
                       refine pure_ (i := 24) (N := some 102) (v := ?_) (a' := ?_) #[true, true, true, true, true, true, true, true, true, true, true, true, true, true, true, true, true, true, true, true, true, true, true, true, true, false, false, false] rfl rfl (any_of HT_.out (by kernel_rfl)) (fun _ _ _ h => h) (Or.inl ⟨by rfl, ?_⟩) ?_ ?_
                       rotate_left
                       ·
                        intro w'
                        go_simp
                        with_reducible rfl
                       rotate_left
                       ·
                        simp only [Act.put, sA, sZ, sU, i64_w, i32_w]
                        rfl
                       refine pure_ (i := 25) (N := some 103) (v := ?_) (a' := ?_) #[true, true, true, true, true, true, true, true, true, true, true, true, true, true, true, true, true, true, true, true, true, true, true, true, true, true, false, false] rfl rfl (any_of HT_.out (by kernel_rfl)) (fun _ _ _ h => h) (Or.inl ⟨by rfl, ?_⟩) ?_ ?_
                       rotate_left
                       ·
                        intro w'
                        go_simp
                        with_reducible rfl
                       rotate_left
                       ·
                        simp only [Act.put, sA, sZ, sU, i64_w, i32_w]
                        rfl
                       refine pure_ (i := 26) (N := some 104) (v := ?_) (a' := ?_) #[true, true, true, true, true, true, true, true, true, true, true, true, true, true, true, true, true, true, true, true, true, true, true, true, true, true, true, false] rfl rfl (any_of HT_.out (by kernel_rfl)) (fun _ _ _ h => h) (Or.inl ⟨by rfl, ?_⟩) ?_ ?_
                       rotate_left
                       ·
                        intro w'
                        go_simp
                        with_reducible rfl
                       rotate_left
                       ·
                        simp only [Act.put, sA, sZ, sU, i64_w, i32_w]
                        rfl
                       refine last_ (i := 27) (N := none) #[true, true, true, true, true, true, true, true, true, true, true, true, true, true, true, true, true, true, true, true, true, true, true, true, true, true, true, true] rfl rfl (one_of HT_.out (by kernel_rfl)) (by decide) (fun K hK => ?_)
                       refine skip_ (w1 := ?_) (by rfl) rfl ?_ ?_
                       rotate_left
                       ·
                        go_simp
                        rfl
                       refine hK.out _ _ ?_
                       clear hK K
                       refine done_ (done_of HT_.out (by kernel_rfl)) ?_
                       try go_wp2
                       (try simp only [← hl12_3])
                       go_roundg k3
                       case measure => have := HK1.out; have := HK2.out; have := HK3.out; omega
                       case rel => exact ⟨(y206), (wrap64 (x13_3 + 1)), (by first | rfl | (simp; done) | (simp [*]; done)), H', ⟨by have := HK1.out; have := HK2.out; have := HK3.out; omega⟩, ⟨by (try simp only [hl12_3]); (with_reducible repeat (first | apply Kd.S_alloc | apply Kd.S_drewN | apply Kd.S_drew)); exact Kd.S_mono (Kd.S_far (p := ⟨go23, ((rd t179 x13_3) : Int).toNat, none⟩) (Kd.S_mono HO_6.out (fun k_ hk => (⟨hk, fun e_ => hk.2 (by rw [e_]; rfl)⟩ : _ ∧ k_ ≠ go23))) (fun _ hk => hk.2) (.int .i64 (wrap64 ((wrap64 (-(rd (rd_L1 t178 x13_3) x8_1))) * (wrap64 (Int.tdiv x9_2 (rd (rd_L1 t178 x13_3) (rd t179 x13_3)))))))) (fun _ hk => ⟨hk.1.1, hk.1.2⟩)⟩, ⟨by (try simp only [hl12_3]); (with_reducible repeat (first | apply rA | apply rN | apply rD)); exact rM (Kd.R_far (p := ⟨go23, ((rd t179 x13_3) : Int).toNat, none⟩) (rM HO_7.out (fun k_ hk => (⟨hk, fun e_ => hk (by rw [e_]; rfl)⟩ : _ ∧ k_ ≠ go23))) (fun _ hk => hk.2) (.int .i64 (wrap64 ((wrap64 (-(rd (rd_L1 t178 x13_3) x8_1))) * (wrap64 (Int.tdiv x9_2 (rd (rd_L1 t178 x13_3) (rd t179 x13_3)))))))) (fun _ hk => hk.1)⟩, ⟨by (try simp only [hl12_3]); (with_reducible repeat (first | apply rA | apply rN | apply rD)); exact HQ40.out⟩, ⟨xG1 HB.out GB23.out⟩⟩
                      ·
                       rw [if_neg c36] at H
                       exact absurd H (by simp)
                    ·
                     rw [if_neg c34] at H
                     exact absurd H (by simp)
                   ·
                    rw [if_neg c33] at H
                    exact absurd H (by simp)
                  ·
                   rw [if_neg c32] at H
                   exact absurd H (by simp)
                 ·
                  rw [if_neg c31] at H
                  exact absurd H (by simp)
                ·
                 rw [if_neg c30] at H
                 exact absurd H (by simp)
               ·
                rw [if_neg c29] at H
                exact absurd H (by simp)
              ·
               rw [if_neg c28] at H
               have c28b0 : decide (x13_3 < (t179.length : Int)) = false := decide_eq_false c28
               clear c28
               replace H := oB.mp H
               obtain ⟨t207, A410, H⟩ := H
               replace H : (some (t207, true)) = some (r1, r2) := H
               have A41 := aM A410
               clear A410
               simp only [Option.some.injEq, Prod.mk.injEq] at H
               obtain ⟨rfl, rfl⟩ := H
               go_wp2_with (first | ((with_reducible refine gate_callee (f := 99) rfl ?_); refine goesL_ (some 106) rfl rfl Try.func99 (by kernel_rfl) rfl #[.slice (some ⟨go23, 0, none⟩) x12_3.length co23] rfl xL ?_; (with_reducible refine (spec_l4Divided.calls k3 _ _ x12_3 t207 _ ?side1 ?side2 A41.out).mono ?_); (case side1 => exact xC (Kd.R_reads' HO_12.out).2.2); (case side2 => exact (Kd.R_reads' HO_12.out).2.1); rintro e w42 ⟨v208, rfl, ho0, hb⟩; refine ⟨_, rfl, ?_⟩; replace HO_6 := aM (Kd.S_elder' (xS HO_6.out) (Kd.R_base ho0) hb); have HO209 := aM (Kd.R_lower (Kd.R_new' (Kd.R_new' ho0 (Kd.R_lt (xR HO_7.out))) (Kd.R_lt (xR HO_12.out))) (below_size (xH HB.out))); replace HO_7 := aM (Kd.R_elder' (xR HO_7.out) (Kd.R_base ho0) hb); replace HO_12 := aM (Kd.R_elder' (xR HO_12.out) (Kd.R_base ho0) hb); replace HB := aM (below_step (xH HB.out) hb); (try clear hb; try clear hb2; try clear hk; try clear hi; try clear ho0)))
               go_ret2
               exact ⟨_, by first | rfl | (simp [errW_none, errW_some] <;> rfl) | (simp [*, errW_none, errW_some] <;> rfl), by (with_reducible repeat (first | apply rA | apply rN | apply rD)); exact rM HO209.out (fun _ hk => trivial), by repeat (first | (with_reducible first | exact HB.out | apply eA | apply eN | apply eD) | exact HB.out)⟩
           ·
            rw [if_neg c22] at H
            exact absurd H (by simp)
          ·
           rw [if_neg c21] at H
           exact absurd H (by simp)
         ·
          rw [if_neg c20] at H
          exact absurd H (by simp)
        ·
         rw [if_neg c19] at H
         exact absurd H (by simp)
 ·
  rw [if_neg c4] at H
  have c4b0 : ((t179.length : Int) == (wrap64 (a1 - 1))) = false := beq_eq_false_iff_ne.mpr c4
  have c4b1 : ((t179.length : Int) != (wrap64 (a1 - 1))) = true := bne_iff_ne.mpr c4
  obtain ⟨y184, hy184⟩ : ∃ y_ : List Int, y_ = (([] : List Int)) := ⟨_, rfl⟩
  replace H : (some (y184, false)) = some (r1, r2) := by first | (rw [hy184]; with_reducible exact H) | (have H2_ := (Option.bind_some _ _).symm.trans H; rw [hy184]; with_reducible exact H2_) | (have H2_ := (Option.bind_some _ _).symm.trans H; with_reducible exact H2_) | with_reducible exact H | (rw [hy184]; exact H) | exact H
  have Ny184 := aM hy184
  clear hy184
  simp only [Option.some.injEq, Prod.mk.injEq] at H
  obtain ⟨rfl, rfl⟩ := H
  go_enter Try.func73, Try.ntmps73
  go_wp2_with (first | ((with_reducible refine gate_callee (f := 96) rfl ?_); refine goesL_ (some 17) rfl rfl Try.func96 (by kernel_rfl) rfl #[.slice A0 l0.length c0, .int .i64 a1] rfl xL ?_; (with_reducible refine (spec_l4Reduced.calls k _ _ l0 a1 t178 t179 _ ?side1 ?side2 A3.out).mono ?_); (case side1 => exact xC HR0.out); (case side2 => exact HC0.out); rintro e w43 ⟨v180, v182, rfl, ho0, ho1, hb⟩; refine ⟨_, rfl, ?_⟩; have HO181 := aM (Kd.S_lower ho0 (below_size (xH HB.out))); have HO183 := aM (Kd.R_lower ho1 (below_size (xH HB.out))); replace HB := aM (below_step (xH HB.out) hb); (try clear hb; try clear hb2; try clear hk; try clear hi; try clear ho0; try clear ho1); obtain ⟨Ao44, co44, eo44⟩ := Kd.R_slice HO183.out; subst eo44) | ((with_reducible refine gate_dst (N := 25) rfl ?_); refine Kd.R_lit (Kd.int .i64) _ 3 ?hg (N := 25) ?hd (xs := ([] : List Int)) (inner := []) (ok := fun _ => True) (okp := fun _ => True) ?hr ?hp (fun _ hk => hk) trivial (Below.refl _ _) (Nat.le_refl _) (by simp) ?_; (case hd => rfl); (case hg => rfl); (case hr => first | (go_simp; done) | (go_simp; rfl)); (case hp => exact (Reps.none _ _)); intro v185 w45 ho46 hb hg_ hnew_; clear hg_ hnew_; (first | rw [← Ny184.out] at ho46 | (simp only [Int.reduceToNat] at ho46; rw [← Ny184.out] at ho46)); replace HO181 := aM (Kd.S_elder' (xS HO181.out) (Kd.R_base ho46) hb); have HO186 := aM (Kd.R_lower (Kd.R_new' ho46 (Kd.R_lt (xR HO183.out))) (below_size (xH HB.out))); replace HO183 := aM (Kd.R_elder' (xR HO183.out) (Kd.R_base ho46) hb); replace HB := aM (below_step (xH HB.out) hb); clear hb ho46))
  go_ret2
  exact ⟨_, by first | rfl | (simp [errW_none, errW_some] <;> rfl) | (simp [*, errW_none, errW_some] <;> rfl), by (with_reducible repeat (first | apply rA | apply rN | apply rD)); exact rM HO186.out (fun _ hk => trivial), by repeat (first | (with_reducible first | exact HB.out | apply eA | apply eN | apply eD) | exact HB.out)⟩
end Go.Proofs.Ytgidnmpppbkamaa.PFnExactIsWeighted
