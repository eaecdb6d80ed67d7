-- Laid for this claim by a program of the session's own (wip/tool/myprint.py).
import Derived.Test.YtgidnmpppbkamaaMFnExactPlaneClassx0
import Derived.Test.YtgidnmpppbkamaaMFnExactPlaneClassx3
import Derived.Test.YtgidnmpppbkamaaMFnExactPlaneClassx4
import Derived.Test.YtgidnmpppbkamaaMFnExactPlaneClassx5
namespace Go.Proofs.Ytgidnmpppbkamaa.PFnExactPlaneClass
open Go.RowKit Go.Proofs.YtgidnmpppbkamaaW.PrintWords Go.Proofs.YtgidnmpppbkamaaW.PrintLast Go.Proofs.YtgidnmpppbkamaaW.PrintMore
attribute [local go_sem] max2_int min2_int max_two min_two max_three min_three max_four min_four
set_option linter.unusedVariables false
set_option maxHeartbeats 8000000
set_option maxRecDepth 100000
set_option linter.unusedSimpArgs false
mutual
def spec_l4Relation.l0 : Nat → Int → List (List Int) → List Int → Int → Int → Option (List Int × Bool)
 | 0, _, _, _, _, _ => none
 | k + 1, x1, x6, x7, x8, x9 => (spec_l1Has.f k x7 x8).bind fun t204 => (if t204 = true then (spec_l4Relation.l0 k x1 x6 x7 (wrap64 (x8 + 1)) x9) else (spec_l4Relation.l1 k x1 x6 x7 x8 x9 0))
def spec_l4Relation.l1 : Nat → Int → List (List Int) → List Int → Int → Int → Int → Option (List Int × Bool)
 | 0, _, _, _, _, _, _ => none
 | k + 1, x1, x6, x7, x8, x9, x10 => if x10 < (x7.length : Int) then (if 0 ≤ x10 then (if x10 < (x6.length : Int) then (if 0 ≤ (rd x7 x10) then (if (rd x7 x10) < ((rd_L1 x6 x10).length : Int) then ((spec_l1Most.f (rd (rd_L1 x6 x10) (rd x7 x10)) (wrap64 (-(rd (rd_L1 x6 x10) (rd x7 x10))))).bind fun t211 => ((spec_l2Gcd.f k x9 t211).bind fun t212 => (if t212 = 0 then (none) else (spec_l4Relation.l1 k x1 x6 x7 x8 (wrap64 ((wrap64 (Int.tdiv x9 t212)) * t211)) (wrap64 (x10 + 1)))))) else (none)) else (none)) else (none)) else (none)) else (if 0 ≤ x1 then (if (x1 : Int).toNat ≤ 35184372088832 then ((some (List.replicate (x1 : Int).toNat 0 : List Int)).bind fun y213 => (if 0 ≤ x8 then (if x8 < (y213.length : Int) then (spec_l4Relation.l2 k x6 x7 x8 x9 (y213.set (x8 : Int).toNat x9) 0) else (none)) else (none))) else (none)) else (none))
def spec_l4Relation.l2 : Nat → List (List Int) → List Int → Int → Int → List Int → Int → Option (List Int × Bool)
 | 0, _, _, _, _, _, _ => none
 | k + 1, x6, x7, x8, x9, x12, x13 => if x13 < (x7.length : Int) then (if 0 ≤ x13 then (if x13 < (x6.length : Int) then (if 0 ≤ x8 then (if x8 < ((rd_L1 x6 x13).length : Int) then (if 0 ≤ (rd x7 x13) then (if (rd x7 x13) < ((rd_L1 x6 x13).length : Int) then (if (rd (rd_L1 x6 x13) (rd x7 x13)) = 0 then (none) else (if (rd x7 x13) < (x12.length : Int) then (spec_l4Relation.l2 k x6 x7 x8 x9 (x12.set ((rd x7 x13) : Int).toNat (wrap64 ((wrap64 (-(rd (rd_L1 x6 x13) x8))) * (wrap64 (Int.tdiv x9 (rd (rd_L1 x6 x13) (rd x7 x13))))))) (wrap64 (x13 + 1))) else (none))) else (none)) else (none)) else (none)) else (none)) else (none)) else (none)) else ((spec_l4Divided.f k x12).bind fun t224 => (some (t224, true)))
end
def spec_l4Relation.f (k : Nat) (l0 : List (List Int)) (a1 : Int) : Option (List Int × Bool) := (spec_l4Reduced.f k l0 a1).bind fun bt195 => (if (bt195.2.length : Int) = (wrap64 (a1 - 1)) then (spec_l4Relation.l0 k a1 bt195.1 bt195.2 0 1) else (some ((([] : List Int)), false)))
def spec_l4Relation.T10 : Bool × List (List Nat × List Nat) := (true, [([], []), ([], []), ([0, 1], [0, 1]), ([2], [2]), ([], []), ([], []), ([4, 5], [4, 5]), ([6], [6]), ([3, 7], [3, 7]), ([8], [8]), ([], []), ([], []), ([10, 11], [10, 11]), ([12], [12]), ([], []), ([], []), ([14, 15], [14, 15]), ([16], [16]), ([13, 17], [13, 17]), ([18], [18]), ([19], [19]), ([9, 20], [9, 20]), ([21, 21, 0, 1, 2, 3, 4, 5, 6, 7, 8, 9, 10, 11, 12, 13, 14, 15, 16, 17, 18, 19, 20, 21], [21])])
def spec_l4Relation.B10 : List Nat := [0, 0, 3, 7, 0, 0, 48, 112, 255, 511, 0, 0, 3072, 7168, 0, 0, 49152, 114688, 261120, 523264, 1047552, 2097151, 4194303]
theorem spec_l4Relation.tab10 : rtab .any (opsOf Try.f73 10) = spec_l4Relation.T10 := by kernel_rfl
theorem spec_l4Relation.bits10 : waitsOk spec_l4Relation.T10.2 spec_l4Relation.B10 = true := by kernel_rfl
def spec_l4Relation.T17 : Bool × List (List Nat × List Nat) := (true, [([], []), ([], []), ([], []), ([1, 2], [1, 2]), ([3], [3]), ([], []), ([], []), ([5, 6], [5, 6]), ([7], [7]), ([], []), ([8, 9], [8, 9]), ([10], [10]), ([11], [11]), ([], []), ([], []), ([], []), ([14, 15], [14, 15]), ([16], [16]), ([], []), ([], []), ([18, 19], [18, 19]), ([20], [20]), ([17, 21], [17, 21]), ([22], [22]), ([13, 23], [13, 23]), ([12, 24], [12, 24]), ([0, 4, 0, 1, 2, 3, 4, 5, 6, 7, 8, 9, 10, 11, 12, 13, 14, 15, 16, 17, 18, 19, 20, 21, 22, 23, 24, 25], [0, 4]), ([26, 25, 0, 1, 2, 3, 4, 5, 6, 7, 8, 9, 10, 11, 12, 13, 14, 15, 16, 17, 18, 19, 20, 21, 22, 23, 24, 25], [25, 26])])
def spec_l4Relation.B17 : List Nat := [0, 0, 0, 6, 14, 0, 0, 96, 224, 0, 992, 2016, 4064, 0, 0, 0, 49152, 114688, 0, 0, 786432, 1835008, 4177920, 8372224, 16769024, 33554400, 67108863, 134217727]
theorem spec_l4Relation.tab17 : rtab .any (opsOf Try.f73 17) = spec_l4Relation.T17 := by kernel_rfl
theorem spec_l4Relation.bits17 : waitsOk spec_l4Relation.T17.2 spec_l4Relation.B17 = true := by kernel_rfl
theorem spec_l4Relation.calls (k : Nat) (A0 : Option Addr) (c0 : Nat) (l0 : List (List Int)) (a1 : Int) (r1 : List Int) (r2 : Bool) (w : World) (hr0 : Kd.C (Kd.slice 3 (Kd.int .i64)) w A0 l0.length l0) (hc0 : l0.length ≤ c0) (h : spec_l4Relation.f k l0 a1 = some (r1, r2)) :
  Calls Try.prog 73 #[.slice A0 l0.length c0, .int .i64 a1] w fun e w' => ∃ v0_ : Value, e = .returned (.tuple #[v0_, .bool r2]) ∧ Kd.R (Kd.int .i64) 3 w' w.heap.size (fun _ => True) v0_ r1 ∧ Below w.heap.size w w' := by
 have HR0 := aM hr0
 have HC0 := aM hc0
 clear hr0 hc0
 have HB := aM (Below.refl w.heap.size w)
 have H : ((spec_l4Reduced.f k l0 a1).bind fun bt195 => (if (bt195.2.length : Int) = (wrap64 (a1 - 1)) then (spec_l4Relation.l0 k a1 bt195.1 bt195.2 0 1) else (some ((([] : List Int)), false)))) = some (r1, r2) := h
 clear h
 replace H := oB.mp H
 obtain ⟨⟨t195, t196⟩, A30, H⟩ := H
 (try dsimp only at H)
 have A3 := aM A30
 clear A30
 by_cases c4 : (t196.length : Int) = (wrap64 (a1 - 1))
 rotate_left
 ·
  rw [if_neg c4] at H
  have c4b0 : ((t196.length : Int) == (wrap64 (a1 - 1))) = false := beq_eq_false_iff_ne.mpr c4
  have c4b1 : ((t196.length : Int) != (wrap64 (a1 - 1))) = true := bne_iff_ne.mpr c4
  obtain ⟨y201, hy201⟩ := yE (([] : List Int) : List Int)
  replace H : (some (y201, false)) = some (r1, r2) := yI hy201 H
  have Ny201 := aM hy201
  clear hy201
  simp only [Option.some.injEq, Prod.mk.injEq] at H
  obtain ⟨rfl, rfl⟩ := H
  go_enter Try.func73, Try.ntmps73
  go_wp2_with (first | (refine yL 17 Try.func96 #[.slice A0 l0.length c0, .int .i64 a1] ?_; (with_reducible refine (spec_l4Reduced.calls k _ _ l0 a1 t195 t196 _ ?side1 ?side2 A3.out).mono ?_); (case side1 => exact xC HR0.out); (case side2 => exact HC0.out); rintro e w43 ⟨v197, v199, rfl, ho0, ho1, hb⟩; refine ⟨_, rfl, ?_⟩; have HO198 := aM (Kd.S_lower ho0 (below_size (xH HB.out))); have HO200 := aM (Kd.R_lower ho1 (below_size (xH HB.out))); replace HB := yS0 HB hb; (try clear hb; try clear hk; try clear ho0; try clear ho1); obtain ⟨Ao44, co44, eo44⟩ := Kd.R_slice HO200.out; subst eo44) | ((with_reducible refine gate_dst (N := 25) rfl ?_); refine Kd.R_lit (Kd.int .i64) _ 3 ?hg (N := 25) ?hd (xs := ([] : List Int)) (inner := []) (ok := fun _ => True) (okp := fun _ => True) ?hr ?hp (fun _ hk => hk) trivial (Below.refl _ _) (Nat.le_refl _) (by simp) ?_; (case hd => rfl); (case hg => rfl); (case hr => first | (go_simp; done) | (go_simp; rfl)); (case hp => exact (Reps.none _ _)); intro v202 w45 ho46 hb hg_ hnew_; clear hg_ hnew_; (first | rw [← Ny201.out] at ho46 | (simp only [Int.reduceToNat] at ho46; rw [← Ny201.out] at ho46)); replace HO198 := aM (Kd.S_elder' (xS HO198.out) (Kd.R_base ho46) hb); have HO203 := aM (Kd.R_lower (Kd.R_new' ho46 (Kd.R_lt (xR HO200.out))) (below_size (xH HB.out))); replace HO200 := aM (Kd.R_elder' (xR HO200.out) (Kd.R_base ho46) hb); replace HB := yS0 HB hb; clear hb ho46))
  go_ret2
  exact ⟨_, yF, zR (rM HO203.out (fun _ hk => trivial)), by repeat (first | (with_reducible first | exact HB.out | apply eA | apply eN | apply eD) | exact HB.out)⟩
 rw [if_pos c4] at H
 have c4b0 : ((t196.length : Int) == (wrap64 (a1 - 1))) = true := beq_iff_eq.mpr c4
 have c4b1 : ((t196.length : Int) != (wrap64 (a1 - 1))) = false := bne_eq_false_iff_eq.mpr c4
 clear c4
 have H' := aM H
 clear H
 go_enter Try.func73, Try.ntmps73
 go_wp2_with (first | (refine yL 17 Try.func96 #[.slice A0 l0.length c0, .int .i64 a1] ?_; (with_reducible refine (spec_l4Reduced.calls k _ _ l0 a1 t195 t196 _ ?side1 ?side2 A3.out).mono ?_); (case side1 => exact xC HR0.out); (case side2 => exact HC0.out); rintro e w5 ⟨v197, v199, rfl, ho0, ho1, hb⟩; refine ⟨_, rfl, ?_⟩; have HO198 := aM (Kd.S_lower ho0 (below_size (xH HB.out))); have HO200 := aM (Kd.R_lower ho1 (below_size (xH HB.out))); replace HB := yS0 HB hb; (try clear hb; try clear hk; try clear ho0; try clear ho1); obtain ⟨Ao6, co6, eo6⟩ := Kd.R_slice HO200.out; subst eo6))
 go_loopg [8] k (fun kq v8 w' => ∃ (x8_1 : Int), v8 = .int .i64 x8_1 ∧ Aside0 (spec_l4Relation.l0 kq a1 t195 t196 x8_1 1 = some (r1, r2)) ∧ Aside0 (kq ≤ k) ∧ Aside0 (Kd.S (Kd.slice 3 (Kd.int .i64)) 22 w' w.heap.size (fun k_ => some k_ ≠ ((.slice Ao6 t196.length co6) : Value).ownBlock) v197 t195) ∧ Aside0 (Kd.R (Kd.int .i64) 3 w' w.heap.size (fun _ => True) (.slice Ao6 t196.length co6) t196) ∧ Aside0 (Below w.heap.size w w'))
 case atStart => exact ⟨(0), yZ, H', ⟨Nat.le_refl _⟩, ⟨xS HO198.out⟩, ⟨xR HO200.out⟩, ⟨xH HB.out⟩⟩
 case round =>
  clear H'
  try clear c4; try clear c4b0; try clear c4b1
  obtain ⟨x8_1, rfl, HA, HK1, HO_6, HO_7, HB⟩ := hrel
  cases gk with
  | zero => exact absurd HA.out (by simp [spec_l4Relation.l0])
  | succ k1 =>
   have H := HA.out
   clear HA
   simp only [spec_l4Relation.l0] at H
   replace H := oB.mp H
   obtain ⟨t204, A70, H⟩ := H
   have A7 := aM A70
   clear A70
   by_cases c8 : t204 = true
   ·
    subst c8
    rw [if_pos rfl] at H
    have H' := aM H
    clear H
    go_wp2_with (first | (refine yL 28 Try.func32 #[.slice Ao6 t196.length co6, .int .i64 x8_1] ?_; (with_reducible refine (spec_l1Has.calls k1 _ _ t196 x8_1 true _ ?side1 ?side2 A7.out).mono ?_); (case side1 => exact xC (Kd.R_reads' HO_7.out).2.2); (case side2 => exact (Kd.R_reads' HO_7.out).2.1); rintro e w' ⟨rfl, ⟨nd, rfl⟩⟩; refine ⟨_, rfl, ?_⟩))
    go_roundg k1
    case measure => have := HK1.out; omega
    case rel => exact ⟨(wrap64 (x8_1 + 1)), yZ, H', ⟨by have := HK1.out; omega⟩, ⟨xS HO_6.out⟩, ⟨xR HO_7.out⟩, ⟨xH HB.out⟩⟩
   replace c8 := Bool.eq_false_iff.mpr c8
   subst c8
   rw [if_neg (show ¬ (false = true) by decide)] at H
   have H' := aM H
   clear H
   go_wp2_with (first | (refine yL 28 Try.func32 #[.slice Ao6 t196.length co6, .int .i64 x8_1] ?_; (with_reducible refine (spec_l1Has.calls k1 _ _ t196 x8_1 false _ ?side1 ?side2 A7.out).mono ?_); (case side1 => exact xC (Kd.R_reads' HO_7.out).2.2); (case side2 => exact (Kd.R_reads' HO_7.out).2.1); rintro e w' ⟨rfl, ⟨nd, rfl⟩⟩; refine ⟨_, rfl, ?_⟩))
   go_loopg [9, 10] k1 (fun kq v9 v10 w' => ∃ (x9_2 : Int) (x10_2 : Int), v9 = .int .i64 x9_2 ∧ v10 = .int .i64 x10_2 ∧ Aside0 (spec_l4Relation.l1 kq a1 t195 t196 x8_1 x9_2 x10_2 = some (r1, r2)) ∧ Aside0 (kq ≤ k1) ∧ Aside0 (Kd.S (Kd.slice 3 (Kd.int .i64)) 22 w' w.heap.size (fun k_ => some k_ ≠ ((.slice Ao6 t196.length co6) : Value).ownBlock) v197 t195) ∧ Aside0 (Kd.R (Kd.int .i64) 3 w' w.heap.size (fun _ => True) (.slice Ao6 t196.length co6) t196) ∧ Aside0 (Below w.heap.size w w'))
   case atStart => exact ⟨(1), (0), yZ, yZ, H', ⟨Nat.le_refl _⟩, ⟨xS HO_6.out⟩, ⟨xR HO_7.out⟩, ⟨xH HB.out⟩⟩
   case round =>
    clear H'
    try clear c8
    obtain ⟨x9_2, x10_2, rfl, rfl, HA, HK2, HO_6, HO_7, HB⟩ := hrel
    cases gk with
    | zero => exact absurd HA.out (by simp [spec_l4Relation.l1])
    | succ k2 =>
     have H := HA.out
     clear HA
     simp only [spec_l4Relation.l1] at H
     by_cases c9 : x10_2 < (t196.length : Int)
     ·
      rw [if_pos c9] at H
      have c9b0 := decide_eq_true c9
      clear c9
      by_cases c10 : 0 ≤ x10_2
      rotate_left
      ·
       rw [if_neg c10] at H
       exact absurd H (by simp)
      rw [if_pos c10] at H
      have c10b0 := decide_eq_true c10
      clear c10
      by_cases c11 : x10_2 < (t195.length : Int)
      rotate_left
      ·
       rw [if_neg c11] at H
       exact absurd H (by simp)
      rw [if_pos c11] at H
      have c11b0 := decide_eq_true c11
      clear c11
      by_cases c12 : 0 ≤ (rd t196 x10_2)
      rotate_left
      ·
       rw [if_neg c12] at H
       exact absurd H (by simp)
      rw [if_pos c12] at H
      have c12b0 := decide_eq_true c12
      clear c12
      by_cases c13 : (rd t196 x10_2) < ((rd_L1 t195 x10_2).length : Int)
      rotate_left
      ·
       rw [if_neg c13] at H
       exact absurd H (by simp)
      rw [if_pos c13] at H
      have c13b0 := decide_eq_true c13
      clear c13
      replace H := oB.mp H
      obtain ⟨t211, A140, H⟩ := H
      have A14 := aM A140
      clear A140
      replace H := oB.mp H
      obtain ⟨t212, A150, H⟩ := H
      have A15 := aM A150
      clear A150
      by_cases c16 : t212 = 0
      ·
       rw [if_pos c16] at H
       exact absurd H (by simp)
      rw [if_neg c16] at H
      have c16b0 : (t212 == 0) = false := beq_eq_false_iff_ne.mpr c16
      have c16b1 : (t212 != 0) = true := bne_iff_ne.mpr c16
      have H' := aM H
      clear H
      try go_wp2
      replace HO_6 := aM (Kd.S_drew HO_6.out)
      replace HO_7 := aM (rD HO_7.out)
      replace HB := aM (eD HB.out)
      obtain ⟨Ao18, co18, eo18⟩ := Kd.S_slice HO_6.out
      (first | subst eo18 | (injection eo18 with f1_ f2_ f3_; have f4_ := f1_.symm; have f5_ := f3_.symm; clear f1_ f2_ f3_; subst f4_; subst f5_))
      have p205 : 0 ≤ (x10_2 : Int) := yA
      have q205 : x10_2 < (t195.length : Int) := yA
      obtain ⟨ad205, A205_0, c205_0, e205, hx205_0, hl205_0, hi205_0⟩ := at_L1 (Kd.S_reads' HO_6.out).2.2 x10_2 p205 q205
      cases e205
      obtain ⟨ce205, hce205, hMe205, hcc205⟩ := Kd.S_get HO_6.out [] x10_2 p205 (by first | exact q205 | exact yA | (have e_ := (Kd.S_reads' HO_6.out).1; omega))
      obtain ⟨ve205_0, rfl, ge205_0⟩ := hMe205
      have hv205_0 := hcc205 0 _ rfl
      rw [Nat.add_zero, show ((Kd.slice 3 (Kd.int .i64))).sz = 1 from rfl, Nat.mul_one] at hv205_0
      replace hv205_0 := Option.some.inj (hv205_0.symm.trans hx205_0)
      rw [hv205_0] at ge205_0
      have HL205_0 := aM (show Kd.R (Kd.int .i64) 3 _ _ _ _ (rd_L1 t195 x10_2) from ge205_0)
      clear hv205_0 ge205_0 hcc205 hce205
      have HR205_0 := aM hi205_0
      have HC205_0 := aM hl205_0
      clear hi205_0 hl205_0
      replace p205 := eq_true p205
      replace q205 := eq_true q205
      have p206 : 0 ≤ (x10_2 : Int) := yA
      have q206 : x10_2 < (t196.length : Int) := yA
      obtain ⟨ad206, e206, hx206_0⟩ := Kd.at_int (Kd.R_reads' HO_7.out).2.2 x10_2 p206 q206
      cases e206
      replace p206 := eq_true p206
      replace q206 := eq_true q206
      have p207 : 0 ≤ ((rd t196 x10_2) : Int) := yA
      have q207 : (rd t196 x10_2) < ((rd_L1 t195 x10_2).length : Int) := yA
      obtain ⟨ad207, e207, hx207_0⟩ := Kd.at_int (by repeat (first | (with_reducible exact HR205_0.out) | (with_reducible refine Kd.C_alloc ?_ _) | (with_reducible refine Kd.C_drewN ?_ _) | (with_reducible refine Kd.C_drew ?_) | exact HR205_0.out)) (rd t196 x10_2) p207 q207
      cases e207
      replace p207 := eq_true p207
      replace q207 := eq_true q207
      have p208 : 0 ≤ (x10_2 : Int) := yA
      have q208 : x10_2 < (t195.length : Int) := yA
      obtain ⟨ad208, A208_0, c208_0, e208, hx208_0, hl208_0, hi208_0⟩ := at_L1 (Kd.S_reads' HO_6.out).2.2 x10_2 p208 q208
      obtain rfl : ad205 = ad208 := (by injection e208)
      obtain ⟨ce208, hce208, hMe208, hcc208⟩ := Kd.S_get HO_6.out [] x10_2 p208 (by first | exact q208 | exact yA | (have e_ := (Kd.S_reads' HO_6.out).1; omega))
      obtain ⟨ve208_0, rfl, ge208_0⟩ := hMe208
      have hv208_0 := hcc208 0 _ rfl
      rw [Nat.add_zero, show ((Kd.slice 3 (Kd.int .i64))).sz = 1 from rfl, Nat.mul_one] at hv208_0
      replace hv208_0 := Option.some.inj (hv208_0.symm.trans hx208_0)
      rw [hv208_0] at ge208_0
      have HL208_0 := aM (show Kd.R (Kd.int .i64) 3 _ _ _ _ (rd_L1 t195 x10_2) from ge208_0)
      clear hv208_0 ge208_0 hcc208 hce208
      have HR208_0 := aM hi208_0
      have HC208_0 := aM hl208_0
      clear hi208_0 hl208_0
      replace p208 := eq_true p208
      replace q208 := eq_true q208
      have ea_ := Option.some.inj (hx205_0.symm.trans hx208_0)
      injection ea_ with ea_ en_ ec_
      subst ea_
      subst ec_
      clear en_
      have p209 : 0 ≤ (x10_2 : Int) := yA
      have q209 : x10_2 < (t196.length : Int) := yA
      obtain ⟨ad209, e209, hx209_0⟩ := Kd.at_int (Kd.R_reads' HO_7.out).2.2 x10_2 p209 q209
      obtain rfl : ad206 = ad209 := (by injection e209)
      replace p209 := eq_true p209
      replace q209 := eq_true q209
      have p210 : 0 ≤ ((rd t196 x10_2) : Int) := yA
      have q210 : (rd t196 x10_2) < ((rd_L1 t195 x10_2).length : Int) := yA
      obtain ⟨ad210, e210, hx210_0⟩ := Kd.at_int (by repeat (first | (with_reducible exact HR208_0.out) | (with_reducible refine Kd.C_alloc ?_ _) | (with_reducible refine Kd.C_drewN ?_ _) | (with_reducible refine Kd.C_drew ?_) | exact HR208_0.out)) (rd t196 x10_2) p210 q210
      obtain rfl : ad207 = ad210 := (by injection e210)
      replace p210 := eq_true p210
      replace q210 := eq_true q210
      refine start_ (n := 23) (S := fun w' => w'.cell? (ad205.add (x10_2).toNat) = some (.slice (some ad207) (rd_L1 t195 x10_2).length c205_0) ∧ w'.cell? (ad206.add (x10_2).toNat) = some (.int .i64 (rd t196 x10_2)) ∧ w'.cell? (ad207.add ((rd t196 x10_2)).toNat) = some (.int .i64 (rd (rd_L1 t195 x10_2) (rd t196 x10_2))) ∧ w'.cell? (ad205.add (x10_2).toNat) = some (.slice (some ad207) (rd_L1 t195 x10_2).length c205_0) ∧ w'.cell? (ad206.add (x10_2).toNat) = some (.int .i64 (rd t196 x10_2)) ∧ w'.cell? (ad207.add ((rd t196 x10_2)).toNat) = some (.int .i64 (rd (rd_L1 t195 x10_2) (rd t196 x10_2)))) (ds := []) (bm 23 0) (by kernel_rfl) rfl rfl ⟨hx205_0, hx206_0, hx207_0, hx208_0, hx209_0, hx210_0⟩ (fun hHeld => ?_); refine with_tabW spec_l4Relation.tab10 spec_l4Relation.bits10 (fun HT_ HW_ => ?_)
      generalize wr.drew = w17 at HO_6 HO_7 HB HL205_0 HL208_0 HR205_0 HR208_0 hx205_0 hx206_0 hx207_0 hx208_0 hx209_0 hx210_0 hHeld ⊢
      refine yP 0 37 (bm 23 1) HT_ ?_
      refine yP 1 38 (bm 23 3) HT_ ?_
      refine yP 2 39 (bm 23 7) HT_ ?_
      refine yP 4 41 (bm 23 23) HT_ ?_
      refine yP 5 42 (bm 23 55) HT_ ?_
      refine yP 6 43 (bm 23 119) HT_ ?_
      refine yP 10 47 (bm 23 1143) HT_ ?_
      refine yP 11 48 (bm 23 3191) HT_ ?_
      refine yP 12 49 (bm 23 7287) HT_ ?_
      refine yP 14 51 (bm 23 23671) HT_ ?_
      refine yP 15 52 (bm 23 56439) HT_ ?_
      refine yP 16 53 (bm 23 121975) HT_ ?_
      refine yT6 3 40 (bm 23 121983) HT_ HW_ hHeld ?_
      refine yT6 7 44 (bm 23 122111) HT_ HW_ hHeld ?_
      refine yP 8 45 (bm 23 122367) HT_ ?_
      refine yT6 9 46 (bm 23 122879) HT_ HW_ hHeld ?_
      refine yT6 13 50 (bm 23 131071) HT_ HW_ hHeld ?_
      refine yT6 17 54 (bm 23 262143) HT_ HW_ hHeld ?_
      refine yP 18 55 (bm 23 524287) HT_ ?_
      refine yT6 19 56 (bm 23 1048575) HT_ HW_ hHeld ?_
      refine yP 20 57 (bm 23 2097151) HT_ ?_
      refine yO 21 58 (bm 23 4194303) HT_ (fun K hK => ?_)
      refine yG Try.func97 #[.int .i64 (rd (rd_L1 t195 x10_2) (rd t196 x10_2)), .int .i64 (wrap64 (-(rd (rd_L1 t195 x10_2) (rd t196 x10_2))))] ?_
      with_reducible refine (spec_l1Most.calls (rd (rd_L1 t195 x10_2) (rd t196 x10_2)) (wrap64 (-(rd (rd_L1 t195 x10_2) (rd t196 x10_2)))) t211 _ A14.out).mono ?_
      rintro e w' ⟨rfl, ⟨nd, rfl⟩⟩
      refine ⟨_, rfl, ?_⟩
      refine hK.out _ _ ⟨hHeld.1, hHeld.2.1, hHeld.2.2.1, hHeld.2.2.2.1, hHeld.2.2.2.2.1, hHeld.2.2.2.2.2⟩ (fun hHeld => ?_)
      clear hK K
      refine norm_ (a' := ?_) ?_ ?_
      rotate_left
      ·
       show Act.put _ (some 58) _ = _
       simp only [Act.put, sA, sZ, sU, i64_w, i32_w]
       rfl
      refine yP 22 11 (bm 23 8388607) HT_ ?_
      refine done_ (done_of HT_.out (by kernel_rfl)) ?_
      try go_wp2_with (first | (refine yL 62 Try.func98 #[.int .i64 x9_2, .int .i64 t211] ?_; (with_reducible refine (spec_l2Gcd.calls k2 x9_2 t211 t212 _ A15.out).mono ?_); rintro e w' ⟨rfl, ⟨nd, rfl⟩⟩; refine ⟨_, rfl, ?_⟩))
      go_roundg k2
      case measure => have := HK1.out; have := HK2.out; omega
      case rel => exact ⟨(wrap64 ((wrap64 (Int.tdiv x9_2 t212)) * t211)), (wrap64 (x10_2 + 1)), yZ, yZ, H', ⟨by have := HK1.out; have := HK2.out; omega⟩, ⟨xS HO_6.out⟩, ⟨xR HO_7.out⟩, ⟨xH HB.out⟩⟩
     rw [if_neg c9] at H
     have c9b0 := decide_eq_false c9
     clear c9
     by_cases c19 : 0 ≤ a1
     rotate_left
     ·
      rw [if_neg c19] at H
      exact absurd H (by simp)
     rw [if_pos c19] at H
     have c19b0 := eq_true c19
     have c19b1 : decide (0 ≤ a1) = true := decide_eq_true c19
     clear c19
     by_cases c20 : (a1 : Int).toNat ≤ 35184372088832
     rotate_left
     ·
      rw [if_neg c20] at H
      exact absurd H (by simp)
     rw [if_pos c20] at H
     have c20b0 := eq_true c20
     have c20b1 : decide ((a1 : Int).toNat ≤ 35184372088832) = true := decide_eq_true c20
     clear c20
     obtain ⟨y213, hy213⟩ := yE (List.replicate (a1 : Int).toNat 0 : List Int)
     replace H : (if 0 ≤ x8_1 then (if x8_1 < (y213.length : Int) then (spec_l4Relation.l2 k2 t195 t196 x8_1 x9_2 (y213.set (x8_1 : Int).toNat x9_2) 0) else (none)) else (none)) = some (r1, r2) := yI hy213 H
     have Ny213 := aM hy213
     clear hy213
     by_cases c21 : 0 ≤ x8_1
     rotate_left
     ·
      rw [if_neg c21] at H
      exact absurd H (by simp)
     rw [if_pos c21] at H
     have c21b0 := decide_eq_true c21
     clear c21
     by_cases c22 : x8_1 < (y213.length : Int)
     rotate_left
     ·
      rw [if_neg c22] at H
      exact absurd H (by simp)
     rw [if_pos c22] at H
     have c22b0 := decide_eq_true c22
     clear c22
     obtain ⟨y216, hy216⟩ := yE (y213.set (x8_1 : Int).toNat x9_2 : List Int)
     replace H : (spec_l4Relation.l2 k2 t195 t196 x8_1 x9_2 y216 0) = some (r1, r2) := yI hy216 H
     have Ny216 := aM hy216
     clear hy216
     have H' := aM H
     clear H
     go_wp2_with (first | ((with_reducible refine gate_dst (N := 67) rfl ?_); refine Kd.R_make (Kd.int .i64) _ 3 rfl (N := 67) rfl 22 _ _ rfl a1 rfl rfl Try.underlying22 (.int .i64 0) 8 info3 rfl (by decide) (by omega) 0 (ok := fun _ => True) (okp := fun _ => True) rfl (fun _ hk => hk) trivial (yA) (Nat.le_trans (Nat.mul_le_mul_right _ (yA : a1.toNat ≤ 35184372088832)) (by omega)) (Below.refl _ _) (Nat.le_refl _) ?_; intro v214 w24 ho25 hb hg_ hnew_; clear hg_ hnew_; (first | rw [← Ny213.out] at ho25 | (simp only [Int.reduceToNat] at ho25; rw [← Ny213.out] at ho25)); replace HO_6 := aM (Kd.S_elder' (xS HO_6.out) (Kd.R_base ho25) hb); have HO215 := aM (Kd.R_lower (Kd.R_new' ho25 (Kd.R_lt (xR HO_7.out))) (below_size (xH HB.out))); replace HO_7 := aM (Kd.R_elder' (xR HO_7.out) (Kd.R_base ho25) hb); replace HB := yS0 HB hb; clear hb ho25; have p23 : 0 ≤ (x8_1 : Int) := yA; have q23 : (x8_1 : Int) < ((y213.length : Int) : Int) := yA; obtain ⟨go23, co23, eo23, gb23, gl23, cl23, HG23⟩ := Kd.R_form HO215.out (by omega); (first | cases eo23 | (injection eo23 with ea_ en_ ec_; (first | subst ea_ | (injection ea_ with ea_; subst ea_)); subst ec_; clear en_)); have GB23 := aM gb23; have GG23 := aM HG23; clear gb23 gl23 HG23; obtain ⟨hx23_0, hf23_0⟩ := Kd.R_celln 0 HO215.out (x8_1 : Int) p23 q23; replace p23 := eq_true p23; replace q23 := eq_true q23; have n_ := aM (rM (ok' := (fun k_ => some k_ ≠ (.slice Ao6 t196.length co6 : Value).ownBlock)) HO215.out (fun k_ hk => hk.2)); clear HO215; have HO215 := n_; clear n_; obtain ⟨hy26_, hz26_⟩ := Kd.R_celln 0 HO215.out (x8_1 : Int) (yA) (yA); have HP26 := Kd.R_putg HO215.out (x8_1 : Int) x9_2) | ((with_reducible refine gate_store (t := 3) (p := 71) rfl ?_); refine store_event (t := 3) (p := 71) (v := ?vo_w27) (w1 := (w24.setCell ⟨go23, (x8_1 : Int).toNat, none⟩ (.int .i64 x9_2))) ?hg ?ho ?hn ?hr ?_; (case ho => rfl); (case hg => rfl); (case hn => rfl); (case hr => first | (go_simp; done) | (go_simp; rfl)); intro w27 hw; have hg : w24.grownBy w27 (some go23) := (by rw [hw]; exact HP26.2); have hp_ : Kd.R (Kd.int .i64) 3 w27 w.heap.size (fun k_ => some k_ ≠ (.slice Ao6 t196.length co6 : Value).ownBlock) (.slice (some ⟨go23, 0, none⟩) y213.length co23) y216 := (by rw [hw, Ny216.out]; exact HP26.1); clear HP26; replace HO_6 := aM (Kd.S_after (v := (.slice (some ⟨go23, 0, none⟩) y213.length co23)) (v1 := (.slice (some ⟨go23, 0, none⟩) y213.length co23)) (ok := (fun k_ => some k_ ≠ (.slice Ao6 t196.length co6 : Value).ownBlock)) (xS HO_6.out) hg (.inl rfl)); replace HO_7 := aM (Kd.R_after (v := (.slice (some ⟨go23, 0, none⟩) y213.length co23)) (v1 := (.slice (some ⟨go23, 0, none⟩) y213.length co23)) (ok := (fun _ => True)) (xR HO_7.out) hg (.inl rfl)); replace HO215 := aM (hp_); replace HB := aM ((by rw [hw]; exact eS (HB.out) GB23.out : Below w.heap.size w w27)); clear hg hw hp_))
     go_loopg [13] k2 (fun kq v13 w' => ∃ (x12_3 : List Int) (x13_3 : Int), v13 = .int .i64 x13_3 ∧ Aside0 (spec_l4Relation.l2 kq t195 t196 x8_1 x9_2 x12_3 x13_3 = some (r1, r2)) ∧ Aside0 (kq ≤ k2) ∧ Aside0 (Kd.S (Kd.slice 3 (Kd.int .i64)) 22 w' w.heap.size (fun k_ => some k_ ≠ ((.slice Ao6 t196.length co6) : Value).ownBlock ∧ some k_ ≠ ((.slice (some ⟨go23, 0, none⟩) y213.length co23) : Value).ownBlock) v197 t195) ∧ Aside0 (Kd.R (Kd.int .i64) 3 w' w.heap.size (fun k_ => some k_ ≠ ((.slice (some ⟨go23, 0, none⟩) y213.length co23) : Value).ownBlock) (.slice Ao6 t196.length co6) t196) ∧ Aside0 (Kd.R (Kd.int .i64) 3 w' w.heap.size (fun k_ => some k_ ≠ ((.slice Ao6 t196.length co6) : Value).ownBlock) (.slice (some ⟨go23, 0, none⟩) y213.length co23) x12_3) ∧ Aside0 (Below w.heap.size w w'))
     case atStart => exact ⟨(y216), (0), yZ, H', ⟨Nat.le_refl _⟩, ⟨xS HO_6.out⟩, ⟨zR (rM HO_7.out (fun _ hk => hk.2))⟩, ⟨xR HO215.out⟩, ⟨xH HB.out⟩⟩
     case round =>
      clear H'
      try clear c9; try clear c9b0; try clear c10; try clear c10b0; try clear c11; try clear c11b0; try clear c12; try clear c12b0; try clear c13; try clear c13b0; try clear c16; try clear c16b0; try clear c16b1; try clear c19; try clear c19b0; try clear c19b1; try clear c20; try clear c20b0; try clear c20b1; try clear c21; try clear c21b0; try clear c22; try clear c22b0; try clear p23; try clear q23; try clear hx205_0; try clear hx206_0; try clear hx207_0; try clear hx208_0; try clear hx209_0; try clear hx210_0; try clear hx23_0; try clear p205; try clear p206; try clear p207; try clear p208; try clear p209; try clear p210; try clear q205; try clear q206; try clear q207; try clear q208; try clear q209; try clear q210
      obtain ⟨x12_3, x13_3, rfl, HA, HK3, HO_6, HO_7, HO_12, HB⟩ := hrel
      have hl12_3 := (Kd.R_reads' HO_12.out).1
      rw [hl12_3] at HO_12
      (try simp only [hl12_3])
      (try simp only [hl12_3] at HO_6)
      (try simp only [hl12_3] at HO_7)
      cases gk with
      | zero => exact absurd HA.out (by simp [spec_l4Relation.l2])
      | succ k3 =>
       have H := HA.out
       clear HA
       simp only [spec_l4Relation.l2] at H
       by_cases c28 : x13_3 < (t196.length : Int)
       rotate_left
       ·
        rw [if_neg c28] at H
        have c28b0 := decide_eq_false c28
        clear c28
        replace H := oB.mp H
        obtain ⟨t224, A410, H⟩ := H
        have A41 := aM A410
        clear A410
        simp only [Option.some.injEq, Prod.mk.injEq] at H
        obtain ⟨rfl, rfl⟩ := H
        go_wp2_with (first | (refine yL 106 Try.func99 #[.slice (some ⟨go23, 0, none⟩) x12_3.length co23] ?_; (with_reducible refine (spec_l4Divided.calls k3 _ _ x12_3 t224 _ ?side1 ?side2 A41.out).mono ?_); (case side1 => exact xC (Kd.R_reads' HO_12.out).2.2); (case side2 => exact (Kd.R_reads' HO_12.out).2.1); rintro e w42 ⟨v225, rfl, ho0, hb⟩; refine ⟨_, rfl, ?_⟩; replace HO_6 := aM (Kd.S_elder' (xS HO_6.out) (Kd.R_base ho0) hb); have HO226 := aM (Kd.R_lower (Kd.R_new' (Kd.R_new' ho0 (Kd.R_lt (xR HO_7.out))) (Kd.R_lt (xR HO_12.out))) (below_size (xH HB.out))); replace HO_7 := aM (Kd.R_elder' (xR HO_7.out) (Kd.R_base ho0) hb); replace HO_12 := aM (Kd.R_elder' (xR HO_12.out) (Kd.R_base ho0) hb); replace HB := yS0 HB hb; (try clear hb; try clear hk; try clear ho0)))
        go_ret2
        exact ⟨_, yF, zR (rM HO226.out (fun _ hk => trivial)), by repeat (first | (with_reducible first | exact HB.out | apply eA | apply eN | apply eD) | exact HB.out)⟩
       rw [if_pos c28] at H
       have c28b0 := decide_eq_true c28
       clear c28
       by_cases c29 : 0 ≤ x13_3
       rotate_left
       ·
        rw [if_neg c29] at H
        exact absurd H (by simp)
       rw [if_pos c29] at H
       have c29b0 := decide_eq_true c29
       clear c29
       by_cases c30 : x13_3 < (t195.length : Int)
       rotate_left
       ·
        rw [if_neg c30] at H
        exact absurd H (by simp)
       rw [if_pos c30] at H
       have c30b0 := decide_eq_true c30
       clear c30
       by_cases c31 : 0 ≤ x8_1
       rotate_left
       ·
        rw [if_neg c31] at H
        exact absurd H (by simp)
       rw [if_pos c31] at H
       have c31b0 := decide_eq_true c31
       clear c31
       by_cases c32 : x8_1 < ((rd_L1 t195 x13_3).length : Int)
       rotate_left
       ·
        rw [if_neg c32] at H
        exact absurd H (by simp)
       rw [if_pos c32] at H
       have c32b0 := decide_eq_true c32
       clear c32
       by_cases c33 : 0 ≤ (rd t196 x13_3)
       rotate_left
       ·
        rw [if_neg c33] at H
        exact absurd H (by simp)
       rw [if_pos c33] at H
       have c33b0 := decide_eq_true c33
       clear c33
       by_cases c34 : (rd t196 x13_3) < ((rd_L1 t195 x13_3).length : Int)
       rotate_left
       ·
        rw [if_neg c34] at H
        exact absurd H (by simp)
       rw [if_pos c34] at H
       have c34b0 := decide_eq_true c34
       clear c34
       by_cases c35 : (rd (rd_L1 t195 x13_3) (rd t196 x13_3)) = 0
       ·
        rw [if_pos c35] at H
        exact absurd H (by simp)
       rw [if_neg c35] at H
       have c35b0 : ((rd (rd_L1 t195 x13_3) (rd t196 x13_3)) == 0) = false := beq_eq_false_iff_ne.mpr c35
       have c35b1 : ((rd (rd_L1 t195 x13_3) (rd t196 x13_3)) != 0) = true := bne_iff_ne.mpr c35
       by_cases c36 : (rd t196 x13_3) < (x12_3.length : Int)
       rotate_left
       ·
        rw [if_neg c36] at H
        exact absurd H (by simp)
       rw [if_pos c36] at H
       have c36b0 := decide_eq_true c36
       clear c36
       obtain ⟨y223, hy223⟩ := yE (x12_3.set ((rd t196 x13_3) : Int).toNat (wrap64 ((wrap64 (-(rd (rd_L1 t195 x13_3) x8_1))) * (wrap64 (Int.tdiv x9_2 (rd (rd_L1 t195 x13_3) (rd t196 x13_3)))))) : List Int)
       replace H : (spec_l4Relation.l2 k3 t195 t196 x8_1 x9_2 y223 (wrap64 (x13_3 + 1))) = some (r1, r2) := yI hy223 H
       have Ny223 := aM hy223
       clear hy223
       have H' := aM H
       clear H
       try go_wp2
       replace HO_6 := aM (Kd.S_drew HO_6.out)
       replace HO_7 := aM (rD HO_7.out)
       replace HO_12 := aM (rD HO_12.out)
       replace HB := aM (eD HB.out)
       have p217 : 0 ≤ (x13_3 : Int) := yA
       have q217 : x13_3 < (t196.length : Int) := yA
       obtain ⟨ad217, e217, hx217_0⟩ := Kd.at_int (Kd.R_reads' HO_7.out).2.2 x13_3 p217 q217
       cases e217
       replace p217 := eq_true p217
       replace q217 := eq_true q217
       obtain ⟨Ao39, co39, eo39⟩ := Kd.S_slice HO_6.out
       (first | subst eo39 | (injection eo39 with f1_ f2_ f3_; have f4_ := f1_.symm; have f5_ := f3_.symm; clear f1_ f2_ f3_; subst f4_; subst f5_))
       have p218 : 0 ≤ (x13_3 : Int) := yA
       have q218 : x13_3 < (t195.length : Int) := yA
       obtain ⟨ad218, A218_0, c218_0, e218, hx218_0, hl218_0, hi218_0⟩ := at_L1 (Kd.S_reads' HO_6.out).2.2 x13_3 p218 q218
       cases e218
       obtain ⟨ce218, hce218, hMe218, hcc218⟩ := Kd.S_get HO_6.out [] x13_3 p218 (by first | exact q218 | exact yA | (have e_ := (Kd.S_reads' HO_6.out).1; omega))
       obtain ⟨ve218_0, rfl, ge218_0⟩ := hMe218
       have hv218_0 := hcc218 0 _ rfl
       rw [Nat.add_zero, show ((Kd.slice 3 (Kd.int .i64))).sz = 1 from rfl, Nat.mul_one] at hv218_0
       replace hv218_0 := Option.some.inj (hv218_0.symm.trans hx218_0)
       rw [hv218_0] at ge218_0
       have HL218_0 := aM (show Kd.R (Kd.int .i64) 3 _ _ _ _ (rd_L1 t195 x13_3) from ge218_0)
       clear hv218_0 ge218_0 hcc218 hce218
       have HR218_0 := aM hi218_0
       have HC218_0 := aM hl218_0
       clear hi218_0 hl218_0
       replace p218 := eq_true p218
       replace q218 := eq_true q218
       have p219 : 0 ≤ (x8_1 : Int) := yA
       have q219 : x8_1 < ((rd_L1 t195 x13_3).length : Int) := yA
       obtain ⟨ad219, e219, hx219_0⟩ := Kd.at_int (by repeat (first | (with_reducible exact HR218_0.out) | (with_reducible refine Kd.C_alloc ?_ _) | (with_reducible refine Kd.C_drewN ?_ _) | (with_reducible refine Kd.C_drew ?_) | exact HR218_0.out)) x8_1 p219 q219
       cases e219
       replace p219 := eq_true p219
       replace q219 := eq_true q219
       have p220 : 0 ≤ (x13_3 : Int) := yA
       have q220 : x13_3 < (t195.length : Int) := yA
       obtain ⟨ad220, A220_0, c220_0, e220, hx220_0, hl220_0, hi220_0⟩ := at_L1 (Kd.S_reads' HO_6.out).2.2 x13_3 p220 q220
       obtain rfl : ad218 = ad220 := (by injection e220)
       obtain ⟨ce220, hce220, hMe220, hcc220⟩ := Kd.S_get HO_6.out [] x13_3 p220 (by first | exact q220 | exact yA | (have e_ := (Kd.S_reads' HO_6.out).1; omega))
       obtain ⟨ve220_0, rfl, ge220_0⟩ := hMe220
       have hv220_0 := hcc220 0 _ rfl
       rw [Nat.add_zero, show ((Kd.slice 3 (Kd.int .i64))).sz = 1 from rfl, Nat.mul_one] at hv220_0
       replace hv220_0 := Option.some.inj (hv220_0.symm.trans hx220_0)
       rw [hv220_0] at ge220_0
       have HL220_0 := aM (show Kd.R (Kd.int .i64) 3 _ _ _ _ (rd_L1 t195 x13_3) from ge220_0)
       clear hv220_0 ge220_0 hcc220 hce220
       have HR220_0 := aM hi220_0
       have HC220_0 := aM hl220_0
       clear hi220_0 hl220_0
       replace p220 := eq_true p220
       replace q220 := eq_true q220
       have ea_ := Option.some.inj (hx218_0.symm.trans hx220_0)
       injection ea_ with ea_ en_ ec_
       subst ea_
       subst ec_
       clear en_
       have p221 : 0 ≤ (x13_3 : Int) := yA
       have q221 : x13_3 < (t196.length : Int) := yA
       obtain ⟨ad221, e221, hx221_0⟩ := Kd.at_int (Kd.R_reads' HO_7.out).2.2 x13_3 p221 q221
       obtain rfl : ad217 = ad221 := (by injection e221)
       replace p221 := eq_true p221
       replace q221 := eq_true q221
       have p222 : 0 ≤ ((rd t196 x13_3) : Int) := yA
       have q222 : (rd t196 x13_3) < ((rd_L1 t195 x13_3).length : Int) := yA
       obtain ⟨ad222, e222, hx222_0⟩ := Kd.at_int (by repeat (first | (with_reducible exact HR220_0.out) | (with_reducible refine Kd.C_alloc ?_ _) | (with_reducible refine Kd.C_drewN ?_ _) | (with_reducible refine Kd.C_drew ?_) | exact HR220_0.out)) (rd t196 x13_3) p222 q222
       obtain rfl : ad219 = ad222 := (by injection e222)
       replace p222 := eq_true p222
       replace q222 := eq_true q222
       have p37 : 0 ≤ ((rd t196 x13_3) : Int) := yA
       have q37 : ((rd t196 x13_3) : Int) < ((x12_3.length : Int) : Int) := yA
       obtain ⟨hx37_0, hf37_0⟩ := Kd.R_celln 0 HO_12.out ((rd t196 x13_3) : Int) p37 q37
       replace p37 := eq_true p37
       replace q37 := eq_true q37
       have HP40 := Kd.R_putn HO_12.out ((rd t196 x13_3) : Int) (wrap64 ((wrap64 (-(rd (rd_L1 t195 x13_3) x8_1))) * (wrap64 (Int.tdiv x9_2 (rd (rd_L1 t195 x13_3) (rd t196 x13_3))))))
       rw [← Ny223.out] at HP40
       have HQ40 := aM HP40
       clear HP40
       refine start_ (n := 28) (S := fun w' => w'.cell? (ad217.add (x13_3).toNat) = some (.int .i64 (rd t196 x13_3)) ∧ w'.cell? (ad218.add (x13_3).toNat) = some (.slice (some ad219) (rd_L1 t195 x13_3).length c218_0) ∧ w'.cell? (ad219.add (x8_1).toNat) = some (.int .i64 (rd (rd_L1 t195 x13_3) x8_1)) ∧ w'.cell? (ad218.add (x13_3).toNat) = some (.slice (some ad219) (rd_L1 t195 x13_3).length c218_0) ∧ w'.cell? (ad217.add (x13_3).toNat) = some (.int .i64 (rd t196 x13_3)) ∧ w'.cell? (ad219.add ((rd t196 x13_3)).toNat) = some (.int .i64 (rd (rd_L1 t195 x13_3) (rd t196 x13_3)))) (ds := [27]) (bm 28 0) (by kernel_rfl) rfl rfl ⟨hx217_0, hx218_0, hx219_0, hx220_0, hx221_0, hx222_0⟩ (fun hHeld => ?_); refine with_tabW spec_l4Relation.tab17 spec_l4Relation.bits17 (fun HT_ HW_ => ?_)
       generalize wr.drew = w38 at HO_6 HO_7 HO_12 HB HL218_0 HL220_0 HQ40 HR218_0 HR220_0 hf37_0 hx217_0 hx218_0 hx219_0 hx220_0 hx221_0 hx222_0 hx37_0 hHeld ⊢
       refine yP 0 78 (bm 28 1) HT_ ?_
       refine yP 1 79 (bm 28 3) HT_ ?_
       refine yP 2 80 (bm 28 7) HT_ ?_
       refine yP 3 81 (bm 28 15) HT_ ?_
       refine yP 5 83 (bm 28 47) HT_ ?_
       refine yP 6 84 (bm 28 111) HT_ ?_
       refine yP 7 85 (bm 28 239) HT_ ?_
       refine yP 9 87 (bm 28 751) HT_ ?_
       refine yP 13 91 (bm 28 8943) HT_ ?_
       refine yP 14 92 (bm 28 25327) HT_ ?_
       refine yP 15 93 (bm 28 58095) HT_ ?_
       refine yP 16 94 (bm 28 123631) HT_ ?_
       refine yP 18 96 (bm 28 385775) HT_ ?_
       refine yP 19 97 (bm 28 910063) HT_ ?_
       refine yP 20 98 (bm 28 1958639) HT_ ?_
       refine yT6 4 82 (bm 28 1958655) HT_ HW_ hHeld ?_
       refine yT6 8 86 (bm 28 1958911) HT_ HW_ hHeld ?_
       refine yP 10 88 (bm 28 1959935) HT_ ?_
       refine yT6 11 89 (bm 28 1961983) HT_ HW_ hHeld ?_
       refine yP 12 90 (bm 28 1966079) HT_ ?_
       refine yT6 17 95 (bm 28 2097151) HT_ HW_ hHeld ?_
       refine yT6 21 99 (bm 28 4194303) HT_ HW_ hHeld ?_
       refine yP 22 100 (bm 28 8388607) HT_ ?_
       refine yT6 23 101 (bm 28 16777215) HT_ HW_ hHeld ?_
       refine yP 24 102 (bm 28 33554431) HT_ ?_
       refine yP 25 103 (bm 28 67108863) HT_ ?_
       refine yP 26 104 (bm 28 134217727) HT_ ?_
       refine last_ (i := 27) (N := none) (bm 28 268435455) rfl rfl (one_of HT_.out (by kernel_rfl)) (by decide) (fun K hK => ?_)
       refine skip_ (w1 := ?_) (by rfl) rfl ?_ ?_
       rotate_left
       ·
        go_simp
        rfl
       refine hK.out _ _ ?_
       clear hK K
       refine done_ (done_of HT_.out (by kernel_rfl)) ?_
       try go_wp2
       (try simp only [← hl12_3])
       go_roundg k3
       case measure => have := HK1.out; have := HK2.out; have := HK3.out; omega
       case rel => exact ⟨(y223), (wrap64 (x13_3 + 1)), yZ, H', ⟨by have := HK1.out; have := HK2.out; have := HK3.out; omega⟩, ⟨by (try simp only [hl12_3]); (with_reducible repeat (first | apply Kd.S_alloc | apply Kd.S_drewN | apply Kd.S_drew)); exact Kd.S_mono (Kd.S_far (p := ⟨go23, ((rd t196 x13_3) : Int).toNat, none⟩) (Kd.S_mono HO_6.out (fun k_ hk => (⟨hk, fun e_ => hk.2 (by rw [e_]; rfl)⟩ : _ ∧ k_ ≠ go23))) (fun _ hk => hk.2) (.int .i64 (wrap64 ((wrap64 (-(rd (rd_L1 t195 x13_3) x8_1))) * (wrap64 (Int.tdiv x9_2 (rd (rd_L1 t195 x13_3) (rd t196 x13_3)))))))) (fun _ hk => ⟨hk.1.1, hk.1.2⟩)⟩, ⟨by (try simp only [hl12_3]); (with_reducible repeat (first | apply rA | apply rN | apply rD)); exact rM (Kd.R_far (p := ⟨go23, ((rd t196 x13_3) : Int).toNat, none⟩) (rM HO_7.out (fun k_ hk => (⟨hk, fun e_ => hk (by rw [e_]; rfl)⟩ : _ ∧ k_ ≠ go23))) (fun _ hk => hk.2) (.int .i64 (wrap64 ((wrap64 (-(rd (rd_L1 t195 x13_3) x8_1))) * (wrap64 (Int.tdiv x9_2 (rd (rd_L1 t195 x13_3) (rd t196 x13_3)))))))) (fun _ hk => hk.1)⟩, ⟨by (try simp only [hl12_3]); (with_reducible repeat (first | apply rA | apply rN | apply rD)); exact HQ40.out⟩, ⟨xG1 HB.out GB23.out⟩⟩
end Go.Proofs.Ytgidnmpppbkamaa.PFnExactPlaneClass
