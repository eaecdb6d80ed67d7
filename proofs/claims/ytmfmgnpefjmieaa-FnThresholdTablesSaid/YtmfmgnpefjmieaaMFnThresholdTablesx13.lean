-- Laid for this claim by a program of the session's own (wip/tool/myprint.py).
import Derived.Test.YtmfmgnpefjmieaaMFnThresholdTablesx9
namespace Go.Proofs.Ytmfmgnpefjmieaa.PFnThresholdTables
open Go.RowKit Go.Proofs.YtmfmgnpefjmieaaW.PrintWords Go.Proofs.YtmfmgnpefjmieaaW.PrintLast Go.Proofs.YtmfmgnpefjmieaaW.PrintMore
attribute [local go_sem] max2_int min2_int max_two min_two max_three min_three max_four min_four
set_option linter.unusedVariables false
set_option maxHeartbeats 8000000
set_option maxRecDepth 100000
set_option linter.unusedSimpArgs false
def impl_IsTrade.f (k : Nat) (a0 : Int) (l1 : List Int) (l2 : List Int) : Option (Bool × Bool) := (impl_isTable.f k a0 l1).bind fun t486 => (if t486 = true then (if (l2.length : Int) = 4 then ((impl_allWithin.f k l2 0 (wrap64 ((l1.length : Int) - 1))).bind fun t487 => (if t487 = true then (if 0 < (l2.length : Int) then (if 1 < (l2.length : Int) then (if 2 < (l2.length : Int) then (if 3 < (l2.length : Int) then (if (rd l2 0) ≤ (rd l2 1) then (if (rd l2 2) ≤ (rd l2 3) then (if 0 ≤ (rd l2 0) then (if (rd l2 0) < (l1.length : Int) then (if 0 ≤ (rd l2 1) then (if (rd l2 1) < (l1.length : Int) then (if (wrap64 ((rd l1 (rd l2 0)) + (rd l1 (rd l2 1)))) = 2 then (if 0 ≤ (rd l2 2) then (if (rd l2 2) < (l1.length : Int) then (if 0 ≤ (rd l2 3) then (if (rd l2 3) < (l1.length : Int) then (if (wrap64 ((rd l1 (rd l2 2)) + (rd l1 (rd l2 3)))) = 0 then ((impl_sameSum.f (rd l2 0) (rd l2 1) (rd l2 2) (rd l2 3)).bind fun t496 => (some (t496, true))) else (some (false, true))) else (none)) else (none)) else (none)) else (none)) else (some (false, true))) else (none)) else (none)) else (none)) else (none)) else (some (false, true))) else (some (false, true))) else (none)) else (none)) else (none)) else (none)) else (some (false, true)))) else (some (false, true))) else (some (false, false)))
def impl_IsTrade.T5 : Bool × List (List Nat × List Nat) := (true, [([], []), ([0], [0]), ([1], [1]), ([], []), ([3], [3]), ([4], [4]), ([], []), ([6], [6]), ([7], [7]), ([], []), ([9], [9]), ([10], [10]), ([2, 0, 1, 2], [2]), ([5, 12, 0, 1, 2, 3, 4, 5, 12], [5]), ([8, 13, 0, 1, 2, 3, 4, 5, 6, 7, 8, 12, 13], [8]), ([11, 14, 0, 1, 2, 3, 4, 5, 6, 7, 8, 9, 10, 11, 12, 13, 14], [11])])
def impl_IsTrade.B5 : List Nat := [0, 1, 3, 0, 8, 24, 0, 64, 192, 0, 512, 1536, 7, 4159, 12799, 32767]
theorem impl_IsTrade.tab5 : rtab .any (opsOf Try.f19 5) = impl_IsTrade.T5 := by kernel_rfl
theorem impl_IsTrade.bits5 : waitsOk impl_IsTrade.T5.2 impl_IsTrade.B5 = true := by kernel_rfl
def impl_IsTrade.T6 : Bool × List (List Nat × List Nat) := (true, [([], []), ([], []), ([0, 1], [0, 1]), ([2], [2]), ([3], [3]), ([3], [3]), ([4, 5, 3], [3, 4, 5]), ([3, 6], [3, 6]), ([7, 3], [7]), ([8], [8]), ([8], [8]), ([9, 10, 8], [8, 9, 10]), ([11, 8], [8, 11]), ([8], [8]), ([8], [8]), ([13, 14, 8], [8, 13, 14]), ([15, 8], [8, 15]), ([12, 16, 8], [8, 12, 16]), ([17, 8], [8, 17]), ([8, 18], [8, 18]), ([19, 8], [19]), ([20], [20]), ([20], [20]), ([21, 22, 20], [20, 21, 22]), ([23, 20], [20, 23]), ([20], [20]), ([20], [20]), ([25, 26, 20], [20, 25, 26]), ([27, 20], [20, 27]), ([24, 28, 20], [20, 24, 28]), ([29, 20], [20, 29]), ([20, 30], [20, 30]), ([31, 20], [31]), ([32], [32]), ([32], [32]), ([32], [32]), ([32], [32]), ([33, 34, 35, 36, 32, 32], [32, 33, 34, 35, 36]), ([32, 37], [32, 37]), ([38, 37, 0, 1, 2, 3, 4, 5, 6, 7, 8, 9, 10, 11, 12, 13, 14, 15, 16, 17, 18, 19, 20, 21, 22, 23, 24, 25, 26, 27, 28, 29, 30, 31, 32, 33, 34, 35, 36, 37, 38], [38]), ([39, 0, 1, 2, 3, 4, 5, 6, 7, 8, 9, 10, 11, 12, 13, 14, 15, 16, 17, 18, 19, 20, 21, 22, 23, 24, 25, 26, 27, 28, 29, 30, 31, 32, 33, 34, 35, 36, 37, 38, 39], [])])
def impl_IsTrade.B6 : List Nat := [0, 0, 3, 7, 15, 15, 63, 127, 255, 511, 511, 2047, 4095, 511, 511, 25087, 57855, 131071, 262143, 524287, 1048575, 2097151, 2097151, 8388607, 16777215, 2097151, 2097151, 102760447, 236978175, 536870911, 1073741823, 2147483647, 4294967295, 8589934591, 8589934591, 8589934591, 8589934591, 137438953471, 274877906943, 549755813887, 1099511627775]
theorem impl_IsTrade.tab6 : rtab .any (opsOf Try.f19 6) = impl_IsTrade.T6 := by kernel_rfl
theorem impl_IsTrade.bits6 : waitsOk impl_IsTrade.T6.2 impl_IsTrade.B6 = true := by kernel_rfl
theorem impl_IsTrade.calls (k : Nat) (a0 : Int) (A1 : Option Addr) (c1 : Nat) (l1 : List Int) (A2 : Option Addr) (c2 : Nat) (l2 : List Int) (r1 : Bool) (r2 : Bool) (w : World) (hr1 : Kd.C (Kd.int .i64) w A1 l1.length l1) (hc1 : l1.length ≤ c1) (hr2 : Kd.C (Kd.int .i64) w A2 l2.length l2) (hc2 : l2.length ≤ c2) (h : impl_IsTrade.f k a0 l1 l2 = some (r1, r2)) :
    Calls Try.prog 19 #[.int .i64 a0, .slice A1 l1.length c1, .slice A2 l2.length c2] w fun e w' => e = .returned (.tuple #[.bool r1, .bool r2]) ∧ Below w.heap.size w w' := by
 have HR1 := aM hr1
 have HC1 := aM hc1
 clear hr1 hc1
 have HR2 := aM hr2
 have HC2 := aM hc2
 clear hr2 hc2
 have HB := aM (Below.refl w.heap.size w)
 have H : ((impl_isTable.f k a0 l1).bind fun t486 => (if t486 = true then (if (l2.length : Int) = 4 then ((impl_allWithin.f k l2 0 (wrap64 ((l1.length : Int) - 1))).bind fun t487 => (if t487 = true then (if 0 < (l2.length : Int) then (if 1 < (l2.length : Int) then (if 2 < (l2.length : Int) then (if 3 < (l2.length : Int) then (if (rd l2 0) ≤ (rd l2 1) then (if (rd l2 2) ≤ (rd l2 3) then (if 0 ≤ (rd l2 0) then (if (rd l2 0) < (l1.length : Int) then (if 0 ≤ (rd l2 1) then (if (rd l2 1) < (l1.length : Int) then (if (wrap64 ((rd l1 (rd l2 0)) + (rd l1 (rd l2 1)))) = 2 then (if 0 ≤ (rd l2 2) then (if (rd l2 2) < (l1.length : Int) then (if 0 ≤ (rd l2 3) then (if (rd l2 3) < (l1.length : Int) then (if (wrap64 ((rd l1 (rd l2 2)) + (rd l1 (rd l2 3)))) = 0 then ((impl_sameSum.f (rd l2 0) (rd l2 1) (rd l2 2) (rd l2 3)).bind fun t496 => (some (t496, true))) else (some (false, true))) else (none)) else (none)) else (none)) else (none)) else (some (false, true))) else (none)) else (none)) else (none)) else (none)) else (some (false, true))) else (some (false, true))) else (none)) else (none)) else (none)) else (none)) else (some (false, true)))) else (some (false, true))) else (some (false, false)))) = some (r1, r2) := h
 clear h
 replace H := oB.mp H
 obtain ⟨t486, A40, H⟩ := H
 have A4 := aM A40
 clear A40
 by_cases c5 : t486 = true
 rotate_left
 ·
  replace c5 := Bool.eq_false_iff.mpr c5
  subst c5
  rw [if_neg (show ¬ (false = true) by decide)] at H
  simp only [Option.some.injEq, Prod.mk.injEq] at H
  obtain ⟨rfl, rfl⟩ := H
  go_enter Try.func19, Try.ntmps19
  go_wp2_with (first | (refine yL 14 Try.func74 #[.int .i64 a0, .slice A1 l1.length c1] ?_; (with_reducible refine (impl_isTable.calls k a0 _ _ l1 false _ (xC HR1.out) HC1.out A4.out).mono ?_); rintro e w' ⟨rfl, ⟨nd, rfl⟩⟩; refine ⟨_, rfl, ?_⟩))
  go_ret2
  exact ⟨yF, by repeat (first | (with_reducible first | exact HB.out | apply eA | apply eN | apply eD) | exact HB.out | exact Below.refl _ _)⟩
 subst c5
 rw [if_pos rfl] at H
 obtain ⟨c6, -, H⟩ | ⟨c6, -, H⟩ := yif H
 rotate_left
 ·
  have c6b0 : ((l2.length : Int) == 4) = false := beq_eq_false_iff_ne.mpr c6
  have c6b1 : ((l2.length : Int) != 4) = true := bne_iff_ne.mpr c6
  simp only [Option.some.injEq, Prod.mk.injEq] at H
  obtain ⟨rfl, rfl⟩ := H
  go_enter Try.func19, Try.ntmps19
  go_wp2_with (first | (refine yL 14 Try.func74 #[.int .i64 a0, .slice A1 l1.length c1] ?_; (with_reducible refine (impl_isTable.calls k a0 _ _ l1 true _ (xC HR1.out) HC1.out A4.out).mono ?_); rintro e w' ⟨rfl, ⟨nd, rfl⟩⟩; refine ⟨_, rfl, ?_⟩))
  go_ret2
  exact ⟨yF, by repeat (first | (with_reducible first | exact HB.out | apply eA | apply eN | apply eD) | exact HB.out | exact Below.refl _ _)⟩
 have c6b0 : ((l2.length : Int) == 4) = true := beq_iff_eq.mpr c6
 have c6b1 : ((l2.length : Int) != 4) = false := bne_eq_false_iff_eq.mpr c6
 clear c6
 replace H := oB.mp H
 obtain ⟨t487, A70, H⟩ := H
 have A7 := aM A70
 clear A70
 by_cases c8 : t487 = true
 rotate_left
 ·
  replace c8 := Bool.eq_false_iff.mpr c8
  subst c8
  rw [if_neg (show ¬ (false = true) by decide)] at H
  simp only [Option.some.injEq, Prod.mk.injEq] at H
  obtain ⟨rfl, rfl⟩ := H
  go_enter Try.func19, Try.ntmps19
  go_wp2_with (first | (refine yL 14 Try.func74 #[.int .i64 a0, .slice A1 l1.length c1] ?_; (with_reducible refine (impl_isTable.calls k a0 _ _ l1 true _ (xC HR1.out) HC1.out A4.out).mono ?_); rintro e w' ⟨rfl, ⟨nd, rfl⟩⟩; refine ⟨_, rfl, ?_⟩) | (go_at_call 88; (with_reducible refine (impl_allWithin.calls k _ _ l2 0 (wrap64 ((l1.length : Int) - 1)) false _ (xC HR2.out) HC2.out A7.out).mono ?_); rintro e w' ⟨rfl, ⟨nd, rfl⟩⟩))
  go_ret2
  exact ⟨yF, by repeat (first | (with_reducible first | exact HB.out | apply eA | apply eN | apply eD) | exact HB.out | exact Below.refl _ _)⟩
 subst c8
 rw [if_pos rfl] at H
 obtain ⟨c9, c9b0, H⟩ | ⟨c9, -, H⟩ := yif H
 rotate_left
 · exact absurd H (by simp)
 have c9b1 : decide (0 < l2.length) = true := decide_eq_true (by omega)
 clear c9
 obtain ⟨c10, c10b0, H⟩ | ⟨c10, -, H⟩ := yif H
 rotate_left
 · exact absurd H (by simp)
 have c10b1 : decide (1 < l2.length) = true := decide_eq_true (by omega)
 clear c10
 obtain ⟨c11, c11b0, H⟩ | ⟨c11, -, H⟩ := yif H
 rotate_left
 · exact absurd H (by simp)
 have c11b1 : decide (2 < l2.length) = true := decide_eq_true (by omega)
 clear c11
 obtain ⟨c12, c12b0, H⟩ | ⟨c12, -, H⟩ := yif H
 rotate_left
 · exact absurd H (by simp)
 have c12b1 : decide (3 < l2.length) = true := decide_eq_true (by omega)
 clear c12
 obtain ⟨-, c13b0, H⟩ | ⟨-, c13b0, H⟩ := yif H
 rotate_left
 ·
  simp only [Option.some.injEq, Prod.mk.injEq] at H
  obtain ⟨rfl, rfl⟩ := H
  go_enter Try.func19, Try.ntmps19
  try go_wp2_with (first | (refine yL 14 Try.func74 #[.int .i64 a0, .slice A1 l1.length c1] ?_; (with_reducible refine (impl_isTable.calls k a0 _ _ l1 true _ (xC HR1.out) HC1.out A4.out).mono ?_); rintro e w' ⟨rfl, ⟨nd, rfl⟩⟩; refine ⟨_, rfl, ?_⟩) | (go_at_call 88; (with_reducible refine (impl_allWithin.calls k _ _ l2 0 (wrap64 ((l1.length : Int) - 1)) true _ (xC HR2.out) HC2.out A7.out).mono ?_); rintro e w' ⟨rfl, ⟨nd, rfl⟩⟩))
  replace HB := aM (eD HB.out)
  obtain ⟨ad488, e488, hx488_0, p488, q488⟩ := yi HR2.out 0
  have hw488_0 := hx488_0
  (try rw [show ((0 : Int)).toNat = 0 from rfl] at hw488_0)
  (try rw [show 0 * 1 = 0 from rfl] at hw488_0)
  (try rw [Addr.add_zero'] at hw488_0)
  cases e488
  have qi488 : (0 < l2.length) = True := eq_true (by have q_ := of_eq_true q488; omega)
  (try rw [show ((0 : Int)).toNat = 0 from rfl] at hx488_0)
  (try rw [Addr.add_zero'] at hx488_0)
  replace hx488_0 := yc HB hx488_0
  obtain ⟨ad489, e489, hx489_0, p489, q489⟩ := yi HR2.out 1
  have hw489_0 := hx489_0
  (try rw [show ((1 : Int)).toNat = 1 from rfl] at hw489_0)
  (try rw [show 1 * 1 = 1 from rfl] at hw489_0)
  (try simp only [Nat.reduceMul, Nat.reduceEqDiff, Go.Addr.add, ↓reduceIte] at hw489_0)
  obtain rfl : ad488 = ad489 := (by injection e489)
  (try simp only [show (1 : Int).toNat = 1 from rfl, Nat.reduceMul, Nat.reduceEqDiff, Go.Addr.add, ↓reduceIte] at hx489_0)
  have qi489 : (1 < l2.length) = True := eq_true (by have q_ := of_eq_true q489; omega)
  (try rw [show ((1 : Int)).toNat = 1 from rfl] at hx489_0)
  replace hx489_0 := yc HB hx489_0
  obtain ⟨ad490, e490, hx490_0, p490, q490⟩ := yi HR2.out 2
  have hw490_0 := hx490_0
  (try rw [show ((2 : Int)).toNat = 2 from rfl] at hw490_0)
  (try rw [show 2 * 1 = 2 from rfl] at hw490_0)
  (try simp only [Nat.reduceMul, Nat.reduceEqDiff, Go.Addr.add, ↓reduceIte] at hw490_0)
  obtain rfl : ad488 = ad490 := (by injection e490)
  (try simp only [show (2 : Int).toNat = 2 from rfl, Nat.reduceMul, Nat.reduceEqDiff, Go.Addr.add, ↓reduceIte] at hx490_0)
  have qi490 : (2 < l2.length) = True := eq_true (by have q_ := of_eq_true q490; omega)
  (try rw [show ((2 : Int)).toNat = 2 from rfl] at hx490_0)
  replace hx490_0 := yc HB hx490_0
  obtain ⟨ad491, e491, hx491_0, p491, q491⟩ := yi HR2.out 3
  have hw491_0 := hx491_0
  (try rw [show ((3 : Int)).toNat = 3 from rfl] at hw491_0)
  (try rw [show 3 * 1 = 3 from rfl] at hw491_0)
  (try simp only [Nat.reduceMul, Nat.reduceEqDiff, Go.Addr.add, ↓reduceIte] at hw491_0)
  obtain rfl : ad488 = ad491 := (by injection e491)
  (try simp only [show (3 : Int).toNat = 3 from rfl, Nat.reduceMul, Nat.reduceEqDiff, Go.Addr.add, ↓reduceIte] at hx491_0)
  have qi491 : (3 < l2.length) = True := eq_true (by have q_ := of_eq_true q491; omega)
  (try rw [show ((3 : Int)).toNat = 3 from rfl] at hx491_0)
  replace hx491_0 := yc HB hx491_0
  refine start_ (n := 16) (S := fun w' => w'.cell? ad488 = some (.int .i64 (rd l2 0)) ∧ w'.cell? ⟨ad488.block, ad488.off + 1, none⟩ = some (.int .i64 (rd l2 1)) ∧ w'.cell? ⟨ad488.block, ad488.off + 2, none⟩ = some (.int .i64 (rd l2 2)) ∧ w'.cell? ⟨ad488.block, ad488.off + 3, none⟩ = some (.int .i64 (rd l2 3))) (ds := []) (bm 16 0) (by kernel_rfl) rfl rfl ⟨(by first | exact (HB.out.cell (World.block_lt_of_cell? w _ hw488_0)).trans hw488_0 | exact hw488_0), (by first | exact (HB.out.cell (World.block_lt_of_cell? w _ hw489_0)).trans hw489_0 | exact hw489_0), (by first | exact (HB.out.cell (World.block_lt_of_cell? w _ hw490_0)).trans hw490_0 | exact hw490_0), (by first | exact (HB.out.cell (World.block_lt_of_cell? w _ hw491_0)).trans hw491_0 | exact hw491_0)⟩ (fun hHeld => ?_); refine with_tabW impl_IsTrade.tab5 impl_IsTrade.bits5 (fun HT_ HW_ => ?_)
  generalize w.drew = w34 at HB hx488_0 hx489_0 hx490_0 hx491_0 hHeld ⊢
  refine yP 0 27 (bm 16 1) HT_ ?_
  refine yP 1 28 (bm 16 3) HT_ ?_
  refine yP 3 30 (bm 16 11) HT_ ?_
  refine yP 4 31 (bm 16 27) HT_ ?_
  refine yP 6 33 (bm 16 91) HT_ ?_
  refine yP 7 34 (bm 16 219) HT_ ?_
  refine yP 9 36 (bm 16 731) HT_ ?_
  refine yP 10 37 (bm 16 1755) HT_ ?_
  refine yT4 2 29 (bm 16 1759) HT_ HW_ hHeld ?_
  refine yP 12 8 (bm 16 5855) HT_ ?_
  refine yT4 5 32 (bm 16 5887) HT_ HW_ hHeld ?_
  refine yP 13 9 (bm 16 14079) HT_ ?_
  refine yT4 8 35 (bm 16 14335) HT_ HW_ hHeld ?_
  refine yP 14 10 (bm 16 30719) HT_ ?_
  refine yT4 11 38 (bm 16 32767) HT_ HW_ hHeld ?_
  refine yP 15 11 (bm 16 65535) HT_ ?_
  refine done_ (done_of HT_.out (by kernel_rfl)) ?_
  try go_wp2
  replace HB := aM (eD HB.out)
  refine start_ (n := 41) (S := fun w' => True) (ds := []) (bm 41 0) (by kernel_rfl) rfl rfl trivial (fun hHeld => ?_); refine with_tabW impl_IsTrade.tab6 impl_IsTrade.bits6 (fun HT_ HW_ => ?_)
  generalize w34.drew = w35 at HB hHeld ⊢
  refine yP 0 39 (bm 41 1) HT_ ?_
  refine yP 1 40 (bm 41 3) HT_ ?_
  refine yP 2 41 (bm 41 7) HT_ ?_
  refine yP 3 42 (bm 41 15) HT_ ?_
  refine yU 4 43 (bm 41 31) HT_ ?_
  refine yU 5 44 (bm 41 63) HT_ ?_
  refine yU 6 45 (bm 41 127) HT_ ?_
  refine yP 7 46 (bm 41 255) HT_ ?_
  refine yP 8 47 (bm 41 511) HT_ ?_
  refine yU 9 48 (bm 41 1023) HT_ ?_
  refine yU 10 49 (bm 41 2047) HT_ ?_
  refine yU 11 50 (bm 41 4095) HT_ ?_
  refine yU 12 51 (bm 41 8191) HT_ ?_
  refine yU 13 52 (bm 41 16383) HT_ ?_
  refine yU 14 53 (bm 41 32767) HT_ ?_
  refine yU 15 54 (bm 41 65535) HT_ ?_
  refine yU 16 55 (bm 41 131071) HT_ ?_
  refine yU 17 56 (bm 41 262143) HT_ ?_
  refine yU 18 57 (bm 41 524287) HT_ ?_
  refine yP 19 58 (bm 41 1048575) HT_ ?_
  refine yP 20 59 (bm 41 2097151) HT_ ?_
  refine yU 21 60 (bm 41 4194303) HT_ ?_
  refine yU 22 61 (bm 41 8388607) HT_ ?_
  refine yU 23 62 (bm 41 16777215) HT_ ?_
  refine yU 24 63 (bm 41 33554431) HT_ ?_
  refine yU 25 64 (bm 41 67108863) HT_ ?_
  refine yU 26 65 (bm 41 134217727) HT_ ?_
  refine yU 27 66 (bm 41 268435455) HT_ ?_
  refine yU 28 67 (bm 41 536870911) HT_ ?_
  refine yU 29 68 (bm 41 1073741823) HT_ ?_
  refine yU 30 69 (bm 41 2147483647) HT_ ?_
  refine yP 31 70 (bm 41 4294967295) HT_ ?_
  refine yP 32 71 (bm 41 8589934591) HT_ ?_
  refine yU 33 72 (bm 41 17179869183) HT_ ?_
  refine yU 34 73 (bm 41 34359738367) HT_ ?_
  refine yU 35 74 (bm 41 68719476735) HT_ ?_
  refine yU 36 75 (bm 41 137438953471) HT_ ?_
  refine yU 37 76 (bm 41 274877906943) HT_ ?_
  refine yP 38 77 (bm 41 549755813887) HT_ ?_
  refine yP 39 6 (bm 41 1099511627775) HT_ ?_
  refine yP 40 7 (bm 41 2199023255551) HT_ ?_
  refine done_ (done_of HT_.out (by kernel_rfl)) ?_
  try go_wp2
  go_ret2
  exact ⟨yF, by repeat (first | (with_reducible first | exact HB.out | apply eA | apply eN | apply eD) | exact HB.out | exact Below.refl _ _)⟩
 obtain ⟨-, c14b0, H⟩ | ⟨-, c14b0, H⟩ := yif H
 rotate_left
 ·
  simp only [Option.some.injEq, Prod.mk.injEq] at H
  obtain ⟨rfl, rfl⟩ := H
  go_enter Try.func19, Try.ntmps19
  try go_wp2_with (first | (refine yL 14 Try.func74 #[.int .i64 a0, .slice A1 l1.length c1] ?_; (with_reducible refine (impl_isTable.calls k a0 _ _ l1 true _ (xC HR1.out) HC1.out A4.out).mono ?_); rintro e w' ⟨rfl, ⟨nd, rfl⟩⟩; refine ⟨_, rfl, ?_⟩) | (go_at_call 88; (with_reducible refine (impl_allWithin.calls k _ _ l2 0 (wrap64 ((l1.length : Int) - 1)) true _ (xC HR2.out) HC2.out A7.out).mono ?_); rintro e w' ⟨rfl, ⟨nd, rfl⟩⟩))
  replace HB := aM (eD HB.out)
  obtain ⟨ad488, e488, hx488_0, p488, q488⟩ := yi HR2.out 0
  have hw488_0 := hx488_0
  (try rw [show ((0 : Int)).toNat = 0 from rfl] at hw488_0)
  (try rw [show 0 * 1 = 0 from rfl] at hw488_0)
  (try rw [Addr.add_zero'] at hw488_0)
  cases e488
  have qi488 : (0 < l2.length) = True := eq_true (by have q_ := of_eq_true q488; omega)
  (try rw [show ((0 : Int)).toNat = 0 from rfl] at hx488_0)
  (try rw [Addr.add_zero'] at hx488_0)
  replace hx488_0 := yc HB hx488_0
  obtain ⟨ad489, e489, hx489_0, p489, q489⟩ := yi HR2.out 1
  have hw489_0 := hx489_0
  (try rw [show ((1 : Int)).toNat = 1 from rfl] at hw489_0)
  (try rw [show 1 * 1 = 1 from rfl] at hw489_0)
  (try simp only [Nat.reduceMul, Nat.reduceEqDiff, Go.Addr.add, ↓reduceIte] at hw489_0)
  obtain rfl : ad488 = ad489 := (by injection e489)
  (try simp only [show (1 : Int).toNat = 1 from rfl, Nat.reduceMul, Nat.reduceEqDiff, Go.Addr.add, ↓reduceIte] at hx489_0)
  have qi489 : (1 < l2.length) = True := eq_true (by have q_ := of_eq_true q489; omega)
  (try rw [show ((1 : Int)).toNat = 1 from rfl] at hx489_0)
  replace hx489_0 := yc HB hx489_0
  obtain ⟨ad490, e490, hx490_0, p490, q490⟩ := yi HR2.out 2
  have hw490_0 := hx490_0
  (try rw [show ((2 : Int)).toNat = 2 from rfl] at hw490_0)
  (try rw [show 2 * 1 = 2 from rfl] at hw490_0)
  (try simp only [Nat.reduceMul, Nat.reduceEqDiff, Go.Addr.add, ↓reduceIte] at hw490_0)
  obtain rfl : ad488 = ad490 := (by injection e490)
  (try simp only [show (2 : Int).toNat = 2 from rfl, Nat.reduceMul, Nat.reduceEqDiff, Go.Addr.add, ↓reduceIte] at hx490_0)
  have qi490 : (2 < l2.length) = True := eq_true (by have q_ := of_eq_true q490; omega)
  (try rw [show ((2 : Int)).toNat = 2 from rfl] at hx490_0)
  replace hx490_0 := yc HB hx490_0
  obtain ⟨ad491, e491, hx491_0, p491, q491⟩ := yi HR2.out 3
  have hw491_0 := hx491_0
  (try rw [show ((3 : Int)).toNat = 3 from rfl] at hw491_0)
  (try rw [show 3 * 1 = 3 from rfl] at hw491_0)
  (try simp only [Nat.reduceMul, Nat.reduceEqDiff, Go.Addr.add, ↓reduceIte] at hw491_0)
  obtain rfl : ad488 = ad491 := (by injection e491)
  (try simp only [show (3 : Int).toNat = 3 from rfl, Nat.reduceMul, Nat.reduceEqDiff, Go.Addr.add, ↓reduceIte] at hx491_0)
  have qi491 : (3 < l2.length) = True := eq_true (by have q_ := of_eq_true q491; omega)
  (try rw [show ((3 : Int)).toNat = 3 from rfl] at hx491_0)
  replace hx491_0 := yc HB hx491_0
  refine start_ (n := 16) (S := fun w' => w'.cell? ad488 = some (.int .i64 (rd l2 0)) ∧ w'.cell? ⟨ad488.block, ad488.off + 1, none⟩ = some (.int .i64 (rd l2 1)) ∧ w'.cell? ⟨ad488.block, ad488.off + 2, none⟩ = some (.int .i64 (rd l2 2)) ∧ w'.cell? ⟨ad488.block, ad488.off + 3, none⟩ = some (.int .i64 (rd l2 3))) (ds := []) (bm 16 0) (by kernel_rfl) rfl rfl ⟨(by first | exact (HB.out.cell (World.block_lt_of_cell? w _ hw488_0)).trans hw488_0 | exact hw488_0), (by first | exact (HB.out.cell (World.block_lt_of_cell? w _ hw489_0)).trans hw489_0 | exact hw489_0), (by first | exact (HB.out.cell (World.block_lt_of_cell? w _ hw490_0)).trans hw490_0 | exact hw490_0), (by first | exact (HB.out.cell (World.block_lt_of_cell? w _ hw491_0)).trans hw491_0 | exact hw491_0)⟩ (fun hHeld => ?_); refine with_tabW impl_IsTrade.tab5 impl_IsTrade.bits5 (fun HT_ HW_ => ?_)
  generalize w.drew = w32 at HB hx488_0 hx489_0 hx490_0 hx491_0 hHeld ⊢
  refine yP 0 27 (bm 16 1) HT_ ?_
  refine yP 1 28 (bm 16 3) HT_ ?_
  refine yP 3 30 (bm 16 11) HT_ ?_
  refine yP 4 31 (bm 16 27) HT_ ?_
  refine yP 6 33 (bm 16 91) HT_ ?_
  refine yP 7 34 (bm 16 219) HT_ ?_
  refine yP 9 36 (bm 16 731) HT_ ?_
  refine yP 10 37 (bm 16 1755) HT_ ?_
  refine yT4 2 29 (bm 16 1759) HT_ HW_ hHeld ?_
  refine yP 12 8 (bm 16 5855) HT_ ?_
  refine yT4 5 32 (bm 16 5887) HT_ HW_ hHeld ?_
  refine yP 13 9 (bm 16 14079) HT_ ?_
  refine yT4 8 35 (bm 16 14335) HT_ HW_ hHeld ?_
  refine yP 14 10 (bm 16 30719) HT_ ?_
  refine yT4 11 38 (bm 16 32767) HT_ HW_ hHeld ?_
  refine yP 15 11 (bm 16 65535) HT_ ?_
  refine done_ (done_of HT_.out (by kernel_rfl)) ?_
  try go_wp2
  replace HB := aM (eD HB.out)
  refine start_ (n := 41) (S := fun w' => True) (ds := []) (bm 41 0) (by kernel_rfl) rfl rfl trivial (fun hHeld => ?_); refine with_tabW impl_IsTrade.tab6 impl_IsTrade.bits6 (fun HT_ HW_ => ?_)
  generalize w32.drew = w33 at HB hHeld ⊢
  refine yP 0 39 (bm 41 1) HT_ ?_
  refine yP 1 40 (bm 41 3) HT_ ?_
  refine yP 2 41 (bm 41 7) HT_ ?_
  refine yP 3 42 (bm 41 15) HT_ ?_
  refine yP 4 43 (bm 41 31) HT_ ?_
  refine yP 5 44 (bm 41 63) HT_ ?_
  refine yP 6 45 (bm 41 127) HT_ ?_
  refine yP 7 46 (bm 41 255) HT_ ?_
  refine yP 8 47 (bm 41 511) HT_ ?_
  refine yU 9 48 (bm 41 1023) HT_ ?_
  refine yU 10 49 (bm 41 2047) HT_ ?_
  refine yU 11 50 (bm 41 4095) HT_ ?_
  refine yU 12 51 (bm 41 8191) HT_ ?_
  refine yU 13 52 (bm 41 16383) HT_ ?_
  refine yU 14 53 (bm 41 32767) HT_ ?_
  refine yU 15 54 (bm 41 65535) HT_ ?_
  refine yU 16 55 (bm 41 131071) HT_ ?_
  refine yU 17 56 (bm 41 262143) HT_ ?_
  refine yU 18 57 (bm 41 524287) HT_ ?_
  refine yP 19 58 (bm 41 1048575) HT_ ?_
  refine yP 20 59 (bm 41 2097151) HT_ ?_
  refine yU 21 60 (bm 41 4194303) HT_ ?_
  refine yU 22 61 (bm 41 8388607) HT_ ?_
  refine yU 23 62 (bm 41 16777215) HT_ ?_
  refine yU 24 63 (bm 41 33554431) HT_ ?_
  refine yU 25 64 (bm 41 67108863) HT_ ?_
  refine yU 26 65 (bm 41 134217727) HT_ ?_
  refine yU 27 66 (bm 41 268435455) HT_ ?_
  refine yU 28 67 (bm 41 536870911) HT_ ?_
  refine yU 29 68 (bm 41 1073741823) HT_ ?_
  refine yU 30 69 (bm 41 2147483647) HT_ ?_
  refine yP 31 70 (bm 41 4294967295) HT_ ?_
  refine yP 32 71 (bm 41 8589934591) HT_ ?_
  refine yU 33 72 (bm 41 17179869183) HT_ ?_
  refine yU 34 73 (bm 41 34359738367) HT_ ?_
  refine yU 35 74 (bm 41 68719476735) HT_ ?_
  refine yU 36 75 (bm 41 137438953471) HT_ ?_
  refine yU 37 76 (bm 41 274877906943) HT_ ?_
  refine yP 38 77 (bm 41 549755813887) HT_ ?_
  refine yP 39 6 (bm 41 1099511627775) HT_ ?_
  refine yP 40 7 (bm 41 2199023255551) HT_ ?_
  refine done_ (done_of HT_.out (by kernel_rfl)) ?_
  try go_wp2
  go_ret2
  exact ⟨yF, by repeat (first | (with_reducible first | exact HB.out | apply eA | apply eN | apply eD) | exact HB.out | exact Below.refl _ _)⟩
 obtain ⟨-, c15b0, H⟩ | ⟨c15, -, H⟩ := yif H
 rotate_left
 · exact absurd H (by simp)
 obtain ⟨-, c16b0, H⟩ | ⟨c16, -, H⟩ := yif H
 rotate_left
 · exact absurd H (by simp)
 obtain ⟨-, c17b0, H⟩ | ⟨c17, -, H⟩ := yif H
 rotate_left
 · exact absurd H (by simp)
 obtain ⟨-, c18b0, H⟩ | ⟨c18, -, H⟩ := yif H
 rotate_left
 · exact absurd H (by simp)
 obtain ⟨c19, -, H⟩ | ⟨c19, -, H⟩ := yif H
 rotate_left
 ·
  have c19b0 : ((wrap64 ((rd l1 (rd l2 0)) + (rd l1 (rd l2 1)))) == 2) = false := beq_eq_false_iff_ne.mpr c19
  have c19i0 : ((IntKind.i64.wrap ((rd l1 (rd l2 0)) + (rd l1 (rd l2 1)))) == 2) = false := by rw [i64_w]; exact c19b0
  have c19b1 : ((wrap64 ((rd l1 (rd l2 0)) + (rd l1 (rd l2 1)))) != 2) = true := bne_iff_ne.mpr c19
  simp only [Option.some.injEq, Prod.mk.injEq] at H
  obtain ⟨rfl, rfl⟩ := H
  go_enter Try.func19, Try.ntmps19
  try go_wp2_with (first | (refine yL 14 Try.func74 #[.int .i64 a0, .slice A1 l1.length c1] ?_; (with_reducible refine (impl_isTable.calls k a0 _ _ l1 true _ (xC HR1.out) HC1.out A4.out).mono ?_); rintro e w' ⟨rfl, ⟨nd, rfl⟩⟩; refine ⟨_, rfl, ?_⟩) | (go_at_call 88; (with_reducible refine (impl_allWithin.calls k _ _ l2 0 (wrap64 ((l1.length : Int) - 1)) true _ (xC HR2.out) HC2.out A7.out).mono ?_); rintro e w' ⟨rfl, ⟨nd, rfl⟩⟩))
  replace HB := aM (eD HB.out)
  obtain ⟨ad488, e488, hx488_0, p488, q488⟩ := yi HR2.out 0
  have hw488_0 := hx488_0
  (try rw [show ((0 : Int)).toNat = 0 from rfl] at hw488_0)
  (try rw [show 0 * 1 = 0 from rfl] at hw488_0)
  (try rw [Addr.add_zero'] at hw488_0)
  cases e488
  have qi488 : (0 < l2.length) = True := eq_true (by have q_ := of_eq_true q488; omega)
  (try rw [show ((0 : Int)).toNat = 0 from rfl] at hx488_0)
  (try rw [Addr.add_zero'] at hx488_0)
  replace hx488_0 := yc HB hx488_0
  obtain ⟨ad489, e489, hx489_0, p489, q489⟩ := yi HR2.out 1
  have hw489_0 := hx489_0
  (try rw [show ((1 : Int)).toNat = 1 from rfl] at hw489_0)
  (try rw [show 1 * 1 = 1 from rfl] at hw489_0)
  (try simp only [Nat.reduceMul, Nat.reduceEqDiff, Go.Addr.add, ↓reduceIte] at hw489_0)
  obtain rfl : ad488 = ad489 := (by injection e489)
  (try simp only [show (1 : Int).toNat = 1 from rfl, Nat.reduceMul, Nat.reduceEqDiff, Go.Addr.add, ↓reduceIte] at hx489_0)
  have qi489 : (1 < l2.length) = True := eq_true (by have q_ := of_eq_true q489; omega)
  (try rw [show ((1 : Int)).toNat = 1 from rfl] at hx489_0)
  replace hx489_0 := yc HB hx489_0
  obtain ⟨ad490, e490, hx490_0, p490, q490⟩ := yi HR2.out 2
  have hw490_0 := hx490_0
  (try rw [show ((2 : Int)).toNat = 2 from rfl] at hw490_0)
  (try rw [show 2 * 1 = 2 from rfl] at hw490_0)
  (try simp only [Nat.reduceMul, Nat.reduceEqDiff, Go.Addr.add, ↓reduceIte] at hw490_0)
  obtain rfl : ad488 = ad490 := (by injection e490)
  (try simp only [show (2 : Int).toNat = 2 from rfl, Nat.reduceMul, Nat.reduceEqDiff, Go.Addr.add, ↓reduceIte] at hx490_0)
  have qi490 : (2 < l2.length) = True := eq_true (by have q_ := of_eq_true q490; omega)
  (try rw [show ((2 : Int)).toNat = 2 from rfl] at hx490_0)
  replace hx490_0 := yc HB hx490_0
  obtain ⟨ad491, e491, hx491_0, p491, q491⟩ := yi HR2.out 3
  have hw491_0 := hx491_0
  (try rw [show ((3 : Int)).toNat = 3 from rfl] at hw491_0)
  (try rw [show 3 * 1 = 3 from rfl] at hw491_0)
  (try simp only [Nat.reduceMul, Nat.reduceEqDiff, Go.Addr.add, ↓reduceIte] at hw491_0)
  obtain rfl : ad488 = ad491 := (by injection e491)
  (try simp only [show (3 : Int).toNat = 3 from rfl, Nat.reduceMul, Nat.reduceEqDiff, Go.Addr.add, ↓reduceIte] at hx491_0)
  have qi491 : (3 < l2.length) = True := eq_true (by have q_ := of_eq_true q491; omega)
  (try rw [show ((3 : Int)).toNat = 3 from rfl] at hx491_0)
  replace hx491_0 := yc HB hx491_0
  refine start_ (n := 16) (S := fun w' => w'.cell? ad488 = some (.int .i64 (rd l2 0)) ∧ w'.cell? ⟨ad488.block, ad488.off + 1, none⟩ = some (.int .i64 (rd l2 1)) ∧ w'.cell? ⟨ad488.block, ad488.off + 2, none⟩ = some (.int .i64 (rd l2 2)) ∧ w'.cell? ⟨ad488.block, ad488.off + 3, none⟩ = some (.int .i64 (rd l2 3))) (ds := []) (bm 16 0) (by kernel_rfl) rfl rfl ⟨(by first | exact (HB.out.cell (World.block_lt_of_cell? w _ hw488_0)).trans hw488_0 | exact hw488_0), (by first | exact (HB.out.cell (World.block_lt_of_cell? w _ hw489_0)).trans hw489_0 | exact hw489_0), (by first | exact (HB.out.cell (World.block_lt_of_cell? w _ hw490_0)).trans hw490_0 | exact hw490_0), (by first | exact (HB.out.cell (World.block_lt_of_cell? w _ hw491_0)).trans hw491_0 | exact hw491_0)⟩ (fun hHeld => ?_); refine with_tabW impl_IsTrade.tab5 impl_IsTrade.bits5 (fun HT_ HW_ => ?_)
  generalize w.drew = w30 at HB hx488_0 hx489_0 hx490_0 hx491_0 hHeld ⊢
  refine yP 0 27 (bm 16 1) HT_ ?_
  refine yP 1 28 (bm 16 3) HT_ ?_
  refine yP 3 30 (bm 16 11) HT_ ?_
  refine yP 4 31 (bm 16 27) HT_ ?_
  refine yP 6 33 (bm 16 91) HT_ ?_
  refine yP 7 34 (bm 16 219) HT_ ?_
  refine yP 9 36 (bm 16 731) HT_ ?_
  refine yP 10 37 (bm 16 1755) HT_ ?_
  refine yT4 2 29 (bm 16 1759) HT_ HW_ hHeld ?_
  refine yP 12 8 (bm 16 5855) HT_ ?_
  refine yT4 5 32 (bm 16 5887) HT_ HW_ hHeld ?_
  refine yP 13 9 (bm 16 14079) HT_ ?_
  refine yT4 8 35 (bm 16 14335) HT_ HW_ hHeld ?_
  refine yP 14 10 (bm 16 30719) HT_ ?_
  refine yT4 11 38 (bm 16 32767) HT_ HW_ hHeld ?_
  refine yP 15 11 (bm 16 65535) HT_ ?_
  refine done_ (done_of HT_.out (by kernel_rfl)) ?_
  try go_wp2
  replace HB := aM (eD HB.out)
  obtain ⟨ad492, e492, hx492_0, p492, q492⟩ := yi HR1.out (rd l2 0)
  have hw492_0 := hx492_0
  cases e492
  replace hx492_0 := yc HB hx492_0
  obtain ⟨ad493, e493, hx493_0, p493, q493⟩ := yi HR1.out (rd l2 1)
  have hw493_0 := hx493_0
  obtain rfl : ad492 = ad493 := (by injection e493)
  replace hx493_0 := yc HB hx493_0
  refine start_ (n := 41) (S := fun w' => w'.cell? (ad492.add ((rd l2 0)).toNat) = some (.int .i64 (rd l1 (rd l2 0))) ∧ w'.cell? (ad492.add ((rd l2 1)).toNat) = some (.int .i64 (rd l1 (rd l2 1)))) (ds := []) (bm 41 0) (by kernel_rfl) rfl rfl ⟨(by first | exact (HB.out.cell (World.block_lt_of_cell? w _ hw492_0)).trans hw492_0 | exact hw492_0), (by first | exact (HB.out.cell (World.block_lt_of_cell? w _ hw493_0)).trans hw493_0 | exact hw493_0)⟩ (fun hHeld => ?_); refine with_tabW impl_IsTrade.tab6 impl_IsTrade.bits6 (fun HT_ HW_ => ?_)
  generalize w30.drew = w31 at HB hx492_0 hx493_0 hHeld ⊢
  refine yP 0 39 (bm 41 1) HT_ ?_
  refine yP 1 40 (bm 41 3) HT_ ?_
  refine yP 2 41 (bm 41 7) HT_ ?_
  refine yP 3 42 (bm 41 15) HT_ ?_
  refine yP 4 43 (bm 41 31) HT_ ?_
  refine yP 5 44 (bm 41 63) HT_ ?_
  refine yP 6 45 (bm 41 127) HT_ ?_
  refine yP 7 46 (bm 41 255) HT_ ?_
  refine yP 8 47 (bm 41 511) HT_ ?_
  refine yP 9 48 (bm 41 1023) HT_ ?_
  refine yP 10 49 (bm 41 2047) HT_ ?_
  refine yP 11 50 (bm 41 4095) HT_ ?_
  refine yP 13 52 (bm 41 12287) HT_ ?_
  refine yP 14 53 (bm 41 28671) HT_ ?_
  refine yP 15 54 (bm 41 61439) HT_ ?_
  refine yT2 12 51 (bm 41 65535) HT_ HW_ hHeld ?_
  refine yT2 16 55 (bm 41 131071) HT_ HW_ hHeld ?_
  refine yP 17 56 (bm 41 262143) HT_ ?_
  refine yP 18 57 (bm 41 524287) HT_ ?_
  refine yP 19 58 (bm 41 1048575) HT_ ?_
  refine yP 20 59 (bm 41 2097151) HT_ ?_
  refine yU 21 60 (bm 41 4194303) HT_ ?_
  refine yU 22 61 (bm 41 8388607) HT_ ?_
  refine yU 23 62 (bm 41 16777215) HT_ ?_
  refine yU 24 63 (bm 41 33554431) HT_ ?_
  refine yU 25 64 (bm 41 67108863) HT_ ?_
  refine yU 26 65 (bm 41 134217727) HT_ ?_
  refine yU 27 66 (bm 41 268435455) HT_ ?_
  refine yU 28 67 (bm 41 536870911) HT_ ?_
  refine yU 29 68 (bm 41 1073741823) HT_ ?_
  refine yU 30 69 (bm 41 2147483647) HT_ ?_
  refine yP 31 70 (bm 41 4294967295) HT_ ?_
  refine yP 32 71 (bm 41 8589934591) HT_ ?_
  refine yU 33 72 (bm 41 17179869183) HT_ ?_
  refine yU 34 73 (bm 41 34359738367) HT_ ?_
  refine yU 35 74 (bm 41 68719476735) HT_ ?_
  refine yU 36 75 (bm 41 137438953471) HT_ ?_
  refine yU 37 76 (bm 41 274877906943) HT_ ?_
  refine yP 38 77 (bm 41 549755813887) HT_ ?_
  refine yP 39 6 (bm 41 1099511627775) HT_ ?_
  refine yP 40 7 (bm 41 2199023255551) HT_ ?_
  refine done_ (done_of HT_.out (by kernel_rfl)) ?_
  try go_wp2
  go_ret2
  exact ⟨yF, by repeat (first | (with_reducible first | exact HB.out | apply eA | apply eN | apply eD) | exact HB.out | exact Below.refl _ _)⟩
 have c19b0 : ((wrap64 ((rd l1 (rd l2 0)) + (rd l1 (rd l2 1)))) == 2) = true := beq_iff_eq.mpr c19
 have c19i0 : ((IntKind.i64.wrap ((rd l1 (rd l2 0)) + (rd l1 (rd l2 1)))) == 2) = true := by rw [i64_w]; exact c19b0
 have c19b1 : ((wrap64 ((rd l1 (rd l2 0)) + (rd l1 (rd l2 1)))) != 2) = false := bne_eq_false_iff_eq.mpr c19
 clear c19
 obtain ⟨-, c20b0, H⟩ | ⟨c20, -, H⟩ := yif H
 rotate_left
 · exact absurd H (by simp)
 obtain ⟨-, c21b0, H⟩ | ⟨c21, -, H⟩ := yif H
 rotate_left
 · exact absurd H (by simp)
 obtain ⟨-, c22b0, H⟩ | ⟨c22, -, H⟩ := yif H
 rotate_left
 · exact absurd H (by simp)
 obtain ⟨-, c23b0, H⟩ | ⟨c23, -, H⟩ := yif H
 rotate_left
 · exact absurd H (by simp)
 obtain ⟨c24, -, H⟩ | ⟨c24, -, H⟩ := yif H
 rotate_left
 ·
  have c24b0 : ((wrap64 ((rd l1 (rd l2 2)) + (rd l1 (rd l2 3)))) == 0) = false := beq_eq_false_iff_ne.mpr c24
  have c24i0 : ((IntKind.i64.wrap ((rd l1 (rd l2 2)) + (rd l1 (rd l2 3)))) == 0) = false := by rw [i64_w]; exact c24b0
  have c24b1 : ((wrap64 ((rd l1 (rd l2 2)) + (rd l1 (rd l2 3)))) != 0) = true := bne_iff_ne.mpr c24
  simp only [Option.some.injEq, Prod.mk.injEq] at H
  obtain ⟨rfl, rfl⟩ := H
  go_enter Try.func19, Try.ntmps19
  try go_wp2_with (first | (refine yL 14 Try.func74 #[.int .i64 a0, .slice A1 l1.length c1] ?_; (with_reducible refine (impl_isTable.calls k a0 _ _ l1 true _ (xC HR1.out) HC1.out A4.out).mono ?_); rintro e w' ⟨rfl, ⟨nd, rfl⟩⟩; refine ⟨_, rfl, ?_⟩) | (go_at_call 88; (with_reducible refine (impl_allWithin.calls k _ _ l2 0 (wrap64 ((l1.length : Int) - 1)) true _ (xC HR2.out) HC2.out A7.out).mono ?_); rintro e w' ⟨rfl, ⟨nd, rfl⟩⟩))
  replace HB := aM (eD HB.out)
  obtain ⟨ad488, e488, hx488_0, p488, q488⟩ := yi HR2.out 0
  have hw488_0 := hx488_0
  (try rw [show ((0 : Int)).toNat = 0 from rfl] at hw488_0)
  (try rw [show 0 * 1 = 0 from rfl] at hw488_0)
  (try rw [Addr.add_zero'] at hw488_0)
  cases e488
  have qi488 : (0 < l2.length) = True := eq_true (by have q_ := of_eq_true q488; omega)
  (try rw [show ((0 : Int)).toNat = 0 from rfl] at hx488_0)
  (try rw [Addr.add_zero'] at hx488_0)
  replace hx488_0 := yc HB hx488_0
  obtain ⟨ad489, e489, hx489_0, p489, q489⟩ := yi HR2.out 1
  have hw489_0 := hx489_0
  (try rw [show ((1 : Int)).toNat = 1 from rfl] at hw489_0)
  (try rw [show 1 * 1 = 1 from rfl] at hw489_0)
  (try simp only [Nat.reduceMul, Nat.reduceEqDiff, Go.Addr.add, ↓reduceIte] at hw489_0)
  obtain rfl : ad488 = ad489 := (by injection e489)
  (try simp only [show (1 : Int).toNat = 1 from rfl, Nat.reduceMul, Nat.reduceEqDiff, Go.Addr.add, ↓reduceIte] at hx489_0)
  have qi489 : (1 < l2.length) = True := eq_true (by have q_ := of_eq_true q489; omega)
  (try rw [show ((1 : Int)).toNat = 1 from rfl] at hx489_0)
  replace hx489_0 := yc HB hx489_0
  obtain ⟨ad490, e490, hx490_0, p490, q490⟩ := yi HR2.out 2
  have hw490_0 := hx490_0
  (try rw [show ((2 : Int)).toNat = 2 from rfl] at hw490_0)
  (try rw [show 2 * 1 = 2 from rfl] at hw490_0)
  (try simp only [Nat.reduceMul, Nat.reduceEqDiff, Go.Addr.add, ↓reduceIte] at hw490_0)
  obtain rfl : ad488 = ad490 := (by injection e490)
  (try simp only [show (2 : Int).toNat = 2 from rfl, Nat.reduceMul, Nat.reduceEqDiff, Go.Addr.add, ↓reduceIte] at hx490_0)
  have qi490 : (2 < l2.length) = True := eq_true (by have q_ := of_eq_true q490; omega)
  (try rw [show ((2 : Int)).toNat = 2 from rfl] at hx490_0)
  replace hx490_0 := yc HB hx490_0
  obtain ⟨ad491, e491, hx491_0, p491, q491⟩ := yi HR2.out 3
  have hw491_0 := hx491_0
  (try rw [show ((3 : Int)).toNat = 3 from rfl] at hw491_0)
  (try rw [show 3 * 1 = 3 from rfl] at hw491_0)
  (try simp only [Nat.reduceMul, Nat.reduceEqDiff, Go.Addr.add, ↓reduceIte] at hw491_0)
  obtain rfl : ad488 = ad491 := (by injection e491)
  (try simp only [show (3 : Int).toNat = 3 from rfl, Nat.reduceMul, Nat.reduceEqDiff, Go.Addr.add, ↓reduceIte] at hx491_0)
  have qi491 : (3 < l2.length) = True := eq_true (by have q_ := of_eq_true q491; omega)
  (try rw [show ((3 : Int)).toNat = 3 from rfl] at hx491_0)
  replace hx491_0 := yc HB hx491_0
  refine start_ (n := 16) (S := fun w' => w'.cell? ad488 = some (.int .i64 (rd l2 0)) ∧ w'.cell? ⟨ad488.block, ad488.off + 1, none⟩ = some (.int .i64 (rd l2 1)) ∧ w'.cell? ⟨ad488.block, ad488.off + 2, none⟩ = some (.int .i64 (rd l2 2)) ∧ w'.cell? ⟨ad488.block, ad488.off + 3, none⟩ = some (.int .i64 (rd l2 3))) (ds := []) (bm 16 0) (by kernel_rfl) rfl rfl ⟨(by first | exact (HB.out.cell (World.block_lt_of_cell? w _ hw488_0)).trans hw488_0 | exact hw488_0), (by first | exact (HB.out.cell (World.block_lt_of_cell? w _ hw489_0)).trans hw489_0 | exact hw489_0), (by first | exact (HB.out.cell (World.block_lt_of_cell? w _ hw490_0)).trans hw490_0 | exact hw490_0), (by first | exact (HB.out.cell (World.block_lt_of_cell? w _ hw491_0)).trans hw491_0 | exact hw491_0)⟩ (fun hHeld => ?_); refine with_tabW impl_IsTrade.tab5 impl_IsTrade.bits5 (fun HT_ HW_ => ?_)
  generalize w.drew = w28 at HB hx488_0 hx489_0 hx490_0 hx491_0 hHeld ⊢
  refine yP 0 27 (bm 16 1) HT_ ?_
  refine yP 1 28 (bm 16 3) HT_ ?_
  refine yP 3 30 (bm 16 11) HT_ ?_
  refine yP 4 31 (bm 16 27) HT_ ?_
  refine yP 6 33 (bm 16 91) HT_ ?_
  refine yP 7 34 (bm 16 219) HT_ ?_
  refine yP 9 36 (bm 16 731) HT_ ?_
  refine yP 10 37 (bm 16 1755) HT_ ?_
  refine yT4 2 29 (bm 16 1759) HT_ HW_ hHeld ?_
  refine yP 12 8 (bm 16 5855) HT_ ?_
  refine yT4 5 32 (bm 16 5887) HT_ HW_ hHeld ?_
  refine yP 13 9 (bm 16 14079) HT_ ?_
  refine yT4 8 35 (bm 16 14335) HT_ HW_ hHeld ?_
  refine yP 14 10 (bm 16 30719) HT_ ?_
  refine yT4 11 38 (bm 16 32767) HT_ HW_ hHeld ?_
  refine yP 15 11 (bm 16 65535) HT_ ?_
  refine done_ (done_of HT_.out (by kernel_rfl)) ?_
  try go_wp2
  replace HB := aM (eD HB.out)
  obtain ⟨ad492, e492, hx492_0, p492, q492⟩ := yi HR1.out (rd l2 0)
  have hw492_0 := hx492_0
  cases e492
  replace hx492_0 := yc HB hx492_0
  obtain ⟨ad493, e493, hx493_0, p493, q493⟩ := yi HR1.out (rd l2 1)
  have hw493_0 := hx493_0
  obtain rfl : ad492 = ad493 := (by injection e493)
  replace hx493_0 := yc HB hx493_0
  obtain ⟨ad494, e494, hx494_0, p494, q494⟩ := yi HR1.out (rd l2 2)
  have hw494_0 := hx494_0
  obtain rfl : ad492 = ad494 := (by injection e494)
  replace hx494_0 := yc HB hx494_0
  obtain ⟨ad495, e495, hx495_0, p495, q495⟩ := yi HR1.out (rd l2 3)
  have hw495_0 := hx495_0
  obtain rfl : ad492 = ad495 := (by injection e495)
  replace hx495_0 := yc HB hx495_0
  refine start_ (n := 41) (S := fun w' => w'.cell? (ad492.add ((rd l2 0)).toNat) = some (.int .i64 (rd l1 (rd l2 0))) ∧ w'.cell? (ad492.add ((rd l2 1)).toNat) = some (.int .i64 (rd l1 (rd l2 1))) ∧ w'.cell? (ad492.add ((rd l2 2)).toNat) = some (.int .i64 (rd l1 (rd l2 2))) ∧ w'.cell? (ad492.add ((rd l2 3)).toNat) = some (.int .i64 (rd l1 (rd l2 3)))) (ds := []) (bm 41 0) (by kernel_rfl) rfl rfl ⟨(by first | exact (HB.out.cell (World.block_lt_of_cell? w _ hw492_0)).trans hw492_0 | exact hw492_0), (by first | exact (HB.out.cell (World.block_lt_of_cell? w _ hw493_0)).trans hw493_0 | exact hw493_0), (by first | exact (HB.out.cell (World.block_lt_of_cell? w _ hw494_0)).trans hw494_0 | exact hw494_0), (by first | exact (HB.out.cell (World.block_lt_of_cell? w _ hw495_0)).trans hw495_0 | exact hw495_0)⟩ (fun hHeld => ?_); refine with_tabW impl_IsTrade.tab6 impl_IsTrade.bits6 (fun HT_ HW_ => ?_)
  generalize w28.drew = w29 at HB hx492_0 hx493_0 hx494_0 hx495_0 hHeld ⊢
  refine yP 0 39 (bm 41 1) HT_ ?_
  refine yP 1 40 (bm 41 3) HT_ ?_
  refine yP 2 41 (bm 41 7) HT_ ?_
  refine yP 3 42 (bm 41 15) HT_ ?_
  refine yP 4 43 (bm 41 31) HT_ ?_
  refine yP 5 44 (bm 41 63) HT_ ?_
  refine yP 6 45 (bm 41 127) HT_ ?_
  refine yP 7 46 (bm 41 255) HT_ ?_
  refine yP 8 47 (bm 41 511) HT_ ?_
  refine yP 9 48 (bm 41 1023) HT_ ?_
  refine yP 10 49 (bm 41 2047) HT_ ?_
  refine yP 11 50 (bm 41 4095) HT_ ?_
  refine yP 13 52 (bm 41 12287) HT_ ?_
  refine yP 14 53 (bm 41 28671) HT_ ?_
  refine yP 15 54 (bm 41 61439) HT_ ?_
  refine yT4 12 51 (bm 41 65535) HT_ HW_ hHeld ?_
  refine yT4 16 55 (bm 41 131071) HT_ HW_ hHeld ?_
  refine yP 17 56 (bm 41 262143) HT_ ?_
  refine yP 18 57 (bm 41 524287) HT_ ?_
  refine yP 19 58 (bm 41 1048575) HT_ ?_
  refine yP 20 59 (bm 41 2097151) HT_ ?_
  refine yP 21 60 (bm 41 4194303) HT_ ?_
  refine yP 22 61 (bm 41 8388607) HT_ ?_
  refine yP 23 62 (bm 41 16777215) HT_ ?_
  refine yP 25 64 (bm 41 50331647) HT_ ?_
  refine yP 26 65 (bm 41 117440511) HT_ ?_
  refine yP 27 66 (bm 41 251658239) HT_ ?_
  refine yT4 24 63 (bm 41 268435455) HT_ HW_ hHeld ?_
  refine yT4 28 67 (bm 41 536870911) HT_ HW_ hHeld ?_
  refine yP 29 68 (bm 41 1073741823) HT_ ?_
  refine yP 30 69 (bm 41 2147483647) HT_ ?_
  refine yP 31 70 (bm 41 4294967295) HT_ ?_
  refine yP 32 71 (bm 41 8589934591) HT_ ?_
  refine yU 33 72 (bm 41 17179869183) HT_ ?_
  refine yU 34 73 (bm 41 34359738367) HT_ ?_
  refine yU 35 74 (bm 41 68719476735) HT_ ?_
  refine yU 36 75 (bm 41 137438953471) HT_ ?_
  refine yU 37 76 (bm 41 274877906943) HT_ ?_
  refine yP 38 77 (bm 41 549755813887) HT_ ?_
  refine yP 39 6 (bm 41 1099511627775) HT_ ?_
  refine yP 40 7 (bm 41 2199023255551) HT_ ?_
  refine done_ (done_of HT_.out (by kernel_rfl)) ?_
  try go_wp2
  go_ret2
  exact ⟨yF, by repeat (first | (with_reducible first | exact HB.out | apply eA | apply eN | apply eD) | exact HB.out | exact Below.refl _ _)⟩
 have c24b0 : ((wrap64 ((rd l1 (rd l2 2)) + (rd l1 (rd l2 3)))) == 0) = true := beq_iff_eq.mpr c24
 have c24i0 : ((IntKind.i64.wrap ((rd l1 (rd l2 2)) + (rd l1 (rd l2 3)))) == 0) = true := by rw [i64_w]; exact c24b0
 have c24b1 : ((wrap64 ((rd l1 (rd l2 2)) + (rd l1 (rd l2 3)))) != 0) = false := bne_eq_false_iff_eq.mpr c24
 clear c24
 replace H := oB.mp H
 obtain ⟨t496, A250, H⟩ := H
 have A25 := aM A250
 clear A250
 simp only [Option.some.injEq, Prod.mk.injEq] at H
 obtain ⟨rfl, rfl⟩ := H
 go_enter Try.func19, Try.ntmps19
 try go_wp2_with (first | (refine yL 14 Try.func74 #[.int .i64 a0, .slice A1 l1.length c1] ?_; (with_reducible refine (impl_isTable.calls k a0 _ _ l1 true _ (xC HR1.out) HC1.out A4.out).mono ?_); rintro e w' ⟨rfl, ⟨nd, rfl⟩⟩; refine ⟨_, rfl, ?_⟩) | (go_at_call 88; (with_reducible refine (impl_allWithin.calls k _ _ l2 0 (wrap64 ((l1.length : Int) - 1)) true _ (xC HR2.out) HC2.out A7.out).mono ?_); rintro e w' ⟨rfl, ⟨nd, rfl⟩⟩))
 replace HB := aM (eD HB.out)
 obtain ⟨ad488, e488, hx488_0, p488, q488⟩ := yi HR2.out 0
 have hw488_0 := hx488_0
 (try rw [show ((0 : Int)).toNat = 0 from rfl] at hw488_0)
 (try rw [show 0 * 1 = 0 from rfl] at hw488_0)
 (try rw [Addr.add_zero'] at hw488_0)
 cases e488
 have qi488 : (0 < l2.length) = True := eq_true (by have q_ := of_eq_true q488; omega)
 (try rw [show ((0 : Int)).toNat = 0 from rfl] at hx488_0)
 (try rw [Addr.add_zero'] at hx488_0)
 replace hx488_0 := yc HB hx488_0
 obtain ⟨ad489, e489, hx489_0, p489, q489⟩ := yi HR2.out 1
 have hw489_0 := hx489_0
 (try rw [show ((1 : Int)).toNat = 1 from rfl] at hw489_0)
 (try rw [show 1 * 1 = 1 from rfl] at hw489_0)
 (try simp only [Nat.reduceMul, Nat.reduceEqDiff, Go.Addr.add, ↓reduceIte] at hw489_0)
 obtain rfl : ad488 = ad489 := (by injection e489)
 (try simp only [show (1 : Int).toNat = 1 from rfl, Nat.reduceMul, Nat.reduceEqDiff, Go.Addr.add, ↓reduceIte] at hx489_0)
 have qi489 : (1 < l2.length) = True := eq_true (by have q_ := of_eq_true q489; omega)
 (try rw [show ((1 : Int)).toNat = 1 from rfl] at hx489_0)
 replace hx489_0 := yc HB hx489_0
 obtain ⟨ad490, e490, hx490_0, p490, q490⟩ := yi HR2.out 2
 have hw490_0 := hx490_0
 (try rw [show ((2 : Int)).toNat = 2 from rfl] at hw490_0)
 (try rw [show 2 * 1 = 2 from rfl] at hw490_0)
 (try simp only [Nat.reduceMul, Nat.reduceEqDiff, Go.Addr.add, ↓reduceIte] at hw490_0)
 obtain rfl : ad488 = ad490 := (by injection e490)
 (try simp only [show (2 : Int).toNat = 2 from rfl, Nat.reduceMul, Nat.reduceEqDiff, Go.Addr.add, ↓reduceIte] at hx490_0)
 have qi490 : (2 < l2.length) = True := eq_true (by have q_ := of_eq_true q490; omega)
 (try rw [show ((2 : Int)).toNat = 2 from rfl] at hx490_0)
 replace hx490_0 := yc HB hx490_0
 obtain ⟨ad491, e491, hx491_0, p491, q491⟩ := yi HR2.out 3
 have hw491_0 := hx491_0
 (try rw [show ((3 : Int)).toNat = 3 from rfl] at hw491_0)
 (try rw [show 3 * 1 = 3 from rfl] at hw491_0)
 (try simp only [Nat.reduceMul, Nat.reduceEqDiff, Go.Addr.add, ↓reduceIte] at hw491_0)
 obtain rfl : ad488 = ad491 := (by injection e491)
 (try simp only [show (3 : Int).toNat = 3 from rfl, Nat.reduceMul, Nat.reduceEqDiff, Go.Addr.add, ↓reduceIte] at hx491_0)
 have qi491 : (3 < l2.length) = True := eq_true (by have q_ := of_eq_true q491; omega)
 (try rw [show ((3 : Int)).toNat = 3 from rfl] at hx491_0)
 replace hx491_0 := yc HB hx491_0
 refine start_ (n := 16) (S := fun w' => w'.cell? ad488 = some (.int .i64 (rd l2 0)) ∧ w'.cell? ⟨ad488.block, ad488.off + 1, none⟩ = some (.int .i64 (rd l2 1)) ∧ w'.cell? ⟨ad488.block, ad488.off + 2, none⟩ = some (.int .i64 (rd l2 2)) ∧ w'.cell? ⟨ad488.block, ad488.off + 3, none⟩ = some (.int .i64 (rd l2 3))) (ds := []) (bm 16 0) (by kernel_rfl) rfl rfl ⟨(by first | exact (HB.out.cell (World.block_lt_of_cell? w _ hw488_0)).trans hw488_0 | exact hw488_0), (by first | exact (HB.out.cell (World.block_lt_of_cell? w _ hw489_0)).trans hw489_0 | exact hw489_0), (by first | exact (HB.out.cell (World.block_lt_of_cell? w _ hw490_0)).trans hw490_0 | exact hw490_0), (by first | exact (HB.out.cell (World.block_lt_of_cell? w _ hw491_0)).trans hw491_0 | exact hw491_0)⟩ (fun hHeld => ?_); refine with_tabW impl_IsTrade.tab5 impl_IsTrade.bits5 (fun HT_ HW_ => ?_)
 generalize w.drew = w26 at HB hx488_0 hx489_0 hx490_0 hx491_0 hHeld ⊢
 refine yP 0 27 (bm 16 1) HT_ ?_
 refine yP 1 28 (bm 16 3) HT_ ?_
 refine yP 3 30 (bm 16 11) HT_ ?_
 refine yP 4 31 (bm 16 27) HT_ ?_
 refine yP 6 33 (bm 16 91) HT_ ?_
 refine yP 7 34 (bm 16 219) HT_ ?_
 refine yP 9 36 (bm 16 731) HT_ ?_
 refine yP 10 37 (bm 16 1755) HT_ ?_
 refine yT4 2 29 (bm 16 1759) HT_ HW_ hHeld ?_
 refine yP 12 8 (bm 16 5855) HT_ ?_
 refine yT4 5 32 (bm 16 5887) HT_ HW_ hHeld ?_
 refine yP 13 9 (bm 16 14079) HT_ ?_
 refine yT4 8 35 (bm 16 14335) HT_ HW_ hHeld ?_
 refine yP 14 10 (bm 16 30719) HT_ ?_
 refine yT4 11 38 (bm 16 32767) HT_ HW_ hHeld ?_
 refine yP 15 11 (bm 16 65535) HT_ ?_
 refine done_ (done_of HT_.out (by kernel_rfl)) ?_
 try go_wp2
 replace HB := aM (eD HB.out)
 obtain ⟨ad492, e492, hx492_0, p492, q492⟩ := yi HR1.out (rd l2 0)
 have hw492_0 := hx492_0
 cases e492
 replace hx492_0 := yc HB hx492_0
 obtain ⟨ad493, e493, hx493_0, p493, q493⟩ := yi HR1.out (rd l2 1)
 have hw493_0 := hx493_0
 obtain rfl : ad492 = ad493 := (by injection e493)
 replace hx493_0 := yc HB hx493_0
 obtain ⟨ad494, e494, hx494_0, p494, q494⟩ := yi HR1.out (rd l2 2)
 have hw494_0 := hx494_0
 obtain rfl : ad492 = ad494 := (by injection e494)
 replace hx494_0 := yc HB hx494_0
 obtain ⟨ad495, e495, hx495_0, p495, q495⟩ := yi HR1.out (rd l2 3)
 have hw495_0 := hx495_0
 obtain rfl : ad492 = ad495 := (by injection e495)
 replace hx495_0 := yc HB hx495_0
 refine start_ (n := 41) (S := fun w' => w'.cell? (ad492.add ((rd l2 0)).toNat) = some (.int .i64 (rd l1 (rd l2 0))) ∧ w'.cell? (ad492.add ((rd l2 1)).toNat) = some (.int .i64 (rd l1 (rd l2 1))) ∧ w'.cell? (ad492.add ((rd l2 2)).toNat) = some (.int .i64 (rd l1 (rd l2 2))) ∧ w'.cell? (ad492.add ((rd l2 3)).toNat) = some (.int .i64 (rd l1 (rd l2 3)))) (ds := []) (bm 41 0) (by kernel_rfl) rfl rfl ⟨(by first | exact (HB.out.cell (World.block_lt_of_cell? w _ hw492_0)).trans hw492_0 | exact hw492_0), (by first | exact (HB.out.cell (World.block_lt_of_cell? w _ hw493_0)).trans hw493_0 | exact hw493_0), (by first | exact (HB.out.cell (World.block_lt_of_cell? w _ hw494_0)).trans hw494_0 | exact hw494_0), (by first | exact (HB.out.cell (World.block_lt_of_cell? w _ hw495_0)).trans hw495_0 | exact hw495_0)⟩ (fun hHeld => ?_); refine with_tabW impl_IsTrade.tab6 impl_IsTrade.bits6 (fun HT_ HW_ => ?_)
 generalize w26.drew = w27 at HB hx492_0 hx493_0 hx494_0 hx495_0 hHeld ⊢
 refine yP 0 39 (bm 41 1) HT_ ?_
 refine yP 1 40 (bm 41 3) HT_ ?_
 refine yP 2 41 (bm 41 7) HT_ ?_
 refine yP 3 42 (bm 41 15) HT_ ?_
 refine yP 4 43 (bm 41 31) HT_ ?_
 refine yP 5 44 (bm 41 63) HT_ ?_
 refine yP 6 45 (bm 41 127) HT_ ?_
 refine yP 7 46 (bm 41 255) HT_ ?_
 refine yP 8 47 (bm 41 511) HT_ ?_
 refine yP 9 48 (bm 41 1023) HT_ ?_
 refine yP 10 49 (bm 41 2047) HT_ ?_
 refine yP 11 50 (bm 41 4095) HT_ ?_
 refine yP 13 52 (bm 41 12287) HT_ ?_
 refine yP 14 53 (bm 41 28671) HT_ ?_
 refine yP 15 54 (bm 41 61439) HT_ ?_
 refine yT4 12 51 (bm 41 65535) HT_ HW_ hHeld ?_
 refine yT4 16 55 (bm 41 131071) HT_ HW_ hHeld ?_
 refine yP 17 56 (bm 41 262143) HT_ ?_
 refine yP 18 57 (bm 41 524287) HT_ ?_
 refine yP 19 58 (bm 41 1048575) HT_ ?_
 refine yP 20 59 (bm 41 2097151) HT_ ?_
 refine yP 21 60 (bm 41 4194303) HT_ ?_
 refine yP 22 61 (bm 41 8388607) HT_ ?_
 refine yP 23 62 (bm 41 16777215) HT_ ?_
 refine yP 25 64 (bm 41 50331647) HT_ ?_
 refine yP 26 65 (bm 41 117440511) HT_ ?_
 refine yP 27 66 (bm 41 251658239) HT_ ?_
 refine yT4 24 63 (bm 41 268435455) HT_ HW_ hHeld ?_
 refine yT4 28 67 (bm 41 536870911) HT_ HW_ hHeld ?_
 refine yP 29 68 (bm 41 1073741823) HT_ ?_
 refine yP 30 69 (bm 41 2147483647) HT_ ?_
 refine yP 31 70 (bm 41 4294967295) HT_ ?_
 refine yP 32 71 (bm 41 8589934591) HT_ ?_
 refine yP 33 72 (bm 41 17179869183) HT_ ?_
 refine yP 34 73 (bm 41 34359738367) HT_ ?_
 refine yP 35 74 (bm 41 68719476735) HT_ ?_
 refine yP 36 75 (bm 41 137438953471) HT_ ?_
 refine yO 37 76 (bm 41 274877906943) HT_ (fun K hK => ?_)
 refine yG Try.func81 #[.int .i64 (rd l2 0), .int .i64 (rd l2 1), .int .i64 (rd l2 2), .int .i64 (rd l2 3)] ?_
 with_reducible refine (impl_sameSum.calls (rd l2 0) (rd l2 1) (rd l2 2) (rd l2 3) t496 _ A25.out).mono ?_
 rintro e w' ⟨rfl, ⟨nd, rfl⟩⟩
 refine ⟨_, rfl, ?_⟩
 refine hK.out _ _ ⟨(by first | exact (HB.out.cell (World.block_lt_of_cell? w _ hw492_0)).trans hw492_0 | exact hw492_0), (by first | exact (HB.out.cell (World.block_lt_of_cell? w _ hw493_0)).trans hw493_0 | exact hw493_0), (by first | exact (HB.out.cell (World.block_lt_of_cell? w _ hw494_0)).trans hw494_0 | exact hw494_0), (by first | exact (HB.out.cell (World.block_lt_of_cell? w _ hw495_0)).trans hw495_0 | exact hw495_0)⟩ (fun hHeld => ?_)
 clear hK K
 refine norm_ (a' := ?_) ?_ ?_
 rotate_left
 ·
  show Act.put _ (some 76) _ = _
  simp only [Act.put, sA, sZ, sU, i64_w, i32_w]
  rfl
 refine yP 38 77 (bm 41 549755813887) HT_ ?_
 refine yP 39 6 (bm 41 1099511627775) HT_ ?_
 refine yP 40 7 (bm 41 2199023255551) HT_ ?_
 refine done_ (done_of HT_.out (by kernel_rfl)) ?_
 try go_wp2
 go_ret2
 exact ⟨yF, by repeat (first | (with_reducible first | exact HB.out | apply eA | apply eN | apply eD) | exact HB.out | exact Below.refl _ _)⟩
end Go.Proofs.Ytmfmgnpefjmieaa.PFnThresholdTables
