-- Laid for this claim by a program of the session's own (wip/tool/myprint.py).
import Derived.Test.YtgidnmpppbkamaaMFnExactIsWeightedx0
import Derived.Test.YtgidnmpppbkamaaMFnExactIsWeightedx13
import Derived.Test.YtgidnmpppbkamaaMFnExactIsWeightedx14
import Derived.Test.YtgidnmpppbkamaaMFnExactIsWeightedx15
namespace Go.Proofs.Ytgidnmpppbkamaa.PFnExactIsWeighted
open Go.RowKit Go.Proofs.YtgidnmpppbkamaaW.PrintWords Go.Proofs.YtgidnmpppbkamaaW.PrintLast Go.Proofs.YtgidnmpppbkamaaW.PrintMore
attribute [local go_sem] max2_int min2_int max_two min_two max_three min_three max_four min_four
set_option linter.unusedVariables false
set_option linter.unusedSimpArgs false
mutual
def impl_balance.l0 : Nat → List (List Int) → Int → List (List Int) → Int → Int → Option (List Int × Bool)
 | 0, _, _, _, _, _ => none
 | k + 1, x0, x4, x5, x28, x29 => if x29 < x28 then (impl_balance.l1 k x0 x4 x5 x29 (([] : List Int)) x28 x29 x0 (x0.length : Int) 0) else ((impl_reduced.f k x5 x4).bind fun bt398 => (if (bt398.1.length : Int) = (wrap64 (x4 - 1)) then (impl_balance.l2 k x4 bt398.2 bt398.1 (wrap64 (x4 - 1)) bt398.1 (bt398.1.length : Int) 0) else (some (([] : List Int), false))))
def impl_balance.l1 : Nat → List (List Int) → Int → List (List Int) → Int → List Int → Int → Int → List (List Int) → Int → Int → Option (List Int × Bool)
 | 0, _, _, _, _, _, _, _, _, _, _ => none
 | k + 1, x0, x4, x5, x6, x7, x28, x29, x33, x34, x35 => if x35 < x34 then (if 0 ≤ x35 then (if x35 < (x33.length : Int) then (if 0 ≤ x6 then (if x6 < ((rd_L1 x33 x35).length : Int) then (if x7.length < 17592186044416 then (impl_balance.l1 k x0 x4 x5 x6 (x7 ++ [rd (rd_L1 x33 x35) x6]) x28 x29 x33 x34 (wrap64 (x35 + 1))) else (none)) else (none)) else (none)) else (none)) else (none)) else (if x5.length < 5864062014805 then (impl_balance.l0 k x0 x4 (x5 ++ [x7]) x28 (wrap64 (x29 + 1))) else (none))
def impl_balance.j3 : Nat → Int → List (List Int) → List Int → Int → Option (List Int × Bool)
 | 0, _, _, _, _ => none
 | k + 1, x4, x5, x10, x11 => if 0 ≤ x4 then (if (x4 : Int).toNat ≤ 35184372088832 then (impl_balance.l3 k x5 x10 x11 (List.replicate (x4 : Int).toNat 0) 1 x10 (x10.length : Int) 0) else (none)) else (none)
def impl_balance.l3 : Nat → List (List Int) → List Int → Int → List Int → Int → List Int → Int → Int → Option (List Int × Bool)
 | 0, _, _, _, _, _, _, _, _ => none
 | k + 1, x5, x10, x11, x14, x15, x76, x77, x78 => if x78 < x77 then (if 0 ≤ x78 then (if x78 < (x76.length : Int) then (if x78 < (x5.length : Int) then (if 0 ≤ (rd x76 x78) then (if (rd x76 x78) < ((rd_L1 x5 x78).length : Int) then ((impl_divisor.f k (([x15, rd (rd_L1 x5 x78) (rd x76 x78)] : List Int))).bind fun t412 => (if t412 = 0 then (none) else (impl_balance.l3 k x5 x10 x11 x14 (wrap64 ((wrap64 (Int.tdiv x15 t412)) * (mx (rd (rd_L1 x5 x78) (rd x76 x78)) (wrap64 (-(rd (rd_L1 x5 x78) (rd x76 x78))))))) x76 x77 (wrap64 (x78 + 1))))) else (none)) else (none)) else (none)) else (none)) else (none)) else (if 0 ≤ x11 then (if x11 < (x14.length : Int) then (impl_balance.l4 k x5 x11 (x14.set (x11 : Int).toNat x15) x15 x10 (x10.length : Int) 0) else (none)) else (none))
def impl_balance.l4 : Nat → List (List Int) → Int → List Int → Int → List Int → Int → Int → Option (List Int × Bool)
 | 0, _, _, _, _, _, _, _ => none
 | k + 1, x5, x11, x14, x15, x117, x118, x119 => if x119 < x118 then (if 0 ≤ x119 then (if x119 < (x117.length : Int) then (if x119 < (x5.length : Int) then (if 0 ≤ x11 then (if x11 < ((rd_L1 x5 x119).length : Int) then (if 0 ≤ (rd x117 x119) then (if (rd x117 x119) < ((rd_L1 x5 x119).length : Int) then (if (rd (rd_L1 x5 x119) (rd x117 x119)) = 0 then (none) else (if (rd x117 x119) < (x14.length : Int) then (impl_balance.l4 k x5 x11 (x14.set ((rd x117 x119) : Int).toNat (wrap64 ((wrap64 (-(rd (rd_L1 x5 x119) x11))) * (wrap64 (Int.tdiv x15 (rd (rd_L1 x5 x119) (rd x117 x119))))))) x15 x117 x118 (wrap64 (x119 + 1))) else (none))) else (none)) else (none)) else (none)) else (none)) else (none)) else (none)) else (none)) else ((impl_shortened.f k x14).bind fun t424 => (impl_balance.l5 k t424 t424 (x14.length : Int) 0))
def impl_balance.l5 : Nat → List Int → List Int → Int → Int → Option (List Int × Bool)
 | 0, _, _, _, _ => none
 | k + 1, x14, x148, x149, x150 => if x150 < x149 then (if 0 ≤ x150 then (if x150 < (x148.length : Int) then (if (rd x148 x150) ≤ 0 then (some (([] : List Int), false)) else (impl_balance.l5 k x14 x148 x149 (wrap64 (x150 + 1)))) else (none)) else (none)) else (some (x14, true))
def impl_balance.l2 : Nat → Int → List (List Int) → List Int → Int → List Int → Int → Int → Option (List Int × Bool)
 | 0, _, _, _, _, _, _, _ => none
 | k + 1, x4, x5, x10, x11, x62, x63, x64 => if x64 < x63 then (if 0 ≤ x64 then (if x64 < (x62.length : Int) then (if (rd x62 x64) = x64 then (impl_balance.l2 k x4 x5 x10 x11 x62 x63 (wrap64 (x64 + 1))) else (impl_balance.j3 k x4 x5 x10 x64)) else (none)) else (none)) else (impl_balance.j3 k x4 x5 x10 x11)
end
def impl_balance.f (k : Nat) (l0 : List (List Int)) : Option (List Int × Bool) := if 0 < (l0.length : Int) then (impl_balance.l0 k l0 (l0.length : Int) (([] : List (List Int))) ((rd_L1 l0 0).length : Int) 0) else (none)
def impl_balance.T28 : Bool × List (List Nat × List Nat) := (true, [([], []), ([], []), ([], []), ([], []), ([2, 3], [2, 3]), ([4], [4]), ([], []), ([5, 6], [5, 6]), ([7], [7]), ([1, 8], [1, 8]), ([9], [9]), ([0, 10], [0, 10]), ([], []), ([], []), ([12, 13], [12, 13]), ([14], [14]), ([], []), ([15, 16], [15, 16]), ([17], [17]), ([], []), ([], []), ([19, 20], [19, 20]), ([21], [21]), ([], []), ([22, 23], [22, 23]), ([24], [24]), ([25], [25]), ([18, 26], [18, 26]), ([11, 27], [11, 27]), ([28, 10, 0, 1, 2, 3, 4, 5, 6, 7, 8, 9, 10, 11, 12, 13, 14, 15, 16, 17, 18, 19, 20, 21, 22, 23, 24, 25, 26, 27, 28], [0, 1, 28])])
def impl_balance.B28 : List Nat := [0, 0, 0, 0, 12, 28, 0, 124, 252, 510, 1022, 2047, 0, 0, 12288, 28672, 0, 126976, 258048, 0, 0, 1572864, 3670016, 0, 16252928, 33030144, 66584576, 134213632, 268435455, 536870911]
theorem impl_balance.tab28 : rtab .any (opsOf Try.f79 28) = impl_balance.T28 := by kernel_rfl
theorem impl_balance.bits28 : waitsOk impl_balance.T28.2 impl_balance.B28 = true := by kernel_rfl
def impl_balance.T34 : Bool × List (List Nat × List Nat) := (true, [([], []), ([], []), ([], []), ([], []), ([2, 3], [2, 3]), ([4], [4]), ([], []), ([5, 6], [5, 6]), ([7], [7]), ([8], [8]), ([], []), ([], []), ([], []), ([11, 12], [11, 12]), ([13], [13]), ([], []), ([14, 15], [14, 15]), ([16], [16]), ([10, 17], [10, 17]), ([9, 18], [9, 18]), ([0, 1, 0, 1, 2, 3, 4, 5, 6, 7, 8, 9, 10, 11, 12, 13, 14, 15, 16, 17, 18, 19], [0, 1]), ([20, 19, 0, 1, 2, 3, 4, 5, 6, 7, 8, 9, 10, 11, 12, 13, 14, 15, 16, 17, 18, 19], [19, 20])])
def impl_balance.B34 : List Nat := [0, 0, 0, 0, 12, 28, 0, 124, 252, 508, 0, 0, 0, 6144, 14336, 0, 63488, 129024, 261120, 524284, 1048575, 2097151]
theorem impl_balance.tab34 : rtab .any (opsOf Try.f79 34) = impl_balance.T34 := by kernel_rfl
theorem impl_balance.bits34 : waitsOk impl_balance.T34.2 impl_balance.B34 = true := by kernel_rfl
set_option maxHeartbeats 8000000 in
set_option maxRecDepth 100000 in
theorem impl_balance.calls (k : Nat) (A0 : Option Addr) (c0 : Nat) (l0 : List (List Int)) (r1 : List Int) (r2 : Bool) (w : World) (hr0 : Kd.C (Kd.slice 3 (Kd.int .i64)) w A0 l0.length l0) (hc0 : l0.length ≤ c0) (h : impl_balance.f k l0 = some (r1, r2)) :
  Calls Try.prog 79 #[.slice A0 l0.length c0] w fun e w' => ∃ v0_ : Value, e = .returned (.tuple #[v0_, .bool r2]) ∧ Kd.R (Kd.int .i64) 3 w' w.heap.size (fun _ => True) v0_ r1 ∧ Below w.heap.size w w' := by
 have HR0 := aM hr0
 have HC0 := aM hc0
 clear hr0 hc0
 have HB := aM (Below.refl w.heap.size w)
 have H : (if 0 < (l0.length : Int) then (impl_balance.l0 k l0 (l0.length : Int) (([] : List (List Int))) ((rd_L1 l0 0).length : Int) 0) else (none)) = some (r1, r2) := h
 clear h
 obtain ⟨y383, hy383⟩ : ∃ y_ : List (List Int), y_ = (([] : List (List Int))) := ⟨_, rfl⟩
 replace H : (if 0 < (l0.length : Int) then (impl_balance.l0 k l0 (l0.length : Int) y383 ((rd_L1 l0 0).length : Int) 0) else (none)) = some (r1, r2) := by first | (rw [hy383]; with_reducible exact H) | (have H2_ := (Option.bind_some _ _).symm.trans H; rw [hy383]; with_reducible exact H2_) | (have H2_ := (Option.bind_some _ _).symm.trans H; with_reducible exact H2_) | with_reducible exact H | (rw [hy383]; exact H) | exact H
 have Ny383 := aM hy383
 clear hy383
 by_cases c2 : 0 < (l0.length : Int)
 ·
  rw [if_pos c2] at H
  have c2b0 : decide (0 < (l0.length : Int)) = true := decide_eq_true c2
  have c2b1 : decide (0 < l0.length) = true := decide_eq_true (by omega)
  clear c2
  have H' := aM H
  clear H
  go_enter Try.func79, Try.ntmps79
  go_wp2_with (first | ((with_reducible refine gate_dst (N := 24) rfl ?_); refine Kd.S_lit (Kd.slice 3 (Kd.int .i64)) _ 22 ?hg (N := 24) ?hd (xs := ([] : List (List Int))) (inner := []) (ok := fun _ => True) (okp := fun _ => True) ?hr ?hp (fun _ hk => hk) trivial (Below.refl _ _) (Nat.le_refl _) (by simp) ?_; (case hd => rfl); (case hg => rfl); (case hr => first | (go_simp; done) | (go_simp; rfl)); (case hp => exact (Reps.none _ _)); intro v384 w3 ho4 hb hg_ hnew_; clear hg_ hnew_; (first | rw [← Ny383.out] at ho4 | (simp only [Int.reduceToNat] at ho4; rw [← Ny383.out] at ho4)); have HO385 := aM (Kd.S_lower ho4 (below_size (xH HB.out))); replace HB := aM (below_step (xH HB.out) hb); clear hb ho4; have p386 : 0 ≤ (0 : Int) := (by omega); have q386 : 0 < (l0.length : Int) := of_decide_eq_true (by first | (with_reducible assumption) | assumption); obtain ⟨ad386, A386_0, c386_0, e386, hx386_0, hl386_0, hi386_0⟩ := at_L1 HR0.out 0 p386 q386; cases e386; have qi386 : (0 < l0.length) = True := eq_true (by omega); (try rw [show ((0 : Int)).toNat = 0 from rfl] at hx386_0); (try rw [Addr.add_zero'] at hx386_0); replace hx386_0 := (HB.out.cell (World.block_lt_of_cell? w _ hx386_0)).trans hx386_0; have HR386_0 := aM hi386_0; have HC386_0 := aM hl386_0; clear hi386_0 hl386_0; replace p386 := eq_true p386; replace q386 := eq_true q386))
  go_loopg [5, 29] k (fun kq v5 v29 w' => ∃ (x5_1 : List (List Int)) (x29_1 : Int), v29 = .int .i64 x29_1 ∧ Aside0 (impl_balance.l0 kq l0 (l0.length : Int) x5_1 ((rd_L1 l0 0).length : Int) x29_1 = some (r1, r2)) ∧ Aside0 (kq ≤ k) ∧ Aside0 (Kd.S (Kd.slice 3 (Kd.int .i64)) 22 w' w.heap.size (fun _ => True) v5 x5_1) ∧ Aside0 (Below w.heap.size w w'))
  case atStart => exact ⟨(y383), (0), (by first | rfl | (simp; done) | (simp [*]; done)), H', ⟨Nat.le_refl _⟩, ⟨xS HO385.out⟩, ⟨xH HB.out⟩⟩
  case round =>
   clear H'
   try clear c2; try clear c2b0; try clear c2b1; try clear hx386_0; try clear p386; try clear q386
   obtain ⟨x5_1, x29_1, rfl, HA, HK1, HO_5, HB⟩ := hrel
   cases gk with
   | zero => exact absurd HA.out (by simp [impl_balance.l0])
   | succ k1 =>
    have H := HA.out
    clear HA
    simp only [impl_balance.l0] at H
    by_cases c5 : x29_1 < ((rd_L1 l0 0).length : Int)
    ·
     rw [if_pos c5] at H
     have c5b0 : decide (x29_1 < ((rd_L1 l0 0).length : Int)) = true := decide_eq_true c5
     clear c5
     obtain ⟨y387, hy387⟩ : ∃ y_ : List Int, y_ = (([] : List Int)) := ⟨_, rfl⟩
     replace H : (impl_balance.l1 k1 l0 (l0.length : Int) x5_1 x29_1 y387 ((rd_L1 l0 0).length : Int) x29_1 l0 (l0.length : Int) 0) = some (r1, r2) := by first | (rw [hy387]; with_reducible exact H) | (have H2_ := (Option.bind_some _ _).symm.trans H; rw [hy387]; with_reducible exact H2_) | (have H2_ := (Option.bind_some _ _).symm.trans H; with_reducible exact H2_) | with_reducible exact H | (rw [hy387]; exact H) | exact H
     have Ny387 := aM hy387
     clear hy387
     have H' := aM H
     clear H
     go_wp2_with (first | ((with_reducible refine gate_dst (N := 32) rfl ?_); refine Kd.R_lit (Kd.int .i64) _ 3 ?hg (N := 32) ?hd (xs := ([] : List Int)) (inner := []) (ok := fun _ => True) (okp := fun _ => True) ?hr ?hp (fun _ hk => hk) trivial (Below.refl _ _) (Nat.le_refl _) (by simp) ?_; (case hd => rfl); (case hg => rfl); (case hr => first | (go_simp; done) | (go_simp; rfl)); (case hp => exact (Reps.none _ _)); intro v388 w6 ho7 hb hg_ hnew_; clear hg_ hnew_; (first | rw [← Ny387.out] at ho7 | (simp only [Int.reduceToNat] at ho7; rw [← Ny387.out] at ho7)); replace HO_5 := aM (Kd.S_elder' (xS HO_5.out) (Kd.R_base ho7) hb); have HO389 := aM (Kd.R_lower ho7 (below_size (xH HB.out))); replace HB := aM (below_step (xH HB.out) hb); clear hb ho7))
     go_loopg [7, 35] k1 (fun kq v7 v35 w' => ∃ (x7_2 : List Int) (x35_2 : Int), v35 = .int .i64 x35_2 ∧ Aside0 (impl_balance.l1 kq l0 (l0.length : Int) x5_1 x29_1 x7_2 ((rd_L1 l0 0).length : Int) x29_1 l0 (l0.length : Int) x35_2 = some (r1, r2)) ∧ Aside0 (kq ≤ k1) ∧ Aside0 (Kd.S (Kd.slice 3 (Kd.int .i64)) 22 w' w.heap.size (fun k_ => some k_ ≠ (v7 : Value).ownBlock) u5 x5_1) ∧ Aside0 (Kd.R (Kd.int .i64) 3 w' w.heap.size (fun _ => True) v7 x7_2) ∧ Aside0 (Below w.heap.size w w'))
     case atStart => exact ⟨(y387), (0), (by first | rfl | (simp; done) | (simp [*]; done)), H', ⟨Nat.le_refl _⟩, ⟨by (with_reducible repeat (first | apply Kd.S_alloc | apply Kd.S_drewN | apply Kd.S_drew)); exact Kd.S_mono HO_5.out (fun _ hk => hk.2)⟩, ⟨xR HO389.out⟩, ⟨xH HB.out⟩⟩
     case round =>
      clear H'
      try clear c5; try clear c5b0
      obtain ⟨x7_2, x35_2, rfl, HA, HK2, HO_5, HO_7, HB⟩ := hrel
      cases gk with
      | zero => exact absurd HA.out (by simp [impl_balance.l1])
      | succ k2 =>
       have H := HA.out
       clear HA
       simp only [impl_balance.l1] at H
       by_cases c8 : x35_2 < (l0.length : Int)
       ·
        rw [if_pos c8] at H
        have c8b0 : decide (x35_2 < (l0.length : Int)) = true := decide_eq_true c8
        clear c8
        by_cases c9 : 0 ≤ x35_2
        ·
         rw [if_pos c9] at H
         have c9b0 : decide (0 ≤ x35_2) = true := decide_eq_true c9
         clear c9
         by_cases c10 : x35_2 < (l0.length : Int)
         ·
          rw [if_pos c10] at H
          have c10b0 : decide (x35_2 < (l0.length : Int)) = true := decide_eq_true c10
          clear c10
          by_cases c11 : 0 ≤ x29_1
          ·
           rw [if_pos c11] at H
           have c11b0 : decide (0 ≤ x29_1) = true := decide_eq_true c11
           clear c11
           by_cases c12 : x29_1 < ((rd_L1 l0 x35_2).length : Int)
           ·
            rw [if_pos c12] at H
            have c12b0 : decide (x29_1 < ((rd_L1 l0 x35_2).length : Int)) = true := decide_eq_true c12
            clear c12
            by_cases c13 : x7_2.length < 17592186044416
            ·
             rw [if_pos c13] at H
             have LMc13 := aM c13
             clear c13
             obtain ⟨y392, hy392⟩ : ∃ y_ : List Int, y_ = (x7_2 ++ [rd (rd_L1 l0 x35_2) x29_1]) := ⟨_, rfl⟩
             replace H : (impl_balance.l1 k2 l0 (l0.length : Int) x5_1 x29_1 y392 ((rd_L1 l0 0).length : Int) x29_1 l0 (l0.length : Int) (wrap64 (x35_2 + 1))) = some (r1, r2) := by first | (rw [hy392]; with_reducible exact H) | (have H2_ := (Option.bind_some _ _).symm.trans H; rw [hy392]; with_reducible exact H2_) | (have H2_ := (Option.bind_some _ _).symm.trans H; with_reducible exact H2_) | with_reducible exact H | (rw [hy392]; exact H) | exact H
             have Ny392 := aM hy392
             clear hy392
             have H' := aM H
             clear H
             have p390 : 0 ≤ (x35_2 : Int) := of_decide_eq_true (by first | (with_reducible assumption) | assumption)
             have q390 : x35_2 < (l0.length : Int) := of_decide_eq_true (by first | (with_reducible assumption) | assumption)
             obtain ⟨ad390, A390_0, c390_0, e390, hx390_0, hl390_0, hi390_0⟩ := at_L1 HR0.out x35_2 p390 q390
             obtain rfl : ad386 = ad390 := (by injection e390)
             replace hx390_0 := (HB.out.cell (World.block_lt_of_cell? w _ hx390_0)).trans hx390_0
             have HR390_0 := aM hi390_0
             have HC390_0 := aM hl390_0
             clear hi390_0 hl390_0
             replace p390 := eq_true p390
             replace q390 := eq_true q390
             have p391 : 0 ≤ (x29_1 : Int) := of_decide_eq_true (by first | (with_reducible assumption) | assumption)
             have q391 : x29_1 < ((rd_L1 l0 x35_2).length : Int) := of_decide_eq_true (by first | (with_reducible assumption) | assumption)
             obtain ⟨ad391, e391, hx391_0⟩ := Kd.at_int HR390_0.out x29_1 p391 q391
             cases e391
             replace hx391_0 := (HB.out.cell (World.block_lt_of_cell? w _ hx391_0)).trans hx391_0
             replace p391 := eq_true p391
             replace q391 := eq_true q391
             go_wp2_with (first | ((with_reducible refine gate_builtin (b := .append) (xs := #[.tmp 39, .tmp 44]) rfl ?_); at_builtin; refine Kd.R_append (Kd.int .i64) (w0 := w) w.heap.size rfl (.tmp 39) (.tmp 44) 22 3 (.int .i64 0) 8 rfl Try.underlying22 info3 rfl (by decide) (by omega) u7 x7_2 (rd (rd_L1 l0 x35_2) x29_1) [.int .i64 (rd (rd_L1 l0 x35_2) x29_1)] (fun _ => True) (fun _ => False) rfl rfl ?aP (fun _ hk => hk.elim) ?aF ?aO ?aB ?aS ?aL ?_; (case aP => exact rfl); (case aB => exact (xH HB.out)); (case aF => exact (fun _ _ => trivial)); (case aO => exact (xR HO_7.out)); (case aS => exact (below_size (xH HB.out))); (case aL => have := LMc13.out; omega); intro v393 w14 ho hb hg hat; rw [← Ny392.out] at ho; replace HO_5 := aM (Kd.S_after (ok := (fun _ => True)) (by (with_reducible repeat (first | apply Kd.S_alloc | apply Kd.S_drewN | apply Kd.S_drew)); exact Kd.S_mono HO_5.out (fun _ hk => ⟨trivial, hk⟩)) hg hat); replace HB := aM (hb); have HO394 := aM (ho); clear HO_7; clear ho hb hg hat))
             go_roundg k2
             case measure => have := HK1.out; have := HK2.out; omega
             case rel => exact ⟨(y392), (wrap64 (x35_2 + 1)), (by first | rfl | (simp; done) | (simp [*]; done)), H', ⟨by have := HK1.out; have := HK2.out; omega⟩, ⟨by (with_reducible repeat (first | apply Kd.S_alloc | apply Kd.S_drewN | apply Kd.S_drew)); exact Kd.S_mono HO_5.out (fun _ hk => hk.2)⟩, ⟨xR HO394.out⟩, ⟨xH HB.out⟩⟩
            ·
             rw [if_neg c13] at H
             exact absurd H (by simp)
           ·
            rw [if_neg c12] at H
            exact absurd H (by simp)
          ·
           rw [if_neg c11] at H
           exact absurd H (by simp)
         ·
          rw [if_neg c10] at H
          exact absurd H (by simp)
        ·
         rw [if_neg c9] at H
         exact absurd H (by simp)
       ·
        rw [if_neg c8] at H
        have c8b0 : decide (x35_2 < (l0.length : Int)) = false := decide_eq_false c8
        clear c8
        by_cases c15 : x5_1.length < 5864062014805
        ·
         rw [if_pos c15] at H
         have LMc15 := aM c15
         clear c15
         obtain ⟨y395, hy395⟩ : ∃ y_ : List (List Int), y_ = (x5_1 ++ [x7_2]) := ⟨_, rfl⟩
         replace H : (impl_balance.l0 k2 l0 (l0.length : Int) y395 ((rd_L1 l0 0).length : Int) (wrap64 (x29_1 + 1))) = some (r1, r2) := by first | (rw [hy395]; with_reducible exact H) | (have H2_ := (Option.bind_some _ _).symm.trans H; rw [hy395]; with_reducible exact H2_) | (have H2_ := (Option.bind_some _ _).symm.trans H; with_reducible exact H2_) | with_reducible exact H | (rw [hy395]; exact H) | exact H
         have Ny395 := aM hy395
         clear hy395
         have H' := aM H
         clear H
         obtain ⟨Ao17, co17, eo17⟩ := Kd.R_slice HO_7.out
         subst eo17
         go_wp2_with (first | ((with_reducible refine gate_builtin (b := .append) (xs := #[.tmp 47, .tmp 49]) rfl ?_); at_builtin; refine Kd.S_append (Kd.slice 3 (Kd.int .i64)) (w0 := w) w.heap.size rfl (.tmp 47) (.tmp 49) 32 22 (.slice none 0 0) 24 rfl Try.underlying32 info22 rfl (by decide) (by omega) u5 x5_1 x7_2 [.slice Ao17 x7_2.length co17] (fun _ => True) (fun k_ => some k_ = (.slice Ao17 x7_2.length co17 : Value).ownBlock) rfl rfl ?aP (fun k_ hk_ => ((rM (ok' := fun k_ => ((fun _ => True)) k_ ∧ some k_ ≠ (u5 : Value).ownBlock) (Kd.R_apart' (HO_7.out) (Kd.S_typed HO_5.out) (by decide)) (fun k_ hk => ⟨trivial, hk.2⟩))).1 k_ hk_.symm) ?aF ?aO ?aB ?aS ?aL ?_; (case aP => exact Kd.M_row (rM (Kd.R_tight rfl (rM (ok' := fun k_ => ((fun _ => True)) k_ ∧ some k_ ≠ (u5 : Value).ownBlock) (Kd.R_apart' (HO_7.out) (Kd.S_typed HO_5.out) (by decide)) (fun k_ hk => ⟨trivial, hk.2⟩))) (fun _ h_ => h_))); (case aB => exact (xH HB.out)); (case aF => exact (fun _ _ => trivial)); (case aO => exact (by (with_reducible repeat (first | apply Kd.S_alloc | apply Kd.S_drewN | apply Kd.S_drew)); exact Kd.S_mono HO_5.out (fun k_ hk => ⟨trivial, fun e_ => hk e_⟩))); (case aS => exact (below_size (xH HB.out))); (case aL => have := LMc15.out; omega); intro v396 w16 ho hb hg hat; rw [← Ny395.out] at ho; replace HB := aM (hb); have HO397 := aM (ho); clear HO_5; clear HO_7; clear ho hb hg hat))
         go_roundg k2
         case measure => have := HK1.out; have := HK2.out; omega
         case rel => exact ⟨(y395), (wrap64 (x29_1 + 1)), (by first | rfl | (simp; done) | (simp [*]; done)), H', ⟨by have := HK1.out; have := HK2.out; omega⟩, ⟨xS HO397.out⟩, ⟨xH HB.out⟩⟩
        ·
         rw [if_neg c15] at H
         exact absurd H (by simp)
    ·
     rw [if_neg c5] at H
     have c5b0 : decide (x29_1 < ((rd_L1 l0 0).length : Int)) = false := decide_eq_false c5
     clear c5
     replace H := oB.mp H
     obtain ⟨⟨t398, t401⟩, A180, H⟩ := H
     replace H : (if (t398.length : Int) = (wrap64 ((l0.length : Int) - 1)) then (impl_balance.l2 k1 (l0.length : Int) t401 t398 (wrap64 ((l0.length : Int) - 1)) t398 (t398.length : Int) 0) else (some (([] : List Int), false))) = some (r1, r2) := H
     have A18 := aM A180
     clear A180
     by_cases c19 : (t398.length : Int) = (wrap64 ((l0.length : Int) - 1))
     ·
      rw [if_pos c19] at H
      have c19b0 : ((t398.length : Int) == (wrap64 ((l0.length : Int) - 1))) = true := beq_iff_eq.mpr c19
      have c19b1 : ((t398.length : Int) != (wrap64 ((l0.length : Int) - 1))) = false := bne_eq_false_iff_eq.mpr c19
      clear c19
      have HC20 := aM H
      clear H
      obtain ⟨Ao21, co21, eo21⟩ := Kd.S_slice HO_5.out
      subst eo21
      go_upto_block 4 with (first | ((with_reducible refine gate_callee (f := 101) rfl ?_); refine goesL_ (some 54) rfl rfl Try.func101 (by kernel_rfl) rfl #[.slice Ao21 x5_1.length co21, .int .i64 (l0.length : Int)] rfl xL ?_; (with_reducible refine (impl_reduced.calls k1 (fun k_ => True) (.slice Ao21 x5_1.length co21) x5_1 (l0.length : Int) t398 t401 w _ ?side1 ?side2 A18.out).mono ?_); (case side1 => repeat (first | (with_reducible first | exact HB.out | apply eA | apply eN | apply eD) | exact HB.out)); (case side2 => exact by (with_reducible repeat (first | apply Kd.S_alloc | apply Kd.S_drewN | apply Kd.S_drew)); exact HO_5.out); rintro e w22 ⟨v399, rfl, ho0, hy0, hb, hkp⟩; refine ⟨_, rfl, ?_⟩; replace HO_5 := aM (Kd.S_mono hy0 (fun _ _ => trivial)); have HO400 := aM (Kd.V_mono (ok' := fun k_ => some k_ ≠ (.slice Ao21 x5_1.length co21 : Value).ownBlock) ho0 (fun k_ hk_ => hk_.2)); replace HB := aM (hb); (try clear hb; try clear hkp; try clear ho0; try clear hy0); obtain ⟨Ao23, co23, eo23⟩ := Kd.V_slice HO400.out; subst eo23))
      (try simp only [Act.put, sA, sZ, sU])
      go_cut [11] (fun v11 wc => ∃ (kq : Nat) (x11_19 : Int), v11 = .int .i64 x11_19 ∧ Aside0 (impl_balance.j3 kq (l0.length : Int) t401 t398 x11_19 = some (r1, r2)) ∧ Aside0 (kq ≤ k1) ∧ Aside0 (Kd.S (Kd.slice 3 (Kd.int .i64)) 22 wc w.heap.size (fun _ => True) (.slice Ao21 x5_1.length co21) t401) ∧ Aside0 (Kd.V (Kd.int .i64) 3 wc w.heap.size (fun k_ => some k_ ≠ ((.slice Ao21 x5_1.length co21) : Value).ownBlock) (.slice Ao23 t398.length co23) t398) ∧ Aside0 (Below w.heap.size w wc))
      case first =>
       have H := HC20.out
       clear HC20
       have H' := aM H
       clear H
       go_wp2
       go_loopg [11, 64] k1 (fun kq v11 v64 w' => ∃ (x11_2 : Int) (x64_2 : Int), v11 = .int .i64 x11_2 ∧ v64 = .int .i64 x64_2 ∧ Aside0 (impl_balance.l2 kq (l0.length : Int) t401 t398 x11_2 t398 (t398.length : Int) x64_2 = some (r1, r2)) ∧ Aside0 (kq ≤ k1) ∧ Aside0 (Kd.S (Kd.slice 3 (Kd.int .i64)) 22 w' w.heap.size (fun _ => True) (.slice Ao21 x5_1.length co21) t401) ∧ Aside0 (Kd.V (Kd.int .i64) 3 w' w.heap.size (fun k_ => some k_ ≠ ((.slice Ao21 x5_1.length co21) : Value).ownBlock) (.slice Ao23 t398.length co23) t398) ∧ Aside0 (Kd.V (Kd.int .i64) 3 w' w.heap.size (fun k_ => some k_ ≠ ((.slice Ao21 x5_1.length co21) : Value).ownBlock) (.slice Ao23 t398.length co23) t398) ∧ Aside0 (Below w.heap.size w w'))
       case atStart => exact ⟨(wrap64 ((l0.length : Int) - 1)), (0), (by first | rfl | (simp; done) | (simp [*]; done)), (by first | rfl | (simp; done) | (simp [*]; done)), H', ⟨Nat.le_refl _⟩, ⟨xS HO_5.out⟩, ⟨xV HO400.out⟩, ⟨xV HO400.out⟩, ⟨xH HB.out⟩⟩
       case round =>
        clear H'
        try clear c5; try clear c5b0; try clear c8; try clear c8b0; try clear c9; try clear c9b0; try clear c10; try clear c10b0; try clear c11; try clear c11b0; try clear c12; try clear c12b0; try clear c13; try clear c15; try clear c19; try clear c19b0; try clear c19b1; try clear hx390_0; try clear hx391_0; try clear p390; try clear p391; try clear q390; try clear q391
        obtain ⟨x11_2, x64_2, rfl, rfl, HA, HK2, HO_5, HO_10, HO_62, HB⟩ := hrel
        have hl5_2 := (Kd.S_reads' HO_5.out).1
        rw [hl5_2] at HO_5
        (try simp only [hl5_2])
        (try simp only [hl5_2] at HO_10)
        (try simp only [hl5_2] at HO_62)
        cases gk with
        | zero => exact absurd HA.out (by simp [impl_balance.l2])
        | succ k2 =>
         have H := HA.out
         clear HA
         simp only [impl_balance.l2] at H
         by_cases c24 : x64_2 < (t398.length : Int)
         ·
          rw [if_pos c24] at H
          have c24b0 : decide (x64_2 < (t398.length : Int)) = true := decide_eq_true c24
          clear c24
          (first | rw [c24b0] | (simp only [i64_w, i32_w]; rw [c24b0]) | rw [c24b1] | skip)
          by_cases c25 : 0 ≤ x64_2
          ·
           rw [if_pos c25] at H
           have c25b0 : decide (0 ≤ x64_2) = true := decide_eq_true c25
           clear c25
           by_cases c26 : x64_2 < (t398.length : Int)
           ·
            rw [if_pos c26] at H
            have c26b0 : decide (x64_2 < (t398.length : Int)) = true := decide_eq_true c26
            clear c26
            by_cases c27 : (rd t398 x64_2) = x64_2
            ·
             rw [if_pos c27] at H
             have c27b0 : ((rd t398 x64_2) == x64_2) = true := beq_iff_eq.mpr c27
             have c27b1 : ((rd t398 x64_2) != x64_2) = false := bne_eq_false_iff_eq.mpr c27
             clear c27
             have H' := aM H
             clear H
             have p402 : 0 ≤ (x64_2 : Int) := of_decide_eq_true (by first | (with_reducible assumption) | assumption)
             have q402 : x64_2 < (t398.length : Int) := of_decide_eq_true (by first | (with_reducible assumption) | assumption)
             obtain ⟨ad402, e402, hx402_0⟩ := Kd.at_int (Kd.V_reads' HO_62.out).2.2 x64_2 p402 q402
             cases e402
             replace p402 := eq_true p402
             replace q402 := eq_true q402
             go_wp2
             (try simp only [← hl5_2])
             go_roundg k2
             case measure => have := HK1.out; have := HK2.out; omega
             case rel => exact ⟨(x11_2), (wrap64 (x64_2 + 1)), (by first | rfl | (simp; done) | (simp [*]; done)), (by first | rfl | (simp; done) | (simp [*]; done)), H', ⟨by have := HK1.out; have := HK2.out; omega⟩, ⟨by (try simp only [hl5_2]); (with_reducible repeat (first | apply Kd.S_alloc | apply Kd.S_drewN | apply Kd.S_drew)); exact HO_5.out⟩, ⟨by (try simp only [hl5_2]); (with_reducible repeat (first | apply Kd.V_alloc | apply Kd.V_drewN | apply Kd.V_drew)); exact HO_10.out⟩, ⟨by (try simp only [hl5_2]); (with_reducible repeat (first | apply Kd.V_alloc | apply Kd.V_drewN | apply Kd.V_drew)); exact HO_62.out⟩, ⟨xH HB.out⟩⟩
            ·
             rw [if_neg c27] at H
             have c27b0 : ((rd t398 x64_2) == x64_2) = false := beq_eq_false_iff_ne.mpr c27
             have c27b1 : ((rd t398 x64_2) != x64_2) = true := bne_iff_ne.mpr c27
             have H' := aM H
             clear H
             have p402 : 0 ≤ (x64_2 : Int) := of_decide_eq_true (by first | (with_reducible assumption) | assumption)
             have q402 : x64_2 < (t398.length : Int) := of_decide_eq_true (by first | (with_reducible assumption) | assumption)
             obtain ⟨ad402, e402, hx402_0⟩ := Kd.at_int (Kd.V_reads' HO_62.out).2.2 x64_2 p402 q402
             cases e402
             replace p402 := eq_true p402
             replace q402 := eq_true q402
             go_wp2
             (try simp only [← hl5_2])
             go_meet
             case rel => exact ⟨_, (x64_2), (by first | rfl | (simp; done) | (simp [*]; done)), H', ⟨by have := HK1.out; have := HK2.out; first | omega | exact Nat.le_refl _⟩, ⟨by (try simp only [hl5_2]); (with_reducible repeat (first | apply Kd.S_alloc | apply Kd.S_drewN | apply Kd.S_drew)); exact HO_5.out⟩, ⟨by (try simp only [hl5_2]); (with_reducible repeat (first | apply Kd.V_alloc | apply Kd.V_drewN | apply Kd.V_drew)); exact HO_10.out⟩, ⟨xH HB.out⟩⟩
           ·
            rw [if_neg c26] at H
            exact absurd H (by simp)
          ·
           rw [if_neg c25] at H
           exact absurd H (by simp)
         ·
          rw [if_neg c24] at H
          have c24b0 : decide (x64_2 < (t398.length : Int)) = false := decide_eq_false c24
          clear c24
          (first | rw [c24b0] | (simp only [i64_w, i32_w]; rw [c24b0]) | rw [c24b1] | skip)
          have H' := aM H
          clear H
          go_wp2
          (try simp only [← hl5_2])
          go_meet
          case rel => exact ⟨_, (x11_2), (by first | rfl | (simp; done) | (simp [*]; done)), H', ⟨by have := HK1.out; have := HK2.out; first | omega | exact Nat.le_refl _⟩, ⟨by (try simp only [hl5_2]); (with_reducible repeat (first | apply Kd.S_alloc | apply Kd.S_drewN | apply Kd.S_drew)); exact HO_5.out⟩, ⟨by (try simp only [hl5_2]); (with_reducible repeat (first | apply Kd.V_alloc | apply Kd.V_drewN | apply Kd.V_drew)); exact HO_10.out⟩, ⟨xH HB.out⟩⟩
      case rest =>
       clear HC20
       try clear c5; try clear c5b0; try clear c8; try clear c8b0; try clear c9; try clear c9b0; try clear c10; try clear c10b0; try clear c11; try clear c11b0; try clear c12; try clear c12b0; try clear c13; try clear c15; try clear c19; try clear c19b0; try clear c19b1; try clear c24; try clear c24b0; try clear c25; try clear c25b0; try clear c26; try clear c26b0; try clear c27; try clear c27b0; try clear c27b1; try clear hx390_0; try clear hx391_0; try clear hx402_0; try clear p390; try clear p391; try clear p402; try clear q390; try clear q391; try clear q402
       obtain ⟨kq, x11_19, rfl, HA, HJ19, HO_5, HO_10, HB⟩ := hcut
       have hl5_19 := (Kd.S_reads' HO_5.out).1
       rw [hl5_19] at HO_5
       (try simp only [hl5_19])
       (try simp only [hl5_19] at HO_10)
       cases kq with
       | zero => exact absurd HA.out (by simp [impl_balance.j3])
       | succ kj19 =>
        have H := HA.out
        clear HA
        simp only [impl_balance.j3] at H
        by_cases c28 : 0 ≤ (l0.length : Int)
        ·
         rw [if_pos c28] at H
         have c28b0 := eq_true c28
         have c28b1 : decide (0 ≤ (l0.length : Int)) = true := decide_eq_true c28
         clear c28
         by_cases c29 : ((l0.length : Int) : Int).toNat ≤ 35184372088832
         ·
          rw [if_pos c29] at H
          have c29b0 := eq_true c29
          have c29b1 : decide (((l0.length : Int) : Int).toNat ≤ 35184372088832) = true := decide_eq_true c29
          clear c29
          obtain ⟨y403, hy403⟩ : ∃ y_ : List Int, y_ = (List.replicate ((l0.length : Int) : Int).toNat 0) := ⟨_, rfl⟩
          replace H : (impl_balance.l3 kj19 t401 t398 x11_19 y403 1 t398 (t398.length : Int) 0) = some (r1, r2) := by first | (rw [hy403]; with_reducible exact H) | (have H2_ := (Option.bind_some _ _).symm.trans H; rw [hy403]; with_reducible exact H2_) | (have H2_ := (Option.bind_some _ _).symm.trans H; with_reducible exact H2_) | with_reducible exact H | (rw [hy403]; exact H) | exact H
          have Ny403 := aM hy403
          clear hy403
          have H' := aM H
          clear H
          go_wp2_with (first | ((with_reducible refine gate_dst (N := 75) rfl ?_); refine Kd.R_make (Kd.int .i64) _ 3 rfl (N := 75) rfl 22 _ _ rfl (l0.length : Int) rfl rfl Try.underlying22 (.int .i64 0) 8 info3 rfl (by decide) (by omega) 0 (ok := fun _ => True) (okp := fun _ => True) rfl (fun _ hk => hk) trivial (of_decide_eq_true (by first | (with_reducible assumption) | assumption)) (Nat.le_trans (Nat.mul_le_mul_right _ (of_decide_eq_true (by first | (with_reducible assumption) | assumption) : (l0.length : Int).toNat ≤ 35184372088832)) (by omega)) (Below.refl _ _) (Nat.le_refl _) ?_; intro v404 w30 ho31 hb hg_ hnew_; clear hg_ hnew_; (first | rw [← Ny403.out] at ho31 | (simp only [Int.reduceToNat] at ho31; rw [← Ny403.out] at ho31)); replace HO_5 := aM (Kd.S_elder' (xS HO_5.out) (Kd.R_base ho31) hb); replace HO_10 := aM (Kd.V_elder' (xV HO_10.out) (Kd.R_base ho31) hb); have HO405 := aM (Kd.R_lower ho31 (below_size (xH HB.out))); replace HB := aM (below_step (xH HB.out) hb); clear hb ho31))
          go_loopg [15, 78] kj19 (fun kq v15 v78 w' => ∃ (x15_3 : Int) (x78_3 : Int), v15 = .int .i64 x15_3 ∧ v78 = .int .i64 x78_3 ∧ Aside0 (impl_balance.l3 kq t401 t398 x11_19 y403 x15_3 t398 (t398.length : Int) x78_3 = some (r1, r2)) ∧ Aside0 (kq ≤ kj19) ∧ Aside0 (Kd.S (Kd.slice 3 (Kd.int .i64)) 22 w' w.heap.size (fun k_ => some k_ ≠ (v404 : Value).ownBlock) (.slice Ao21 t401.length co21) t401) ∧ Aside0 (Kd.V (Kd.int .i64) 3 w' w.heap.size (fun k_ => some k_ ≠ ((.slice Ao21 t401.length co21) : Value).ownBlock ∧ some k_ ≠ (v404 : Value).ownBlock) (.slice Ao23 t398.length co23) t398) ∧ Aside0 (Kd.R (Kd.int .i64) 3 w' w.heap.size (fun _ => True) v404 y403) ∧ Aside0 (Kd.V (Kd.int .i64) 3 w' w.heap.size (fun k_ => some k_ ≠ ((.slice Ao21 t401.length co21) : Value).ownBlock ∧ some k_ ≠ (v404 : Value).ownBlock) (.slice Ao23 t398.length co23) t398) ∧ Aside0 (Below w.heap.size w w'))
          case atStart => exact ⟨(1), (0), (by first | rfl | (simp; done) | (simp [*]; done)), (by first | rfl | (simp; done) | (simp [*]; done)), H', ⟨Nat.le_refl _⟩, ⟨by (try simp only [hl5_19]); (with_reducible repeat (first | apply Kd.S_alloc | apply Kd.S_drewN | apply Kd.S_drew)); exact Kd.S_mono HO_5.out (fun _ hk => hk.2)⟩, ⟨by (try simp only [hl5_19]); (with_reducible repeat (first | apply Kd.V_alloc | apply Kd.V_drewN | apply Kd.V_drew)); exact HO_10.out⟩, ⟨by (try simp only [hl5_19]); (with_reducible repeat (first | apply rA | apply rN | apply rD)); exact HO405.out⟩, ⟨by (try simp only [hl5_19]); (with_reducible repeat (first | apply Kd.V_alloc | apply Kd.V_drewN | apply Kd.V_drew)); exact HO_10.out⟩, ⟨xH HB.out⟩⟩
          case round =>
           clear H'
           try clear c28; try clear c28b0; try clear c28b1; try clear c29; try clear c29b0; try clear c29b1
           obtain ⟨x15_3, x78_3, rfl, rfl, HA, HK3, HO_5, HO_10, HO_14, HO_76, HB⟩ := hrel
           cases gk with
           | zero => exact absurd HA.out (by simp [impl_balance.l3])
           | succ k3 =>
            have H := HA.out
            clear HA
            simp only [impl_balance.l3] at H
            by_cases c32 : x78_3 < (t398.length : Int)
            ·
             rw [if_pos c32] at H
             have c32b0 : decide (x78_3 < (t398.length : Int)) = true := decide_eq_true c32
             clear c32
             by_cases c33 : 0 ≤ x78_3
             ·
              rw [if_pos c33] at H
              have c33b0 : decide (0 ≤ x78_3) = true := decide_eq_true c33
              clear c33
              by_cases c34 : x78_3 < (t398.length : Int)
              ·
               rw [if_pos c34] at H
               have c34b0 : decide (x78_3 < (t398.length : Int)) = true := decide_eq_true c34
               clear c34
               by_cases c35 : x78_3 < (t401.length : Int)
               ·
                rw [if_pos c35] at H
                have c35b0 : decide (x78_3 < (t401.length : Int)) = true := decide_eq_true c35
                clear c35
                by_cases c36 : 0 ≤ (rd t398 x78_3)
                ·
                 rw [if_pos c36] at H
                 have c36b0 : decide (0 ≤ (rd t398 x78_3)) = true := decide_eq_true c36
                 clear c36
                 by_cases c37 : (rd t398 x78_3) < ((rd_L1 t401 x78_3).length : Int)
                 ·
                  rw [if_pos c37] at H
                  have c37b0 : decide ((rd t398 x78_3) < ((rd_L1 t401 x78_3).length : Int)) = true := decide_eq_true c37
                  clear c37
                  obtain ⟨y409, hy409⟩ : ∃ y_ : List Int, y_ = (([x15_3, rd (rd_L1 t401 x78_3) (rd t398 x78_3)] : List Int)) := ⟨_, rfl⟩
                  replace H : ((impl_divisor.f k3 y409).bind fun t412 => (if t412 = 0 then (none) else (impl_balance.l3 k3 t401 t398 x11_19 y403 (wrap64 ((wrap64 (Int.tdiv x15_3 t412)) * (mx (rd (rd_L1 t401 x78_3) (rd t398 x78_3)) (wrap64 (-(rd (rd_L1 t401 x78_3) (rd t398 x78_3))))))) t398 (t398.length : Int) (wrap64 (x78_3 + 1))))) = some (r1, r2) := by first | (rw [hy409]; with_reducible exact H) | (have H2_ := (Option.bind_some _ _).symm.trans H; rw [hy409]; with_reducible exact H2_) | (have H2_ := (Option.bind_some _ _).symm.trans H; with_reducible exact H2_) | with_reducible exact H | (rw [hy409]; exact H) | exact H
                  have Ny409 := aM hy409
                  clear hy409
                  replace H := oB.mp H
                  obtain ⟨t412, A380, H⟩ := H
                  replace H : (if t412 = 0 then (none) else (impl_balance.l3 k3 t401 t398 x11_19 y403 (wrap64 ((wrap64 (Int.tdiv x15_3 t412)) * (mx (rd (rd_L1 t401 x78_3) (rd t398 x78_3)) (wrap64 (-(rd (rd_L1 t401 x78_3) (rd t398 x78_3))))))) t398 (t398.length : Int) (wrap64 (x78_3 + 1)))) = some (r1, r2) := H
                  have A38 := aM A380
                  clear A380
                  by_cases c39 : t412 = 0
                  ·
                   rw [if_pos c39] at H
                   exact absurd H (by simp)
                  ·
                   rw [if_neg c39] at H
                   have c39b0 : (t412 == 0) = false := beq_eq_false_iff_ne.mpr c39
                   have c39b1 : (t412 != 0) = true := bne_iff_ne.mpr c39
                   obtain ⟨ji40, hji40⟩ : ∃ j_ : Int, (mx (rd (rd_L1 t401 x78_3) (rd t398 x78_3)) (wrap64 (-(rd (rd_L1 t401 x78_3) (rd t398 x78_3))))) = j_ := ⟨_, rfl⟩
                   replace H : (impl_balance.l3 k3 t401 t398 x11_19 y403 (wrap64 ((wrap64 (Int.tdiv x15_3 t412)) * (ji40))) t398 (t398.length : Int) (wrap64 (x78_3 + 1))) = some (r1, r2) := by first | (rw [hji40] at H; exact H) | (simp only [hji40] at H ⊢; exact H)
                   (try rw [hji40] at A38)
                   have hji40_ : (if (rd (rd_L1 t401 x78_3) (rd t398 x78_3)) < (wrap64 (-(rd (rd_L1 t401 x78_3) (rd t398 x78_3)))) then (wrap64 (-(rd (rd_L1 t401 x78_3) (rd t398 x78_3)))) else (rd (rd_L1 t401 x78_3) (rd t398 x78_3))) = ji40 := hji40
                   have H' := aM H
                   clear H
                   have p406 : 0 ≤ (x78_3 : Int) := of_decide_eq_true (by first | (with_reducible assumption) | assumption)
                   have q406 : x78_3 < (t398.length : Int) := of_decide_eq_true (by first | (with_reducible assumption) | assumption)
                   obtain ⟨ad406, e406, hx406_0⟩ := Kd.at_int (Kd.V_reads' HO_76.out).2.2 x78_3 p406 q406
                   cases e406
                   replace p406 := eq_true p406
                   replace q406 := eq_true q406
                   try go_wp2
                   have n0_ := aM (Kd.S_drew HO_5.out)
                   have n1_ := aM (Kd.V_drew HO_10.out)
                   have n2_ := aM (rD HO_14.out)
                   have n3_ := aM (Kd.V_drew HO_76.out)
                   have n4_ := aM (eD HB.out)
                   clear HO_5 HO_10 HO_14 HO_76 HB
                   have HO_5 := n0_
                   have HO_10 := n1_
                   have HO_14 := n2_
                   have HO_76 := n3_
                   have HB := n4_
                   clear n0_ n1_ n2_ n3_ n4_
                   have p407 : 0 ≤ (x78_3 : Int) := of_decide_eq_true (by first | (with_reducible assumption) | assumption)
                   have q407 : x78_3 < (t401.length : Int) := of_decide_eq_true (by first | (with_reducible assumption) | assumption)
                   obtain ⟨ad407, A407_0, c407_0, e407, hx407_0, hl407_0, hi407_0⟩ := at_L1 (Kd.S_reads' HO_5.out).2.2 x78_3 p407 q407
                   cases e407
                   obtain ⟨ce407, hce407, hMe407, hcc407⟩ := Kd.S_get HO_5.out [] x78_3 p407 (by first | exact q407 | exact of_decide_eq_true (by first | (with_reducible assumption) | assumption) | (have e_ := (Kd.S_reads' HO_5.out).1; omega))
                   obtain ⟨ve407_0, rfl, ge407_0⟩ := hMe407
                   have hv407_0 := hcc407 0 _ rfl
                   rw [Nat.add_zero, show ((Kd.slice 3 (Kd.int .i64))).sz = 1 from rfl, Nat.mul_one] at hv407_0
                   replace hv407_0 := Option.some.inj (hv407_0.symm.trans hx407_0)
                   rw [hv407_0] at ge407_0
                   have HL407_0 := aM (show Kd.R (Kd.int .i64) 3 _ _ _ _ (rd_L1 t401 x78_3) from ge407_0)
                   clear hv407_0 ge407_0 hcc407 hce407
                   have HR407_0 := aM hi407_0
                   have HC407_0 := aM hl407_0
                   clear hi407_0 hl407_0
                   replace p407 := eq_true p407
                   replace q407 := eq_true q407
                   have p408 : 0 ≤ ((rd t398 x78_3) : Int) := of_decide_eq_true (by first | (with_reducible assumption) | assumption)
                   have q408 : (rd t398 x78_3) < ((rd_L1 t401 x78_3).length : Int) := of_decide_eq_true (by first | (with_reducible assumption) | assumption)
                   obtain ⟨ad408, e408, hx408_0⟩ := Kd.at_int (by repeat (first | (with_reducible exact HR407_0.out) | (with_reducible refine Kd.C_alloc ?_ _) | (with_reducible refine Kd.C_drewN ?_ _) | (with_reducible refine Kd.C_drew ?_) | exact HR407_0.out)) (rd t398 x78_3) p408 q408
                   cases e408
                   replace p408 := eq_true p408
                   replace q408 := eq_true q408
                   have p413 : 0 ≤ (x78_3 : Int) := of_decide_eq_true (by first | (with_reducible assumption) | assumption)
                   have q413 : x78_3 < (t401.length : Int) := of_decide_eq_true (by first | (with_reducible assumption) | assumption)
                   obtain ⟨ad413, A413_0, c413_0, e413, hx413_0, hl413_0, hi413_0⟩ := at_L1 (Kd.S_reads' HO_5.out).2.2 x78_3 p413 q413
                   obtain rfl : ad407 = ad413 := (by injection e413)
                   obtain ⟨ce413, hce413, hMe413, hcc413⟩ := Kd.S_get HO_5.out [] x78_3 p413 (by first | exact q413 | exact of_decide_eq_true (by first | (with_reducible assumption) | assumption) | (have e_ := (Kd.S_reads' HO_5.out).1; omega))
                   obtain ⟨ve413_0, rfl, ge413_0⟩ := hMe413
                   have hv413_0 := hcc413 0 _ rfl
                   rw [Nat.add_zero, show ((Kd.slice 3 (Kd.int .i64))).sz = 1 from rfl, Nat.mul_one] at hv413_0
                   replace hv413_0 := Option.some.inj (hv413_0.symm.trans hx413_0)
                   rw [hv413_0] at ge413_0
                   have HL413_0 := aM (show Kd.R (Kd.int .i64) 3 _ _ _ _ (rd_L1 t401 x78_3) from ge413_0)
                   clear hv413_0 ge413_0 hcc413 hce413
                   have HR413_0 := aM hi413_0
                   have HC413_0 := aM hl413_0
                   clear hi413_0 hl413_0
                   replace p413 := eq_true p413
                   replace q413 := eq_true q413
                   have ea_ := Option.some.inj (hx407_0.symm.trans hx413_0)
                   injection ea_ with ea_ en_ ec_
                   subst ea_
                   subst ec_
                   clear en_
                   have p414 : 0 ≤ ((rd t398 x78_3) : Int) := of_decide_eq_true (by first | (with_reducible assumption) | assumption)
                   have q414 : (rd t398 x78_3) < ((rd_L1 t401 x78_3).length : Int) := of_decide_eq_true (by first | (with_reducible assumption) | assumption)
                   obtain ⟨ad414, e414, hx414_0⟩ := Kd.at_int (by repeat (first | (with_reducible exact HR413_0.out) | (with_reducible refine Kd.C_alloc ?_ _) | (with_reducible refine Kd.C_drewN ?_ _) | (with_reducible refine Kd.C_drew ?_) | exact HR413_0.out)) (rd t398 x78_3) p414 q414
                   obtain rfl : ad408 = ad414 := (by injection e414)
                   replace p414 := eq_true p414
                   replace q414 := eq_true q414
                   have p415 : 0 ≤ (x78_3 : Int) := of_decide_eq_true (by first | (with_reducible assumption) | assumption)
                   have q415 : x78_3 < (t401.length : Int) := of_decide_eq_true (by first | (with_reducible assumption) | assumption)
                   obtain ⟨ad415, A415_0, c415_0, e415, hx415_0, hl415_0, hi415_0⟩ := at_L1 (Kd.S_reads' HO_5.out).2.2 x78_3 p415 q415
                   obtain rfl : ad407 = ad415 := (by injection e415)
                   obtain ⟨ce415, hce415, hMe415, hcc415⟩ := Kd.S_get HO_5.out [] x78_3 p415 (by first | exact q415 | exact of_decide_eq_true (by first | (with_reducible assumption) | assumption) | (have e_ := (Kd.S_reads' HO_5.out).1; omega))
                   obtain ⟨ve415_0, rfl, ge415_0⟩ := hMe415
                   have hv415_0 := hcc415 0 _ rfl
                   rw [Nat.add_zero, show ((Kd.slice 3 (Kd.int .i64))).sz = 1 from rfl, Nat.mul_one] at hv415_0
                   replace hv415_0 := Option.some.inj (hv415_0.symm.trans hx415_0)
                   rw [hv415_0] at ge415_0
                   have HL415_0 := aM (show Kd.R (Kd.int .i64) 3 _ _ _ _ (rd_L1 t401 x78_3) from ge415_0)
                   clear hv415_0 ge415_0 hcc415 hce415
                   have HR415_0 := aM hi415_0
                   have HC415_0 := aM hl415_0
                   clear hi415_0 hl415_0
                   replace p415 := eq_true p415
                   replace q415 := eq_true q415
                   have ea_ := Option.some.inj (hx407_0.symm.trans hx415_0)
                   injection ea_ with ea_ en_ ec_
                   subst ea_
                   subst ec_
                   clear en_
                   have p416 : 0 ≤ ((rd t398 x78_3) : Int) := of_decide_eq_true (by first | (with_reducible assumption) | assumption)
                   have q416 : (rd t398 x78_3) < ((rd_L1 t401 x78_3).length : Int) := of_decide_eq_true (by first | (with_reducible assumption) | assumption)
                   obtain ⟨ad416, e416, hx416_0⟩ := Kd.at_int (by repeat (first | (with_reducible exact HR415_0.out) | (with_reducible refine Kd.C_alloc ?_ _) | (with_reducible refine Kd.C_drewN ?_ _) | (with_reducible refine Kd.C_drew ?_) | exact HR415_0.out)) (rd t398 x78_3) p416 q416
                   obtain rfl : ad408 = ad416 := (by injection e416)
                   replace p416 := eq_true p416
                   replace q416 := eq_true q416
                   refine start_ (n := 30) (S := fun w' => w'.cell? (ad407.add (x78_3).toNat) = some (.slice (some ad408) (rd_L1 t401 x78_3).length c407_0) ∧ w'.cell? (ad408.add ((rd t398 x78_3)).toNat) = some (.int .i64 (rd (rd_L1 t401 x78_3) (rd t398 x78_3))) ∧ w'.cell? (ad407.add (x78_3).toNat) = some (.slice (some ad408) (rd_L1 t401 x78_3).length c407_0) ∧ w'.cell? (ad408.add ((rd t398 x78_3)).toNat) = some (.int .i64 (rd (rd_L1 t401 x78_3) (rd t398 x78_3))) ∧ w'.cell? (ad407.add (x78_3).toNat) = some (.slice (some ad408) (rd_L1 t401 x78_3).length c407_0) ∧ w'.cell? (ad408.add ((rd t398 x78_3)).toNat) = some (.int .i64 (rd (rd_L1 t401 x78_3) (rd t398 x78_3)))) (ds := []) #[false, false, false, false, false, false, false, false, false, false, false, false, false, false, false, false, false, false, false, false, false, false, false, false, false, false, false, false, false, false] (by kernel_rfl) rfl rfl ⟨hx407_0, hx408_0, hx413_0, hx414_0, hx415_0, hx416_0⟩ (fun hHeld => ?_); refine with_tabW impl_balance.tab28 impl_balance.bits28 (fun HT_ HW_ => ?_)
                   generalize wr.drew = w41 at HO_5 HO_10 HO_14 HO_76 HB HL407_0 HL413_0 HL415_0 HR407_0 HR413_0 HR415_0 hx407_0 hx408_0 hx413_0 hx414_0 hx415_0 hx416_0 hHeld ⊢
                   refine pure_ (i := 0) (N := some 83) (v := ?_) (a' := ?_) #[true, false, false, false, false, false, false, false, false, false, false, false, false, false, false, false, false, false, false, false, false, false, false, false, false, false, false, false, false, false] rfl rfl (any_of HT_.out (by kernel_rfl)) (fun _ _ _ h => h) (Or.inl ⟨by rfl, ?_⟩) ?_ ?_
                   rotate_left
                   ·
                    intro w'
                    go_simp
                    with_reducible rfl
                   rotate_left
                   ·
                    simp only [Act.put, sA, sZ, sU, i64_w, i32_w]
                    rfl
                   refine pure_ (i := 1) (N := some 84) (v := ?_) (a' := ?_) #[true, true, false, false, false, false, false, false, false, false, false, false, false, false, false, false, false, false, false, false, false, false, false, false, false, false, false, false, false, false] rfl rfl (any_of HT_.out (by kernel_rfl)) (fun _ _ _ h => h) (Or.inl ⟨by rfl, ?_⟩) ?_ ?_
                   rotate_left
                   ·
                    intro w'
                    go_simp
                    with_reducible rfl
                   rotate_left
                   ·
                    simp only [Act.put, sA, sZ, sU, i64_w, i32_w]
                    rfl
                   refine pure_ (i := 2) (N := some 85) (v := ?_) (a' := ?_) #[true, true, true, false, false, false, false, false, false, false, false, false, false, false, false, false, false, false, false, false, false, false, false, false, false, false, false, false, false, false] rfl rfl (any_of HT_.out (by kernel_rfl)) (fun _ _ _ h => h) (Or.inl ⟨by rfl, ?_⟩) ?_ ?_
                   rotate_left
                   ·
                    intro w'
                    go_simp
                    with_reducible rfl
                   rotate_left
                   ·
                    simp only [Act.put, sA, sZ, sU, i64_w, i32_w]
                    rfl
                   refine pure_ (i := 3) (N := some 86) (v := ?_) (a' := ?_) #[true, true, true, true, false, false, false, false, false, false, false, false, false, false, false, false, false, false, false, false, false, false, false, false, false, false, false, false, false, false] rfl rfl (any_of HT_.out (by kernel_rfl)) (fun _ _ _ h => h) (Or.inl ⟨by rfl, ?_⟩) ?_ ?_
                   rotate_left
                   ·
                    intro w'
                    go_simp
                    with_reducible rfl
                   rotate_left
                   ·
                    simp only [Act.put, sA, sZ, sU, i64_w, i32_w]
                    rfl
                   refine pure_ (i := 4) (N := some 87) (v := ?_) (a' := ?_) #[true, true, true, true, true, false, false, false, false, false, false, false, false, false, false, false, false, false, false, false, false, false, false, false, false, false, false, false, false, false] rfl rfl (any_of HT_.out (by kernel_rfl)) (fun _ _ _ h => h) (Or.inl ⟨by rfl, ?_⟩) ?_ ?_
                   rotate_left
                   ·
                    intro w'
                    go_simp
                    with_reducible rfl
                   rotate_left
                   ·
                    simp only [Act.put, sA, sZ, sU, i64_w, i32_w]
                    rfl
                   refine pure_ (i := 6) (N := some 89) (v := ?_) (a' := ?_) #[true, true, true, true, true, false, true, false, false, false, false, false, false, false, false, false, false, false, false, false, false, false, false, false, false, false, false, false, false, false] rfl rfl (any_of HT_.out (by kernel_rfl)) (fun _ _ _ h => h) (Or.inl ⟨by rfl, ?_⟩) ?_ ?_
                   rotate_left
                   ·
                    intro w'
                    go_simp
                    with_reducible rfl
                   rotate_left
                   ·
                    simp only [Act.put, sA, sZ, sU, i64_w, i32_w]
                    rfl
                   refine pure_ (i := 12) (N := some 95) (v := ?_) (a' := ?_) #[true, true, true, true, true, false, true, false, false, false, false, false, true, false, false, false, false, false, false, false, false, false, false, false, false, false, false, false, false, false] rfl rfl (any_of HT_.out (by kernel_rfl)) (fun _ _ _ h => h) (Or.inl ⟨by rfl, ?_⟩) ?_ ?_
                   rotate_left
                   ·
                    intro w'
                    go_simp
                    with_reducible rfl
                   rotate_left
                   ·
                    simp only [Act.put, sA, sZ, sU, i64_w, i32_w]
                    rfl
                   refine pure_ (i := 13) (N := some 96) (v := ?_) (a' := ?_) #[true, true, true, true, true, false, true, false, false, false, false, false, true, true, false, false, false, false, false, false, false, false, false, false, false, false, false, false, false, false] rfl rfl (any_of HT_.out (by kernel_rfl)) (fun _ _ _ h => h) (Or.inl ⟨by rfl, ?_⟩) ?_ ?_
                   rotate_left
                   ·
                    intro w'
                    go_simp
                    with_reducible rfl
                   rotate_left
                   ·
                    simp only [Act.put, sA, sZ, sU, i64_w, i32_w]
                    rfl
                   refine pure_ (i := 14) (N := some 97) (v := ?_) (a' := ?_) #[true, true, true, true, true, false, true, false, false, false, false, false, true, true, true, false, false, false, false, false, false, false, false, false, false, false, false, false, false, false] rfl rfl (any_of HT_.out (by kernel_rfl)) (fun _ _ _ h => h) (Or.inl ⟨by rfl, ?_⟩) ?_ ?_
                   rotate_left
                   ·
                    intro w'
                    go_simp
                    with_reducible rfl
                   rotate_left
                   ·
                    simp only [Act.put, sA, sZ, sU, i64_w, i32_w]
                    rfl
                   refine pure_ (i := 16) (N := some 99) (v := ?_) (a' := ?_) #[true, true, true, true, true, false, true, false, false, false, false, false, true, true, true, false, true, false, false, false, false, false, false, false, false, false, false, false, false, false] rfl rfl (any_of HT_.out (by kernel_rfl)) (fun _ _ _ h => h) (Or.inl ⟨by rfl, ?_⟩) ?_ ?_
                   rotate_left
                   ·
                    intro w'
                    go_simp
                    with_reducible rfl
                   rotate_left
                   ·
                    simp only [Act.put, sA, sZ, sU, i64_w, i32_w]
                    rfl
                   refine pure_ (i := 19) (N := some 102) (v := ?_) (a' := ?_) #[true, true, true, true, true, false, true, false, false, false, false, false, true, true, true, false, true, false, false, true, false, false, false, false, false, false, false, false, false, false] rfl rfl (any_of HT_.out (by kernel_rfl)) (fun _ _ _ h => h) (Or.inl ⟨by rfl, ?_⟩) ?_ ?_
                   rotate_left
                   ·
                    intro w'
                    go_simp
                    with_reducible rfl
                   rotate_left
                   ·
                    simp only [Act.put, sA, sZ, sU, i64_w, i32_w]
                    rfl
                   refine pure_ (i := 20) (N := some 103) (v := ?_) (a' := ?_) #[true, true, true, true, true, false, true, false, false, false, false, false, true, true, true, false, true, false, false, true, true, false, false, false, false, false, false, false, false, false] rfl rfl (any_of HT_.out (by kernel_rfl)) (fun _ _ _ h => h) (Or.inl ⟨by rfl, ?_⟩) ?_ ?_
                   rotate_left
                   ·
                    intro w'
                    go_simp
                    with_reducible rfl
                   rotate_left
                   ·
                    simp only [Act.put, sA, sZ, sU, i64_w, i32_w]
                    rfl
                   refine pure_ (i := 21) (N := some 104) (v := ?_) (a' := ?_) #[true, true, true, true, true, false, true, false, false, false, false, false, true, true, true, false, true, false, false, true, true, true, false, false, false, false, false, false, false, false] rfl rfl (any_of HT_.out (by kernel_rfl)) (fun _ _ _ h => h) (Or.inl ⟨by rfl, ?_⟩) ?_ ?_
                   rotate_left
                   ·
                    intro w'
                    go_simp
                    with_reducible rfl
                   rotate_left
                   ·
                    simp only [Act.put, sA, sZ, sU, i64_w, i32_w]
                    rfl
                   refine pure_ (i := 23) (N := some 106) (v := ?_) (a' := ?_) #[true, true, true, true, true, false, true, false, false, false, false, false, true, true, true, false, true, false, false, true, true, true, false, true, false, false, false, false, false, false] rfl rfl (any_of HT_.out (by kernel_rfl)) (fun _ _ _ h => h) (Or.inl ⟨by rfl, ?_⟩) ?_ ?_
                   rotate_left
                   ·
                    intro w'
                    go_simp
                    with_reducible rfl
                   rotate_left
                   ·
                    simp only [Act.put, sA, sZ, sU, i64_w, i32_w]
                    rfl
                   refine take_ (i := 5) (N := some 88) (v := ?_) (a' := ?_) #[true, true, true, true, true, true, true, false, false, false, false, false, true, true, true, false, true, false, false, true, true, true, false, true, false, false, false, false, false, false] rfl rfl (take_ofW HT_.out HW_.out (by kernel_rfl)) (fun _ _ _ h => h) (Or.inl ⟨by rfl, ?_⟩) hHeld ?_ ?_
                   rotate_left
                   ·
                    rintro w' ⟨s0, s1, s2, s3, s4, s5⟩
                    first | (go_simp; with_reducible rfl) | (simp only [add_plain] at s0 s1 s2 s3 s4 s5; go_simp; with_reducible rfl)
                   rotate_left
                   ·
                    simp only [Act.put, sA, sZ, sU, i64_w, i32_w]
                    rfl
                   refine pure_ (i := 7) (N := some 90) (v := ?_) (a' := ?_) #[true, true, true, true, true, true, true, true, false, false, false, false, true, true, true, false, true, false, false, true, true, true, false, true, false, false, false, false, false, false] rfl rfl (any_of HT_.out (by kernel_rfl)) (fun _ _ _ h => h) (Or.inl ⟨by rfl, ?_⟩) ?_ ?_
                   rotate_left
                   ·
                    intro w'
                    go_simp
                    with_reducible rfl
                   rotate_left
                   ·
                    simp only [Act.put, sA, sZ, sU, i64_w, i32_w]
                    rfl
                   refine take_ (i := 8) (N := some 91) (v := ?_) (a' := ?_) #[true, true, true, true, true, true, true, true, true, false, false, false, true, true, true, false, true, false, false, true, true, true, false, true, false, false, false, false, false, false] rfl rfl (take_ofW HT_.out HW_.out (by kernel_rfl)) (fun _ _ _ h => h) (Or.inl ⟨by rfl, ?_⟩) hHeld ?_ ?_
                   rotate_left
                   ·
                    rintro w' ⟨s0, s1, s2, s3, s4, s5⟩
                    first | (go_simp; with_reducible rfl) | (simp only [add_plain] at s0 s1 s2 s3 s4 s5; go_simp; with_reducible rfl)
                   rotate_left
                   ·
                    simp only [Act.put, sA, sZ, sU, i64_w, i32_w]
                    rfl
                   refine take_ (i := 15) (N := some 98) (v := ?_) (a' := ?_) #[true, true, true, true, true, true, true, true, true, false, false, false, true, true, true, true, true, false, false, true, true, true, false, true, false, false, false, false, false, false] rfl rfl (take_ofW HT_.out HW_.out (by kernel_rfl)) (fun _ _ _ h => h) (Or.inl ⟨by rfl, ?_⟩) hHeld ?_ ?_
                   rotate_left
                   ·
                    rintro w' ⟨s0, s1, s2, s3, s4, s5⟩
                    first | (go_simp; with_reducible rfl) | (simp only [add_plain] at s0 s1 s2 s3 s4 s5; go_simp; with_reducible rfl)
                   rotate_left
                   ·
                    simp only [Act.put, sA, sZ, sU, i64_w, i32_w]
                    rfl
                   refine pure_ (i := 17) (N := some 100) (v := ?_) (a' := ?_) #[true, true, true, true, true, true, true, true, true, false, false, false, true, true, true, true, true, true, false, true, true, true, false, true, false, false, false, false, false, false] rfl rfl (any_of HT_.out (by kernel_rfl)) (fun _ _ _ h => h) (Or.inl ⟨by rfl, ?_⟩) ?_ ?_
                   rotate_left
                   ·
                    intro w'
                    go_simp
                    with_reducible rfl
                   rotate_left
                   ·
                    simp only [Act.put, sA, sZ, sU, i64_w, i32_w]
                    rfl
                   refine take_ (i := 18) (N := some 101) (v := ?_) (a' := ?_) #[true, true, true, true, true, true, true, true, true, false, false, false, true, true, true, true, true, true, true, true, true, true, false, true, false, false, false, false, false, false] rfl rfl (take_ofW HT_.out HW_.out (by kernel_rfl)) (fun _ _ _ h => h) (Or.inl ⟨by rfl, ?_⟩) hHeld ?_ ?_
                   rotate_left
                   ·
                    rintro w' ⟨s0, s1, s2, s3, s4, s5⟩
                    first | (go_simp; with_reducible rfl) | (simp only [add_plain] at s0 s1 s2 s3 s4 s5; go_simp; with_reducible rfl)
                   rotate_left
                   ·
                    simp only [Act.put, sA, sZ, sU, i64_w, i32_w]
                    rfl
                   refine take_ (i := 22) (N := some 105) (v := ?_) (a' := ?_) #[true, true, true, true, true, true, true, true, true, false, false, false, true, true, true, true, true, true, true, true, true, true, true, true, false, false, false, false, false, false] rfl rfl (take_ofW HT_.out HW_.out (by kernel_rfl)) (fun _ _ _ h => h) (Or.inl ⟨by rfl, ?_⟩) hHeld ?_ ?_
                   rotate_left
                   ·
                    rintro w' ⟨s0, s1, s2, s3, s4, s5⟩
                    first | (go_simp; with_reducible rfl) | (simp only [add_plain] at s0 s1 s2 s3 s4 s5; go_simp; with_reducible rfl)
                   rotate_left
                   ·
                    simp only [Act.put, sA, sZ, sU, i64_w, i32_w]
                    rfl
                   refine pure_ (i := 24) (N := some 107) (v := ?_) (a' := ?_) #[true, true, true, true, true, true, true, true, true, false, false, false, true, true, true, true, true, true, true, true, true, true, true, true, true, false, false, false, false, false] rfl rfl (any_of HT_.out (by kernel_rfl)) (fun _ _ _ h => h) (Or.inl ⟨by rfl, ?_⟩) ?_ ?_
                   rotate_left
                   ·
                    intro w'
                    go_simp
                    with_reducible rfl
                   rotate_left
                   ·
                    simp only [Act.put, sA, sZ, sU, i64_w, i32_w]
                    rfl
                   refine take_ (i := 25) (N := some 108) (v := ?_) (a' := ?_) #[true, true, true, true, true, true, true, true, true, false, false, false, true, true, true, true, true, true, true, true, true, true, true, true, true, true, false, false, false, false] rfl rfl (take_ofW HT_.out HW_.out (by kernel_rfl)) (fun _ _ _ h => h) (Or.inl ⟨by rfl, ?_⟩) hHeld ?_ ?_
                   rotate_left
                   ·
                    rintro w' ⟨s0, s1, s2, s3, s4, s5⟩
                    first | (go_simp; with_reducible rfl) | (simp only [add_plain] at s0 s1 s2 s3 s4 s5; go_simp; with_reducible rfl)
                   rotate_left
                   ·
                    simp only [Act.put, sA, sZ, sU, i64_w, i32_w]
                    rfl
                   refine pure_ (i := 26) (N := some 109) (v := ?_) (a' := ?_) #[true, true, true, true, true, true, true, true, true, false, false, false, true, true, true, true, true, true, true, true, true, true, true, true, true, true, true, false, false, false] rfl rfl (any_of HT_.out (by kernel_rfl)) (fun _ _ _ h => h) (Or.inl ⟨by rfl, ?_⟩) ?_ ?_
                   rotate_left
                   ·
                    intro w'
                    go_simp
                    with_reducible rfl
                   rotate_left
                   ·
                    simp only [Act.put, sA, sZ, sU, i64_w, i32_w]
                    rfl
                   refine pure_ (i := 27) (N := some 110) (v := ?_) (a' := ?_) #[true, true, true, true, true, true, true, true, true, false, false, false, true, true, true, true, true, true, true, true, true, true, true, true, true, true, true, true, false, false] rfl rfl (any_of HT_.out (by kernel_rfl)) (fun _ _ _ h => h) (Or.inl ⟨by rfl, ?_⟩) ?_ ?_
                   rotate_left
                   ·
                    intro w'
                    go_simp
                    with_reducible rfl
                   rotate_left
                   ·
                    simp only [Act.put, sA, sZ, sU, i64_w, i32_w]
                    rfl
                   refine one_ (i := 9) (N := some 92) #[true, true, true, true, true, true, true, true, true, true, false, false, true, true, true, true, true, true, true, true, true, true, true, true, true, true, true, true, false, false] rfl rfl (one_of HT_.out (by kernel_rfl)) (by decide) (fun K hK => ?_)
                   refine Kd.R_lit_step (Kd.int .i64) _ 3 ?hg (N := 92) ?hd (xs := ([x15_3, rd (rd_L1 t401 x78_3) (rd t398 x78_3)] : List Int)) (inner := [.int .i64 x15_3, .int .i64 (rd (rd_L1 t401 x78_3) (rd t398 x78_3))]) (ok := fun _ => True) (okp := fun _ => True) ?hr ?hp (fun _ hk => hk) trivial (Below.refl _ _) (Nat.le_refl _) (by simp) ?_; (case hd => rfl); (case hg => rfl); (case hr => first | (go_simp; done) | (go_simp; rfl)); (case hp => exact (Reps.one (show Kd.M (Kd.int .i64) _ _ _ x15_3 [.int .i64 x15_3] from rfl) (Reps.one (show Kd.M (Kd.int .i64) _ _ _ (rd (rd_L1 t401 x78_3) (rd t398 x78_3)) [.int .i64 (rd (rd_L1 t401 x78_3) (rd t398 x78_3))] from rfl) (Reps.none _ _))))
                   intro v410 w42 ho43 hb hg_ hnew_
                   have HS0_ := (hb.cell (World.block_lt_of_cell? _ _ (hHeld.1))).trans (hHeld.1)
                   have HS1_ := (hb.cell (World.block_lt_of_cell? _ _ (hHeld.2.1))).trans (hHeld.2.1)
                   have HS2_ := (hb.cell (World.block_lt_of_cell? _ _ (hHeld.2.2.1))).trans (hHeld.2.2.1)
                   have HS3_ := (hb.cell (World.block_lt_of_cell? _ _ (hHeld.2.2.2.1))).trans (hHeld.2.2.2.1)
                   have HS4_ := (hb.cell (World.block_lt_of_cell? _ _ (hHeld.2.2.2.2.1))).trans (hHeld.2.2.2.2.1)
                   have HS5_ := (hb.cell (World.block_lt_of_cell? _ _ (hHeld.2.2.2.2.2))).trans (hHeld.2.2.2.2.2)
                   clear hg_ hnew_
                   (first | rw [← Ny409.out] at ho43 | (simp only [Int.reduceToNat] at ho43; rw [← Ny409.out] at ho43))
                   have n0_ := aM (Kd.S_elder' (xS HO_5.out) (Kd.R_base ho43) hb)
                   have n1_ := aM (Kd.V_elder' (xV HO_10.out) (Kd.R_base ho43) hb)
                   have n2_ := aM (Kd.R_elder' (xR HO_14.out) (Kd.R_base ho43) hb)
                   have n3_ := aM (Kd.V_elder' (xV HO_76.out) (Kd.R_base ho43) hb)
                   have n4_ := aM (Kd.R_elder' (xR HL407_0.out) (Kd.R_base ho43) hb)
                   have n5_ := aM (Kd.R_elder' (xR HL413_0.out) (Kd.R_base ho43) hb)
                   have n6_ := aM (Kd.R_elder' (xR HL415_0.out) (Kd.R_base ho43) hb)
                   have n7_ := aM (Kd.R_lower (Kd.R_new' (Kd.R_new' (Kd.R_new' (Kd.R_new' ho43 (Kd.R_lt (xR HO_14.out))) (Kd.R_lt (xR HL407_0.out))) (Kd.R_lt (xR HL413_0.out))) (Kd.R_lt (xR HL415_0.out))) (below_size (xH HB.out)))
                   have n8_ := aM (Kd.C_below (by repeat (first | (with_reducible exact HR407_0.out) | (with_reducible refine Kd.C_alloc ?_ _) | (with_reducible refine Kd.C_drewN ?_ _) | (with_reducible refine Kd.C_drew ?_) | exact HR407_0.out)) hb)
                   have n9_ := aM (Kd.C_below (by repeat (first | (with_reducible exact HR413_0.out) | (with_reducible refine Kd.C_alloc ?_ _) | (with_reducible refine Kd.C_drewN ?_ _) | (with_reducible refine Kd.C_drew ?_) | exact HR413_0.out)) hb)
                   have n10_ := aM (Kd.C_below (by repeat (first | (with_reducible exact HR415_0.out) | (with_reducible refine Kd.C_alloc ?_ _) | (with_reducible refine Kd.C_drewN ?_ _) | (with_reducible refine Kd.C_drew ?_) | exact HR415_0.out)) hb)
                   have n11_ := aM (below_step (xH HB.out) hb)
                   clear HO_5 HO_10 HO_14 HO_76 HL407_0 HL413_0 HL415_0 HR407_0 HR413_0 HR415_0 HB
                   have HO_5 := n0_
                   have HO_10 := n1_
                   have HO_14 := n2_
                   have HO_76 := n3_
                   have HL407_0 := n4_
                   have HL413_0 := n5_
                   have HL415_0 := n6_
                   have HO411 := n7_
                   have HR407_0 := n8_
                   have HR413_0 := n9_
                   have HR415_0 := n10_
                   have HB := n11_
                   clear n0_ n1_ n2_ n3_ n4_ n5_ n6_ n7_ n8_ n9_ n10_ n11_ hb ho43
                   obtain ⟨Ao44, co44, eo44⟩ := Kd.R_slice HO411.out
                   (first | subst eo44 | (injection eo44 with f1_ f2_ f3_; have f4_ := f1_.symm; have f5_ := f3_.symm; clear f1_ f2_ f3_; subst f4_; subst f5_))
                   refine hK.out _ _ ⟨HS0_, HS1_, HS2_, HS3_, HS4_, HS5_⟩ (fun hHeld => ?_)
                   clear hK K
                   refine norm_ (a' := ?_) ?_ ?_
                   rotate_left
                   ·
                    show Act.put _ (some 92) _ = _
                    simp only [Act.put, sA, sZ, sU, i64_w, i32_w]
                    rfl
                   refine one_ (i := 10) (N := some 93) #[true, true, true, true, true, true, true, true, true, true, true, false, true, true, true, true, true, true, true, true, true, true, true, true, true, true, true, true, false, false] rfl rfl (one_of HT_.out (by kernel_rfl)) (by decide) (fun K hK => ?_)
                   refine goes_ Try.func102 (by kernel_rfl) rfl #[.slice Ao44 y409.length co44] (by rfl) rfl rfl xL ?_
                   with_reducible refine (impl_divisor.calls k3 _ _ y409 t412 _ ?side1 ?side2 A38.out).mono ?_
                   (case side1 => exact xC (Kd.R_reads' HO411.out).2.2)
                   (case side2 => exact (Kd.R_reads' HO411.out).2.1)
                   rintro e w45 ⟨rfl, hb⟩
                   have HS0_ := (hb.cell (World.block_lt_of_cell? _ _ (hHeld.1))).trans (hHeld.1)
                   have HS1_ := (hb.cell (World.block_lt_of_cell? _ _ (hHeld.2.1))).trans (hHeld.2.1)
                   have HS2_ := (hb.cell (World.block_lt_of_cell? _ _ (hHeld.2.2.1))).trans (hHeld.2.2.1)
                   have HS3_ := (hb.cell (World.block_lt_of_cell? _ _ (hHeld.2.2.2.1))).trans (hHeld.2.2.2.1)
                   have HS4_ := (hb.cell (World.block_lt_of_cell? _ _ (hHeld.2.2.2.2.1))).trans (hHeld.2.2.2.2.1)
                   have HS5_ := (hb.cell (World.block_lt_of_cell? _ _ (hHeld.2.2.2.2.2))).trans (hHeld.2.2.2.2.2)
                   refine ⟨_, rfl, ?_⟩
                   have n0_ := aM (Kd.S_below (xS HO_5.out) hb)
                   have n1_ := aM (Kd.V_below (xV HO_10.out) hb)
                   have n2_ := aM (Kd.R_below (xR HO_14.out) hb)
                   have n3_ := aM (Kd.V_below (xV HO_76.out) hb)
                   have n4_ := aM (Kd.R_below (xR HL407_0.out) hb)
                   have n5_ := aM (Kd.R_below (xR HL413_0.out) hb)
                   have n6_ := aM (Kd.R_below (xR HL415_0.out) hb)
                   have n7_ := aM (Kd.R_below (xR HO411.out) hb)
                   have n8_ := aM (Kd.C_below (by repeat (first | (with_reducible exact HR407_0.out) | (with_reducible refine Kd.C_alloc ?_ _) | (with_reducible refine Kd.C_drewN ?_ _) | (with_reducible refine Kd.C_drew ?_) | exact HR407_0.out)) hb)
                   have n9_ := aM (Kd.C_below (by repeat (first | (with_reducible exact HR413_0.out) | (with_reducible refine Kd.C_alloc ?_ _) | (with_reducible refine Kd.C_drewN ?_ _) | (with_reducible refine Kd.C_drew ?_) | exact HR413_0.out)) hb)
                   have n10_ := aM (Kd.C_below (by repeat (first | (with_reducible exact HR415_0.out) | (with_reducible refine Kd.C_alloc ?_ _) | (with_reducible refine Kd.C_drewN ?_ _) | (with_reducible refine Kd.C_drew ?_) | exact HR415_0.out)) hb)
                   have n11_ := aM (below_step (xH HB.out) hb)
                   clear HO_5 HO_10 HO_14 HO_76 HL407_0 HL413_0 HL415_0 HO411 HR407_0 HR413_0 HR415_0 HB
                   have HO_5 := n0_
                   have HO_10 := n1_
                   have HO_14 := n2_
                   have HO_76 := n3_
                   have HL407_0 := n4_
                   have HL413_0 := n5_
                   have HL415_0 := n6_
                   have HO411 := n7_
                   have HR407_0 := n8_
                   have HR413_0 := n9_
                   have HR415_0 := n10_
                   have HB := n11_
                   clear n0_ n1_ n2_ n3_ n4_ n5_ n6_ n7_ n8_ n9_ n10_ n11_
                   (try clear hb)
                   (try clear hb2)
                   (try clear hk)
                   (try clear hi)
                   refine hK.out _ _ ⟨HS0_, HS1_, HS2_, HS3_, HS4_, HS5_⟩ (fun hHeld => ?_)
                   clear hK K
                   refine norm_ (a' := ?_) ?_ ?_
                   rotate_left
                   ·
                    show Act.put _ (some 93) _ = _
                    simp only [Act.put, sA, sZ, sU, i64_w, i32_w]
                    rfl
                   refine pure_ (i := 11) (N := some 94) (v := ?_) (a' := ?_) #[true, true, true, true, true, true, true, true, true, true, true, true, true, true, true, true, true, true, true, true, true, true, true, true, true, true, true, true, false, false] rfl rfl (any_of HT_.out (by kernel_rfl)) (fun _ _ _ h => h) (Or.inl ⟨by rfl, ?_⟩) ?_ ?_
                   rotate_left
                   ·
                    intro w'
                    go_simp
                    with_reducible rfl
                   rotate_left
                   ·
                    simp only [Act.put, sA, sZ, sU, i64_w, i32_w]
                    rfl
                   refine pure_ (i := 28) (N := some 111) (v := ?_) (a' := ?_) #[true, true, true, true, true, true, true, true, true, true, true, true, true, true, true, true, true, true, true, true, true, true, true, true, true, true, true, true, true, false] rfl rfl (any_of HT_.out (by kernel_rfl)) (fun _ _ _ h => h) (Or.inl ⟨by rfl, ?_⟩) ?_ ?_
                   rotate_left
                   ·
                    intro w'
                    go_simp
                    with_reducible rfl
                   rotate_left
                   ·
                    simp only [Act.put, sA, sZ, sU, i64_w, i32_w]
                    rfl
                   refine pure_ (i := 29) (N := some 15) (v := ?_) (a' := ?_) #[true, true, true, true, true, true, true, true, true, true, true, true, true, true, true, true, true, true, true, true, true, true, true, true, true, true, true, true, true, true] rfl rfl (any_of HT_.out (by kernel_rfl)) (fun _ _ _ h => h) (Or.inl ⟨by rfl, ?_⟩) ?_ ?_
                   rotate_left
                   ·
                    intro w'
                    go_simp
                    with_reducible rfl
                   rotate_left
                   ·
                    simp only [Act.put, sA, sZ, sU, i64_w, i32_w]
                    rfl
                   refine done_ (done_of HT_.out (by kernel_rfl)) ?_
                   try go_wp2
                   go_roundg k3
                   case measure => have := HK1.out; have := HJ19.out; have := HK3.out; omega
                   case rel => exact ⟨(wrap64 ((wrap64 (Int.tdiv x15_3 t412)) * (ji40))), (wrap64 (x78_3 + 1)), (by first | rfl | (simp; done) | (simp only [← hji40] <;> (first | rfl | simp)) | (simp [*]; done)), (by first | rfl | (simp; done) | (simp [*]; done)), H', ⟨by have := HK1.out; have := HJ19.out; have := HK3.out; omega⟩, ⟨by (try simp only [hl5_19]); (with_reducible repeat (first | apply Kd.S_alloc | apply Kd.S_drewN | apply Kd.S_drew)); exact Kd.S_mono HO_5.out (fun _ hk => hk.1)⟩, ⟨by (try simp only [hl5_19]); (with_reducible repeat (first | apply Kd.V_alloc | apply Kd.V_drewN | apply Kd.V_drew)); exact Kd.V_mono HO_10.out (fun _ hk => ⟨hk.1.1, hk.1.2⟩)⟩, ⟨by (try simp only [hl5_19]); (with_reducible repeat (first | apply rA | apply rN | apply rD)); exact rM HO_14.out (fun _ hk => trivial)⟩, ⟨by (try simp only [hl5_19]); (with_reducible repeat (first | apply Kd.V_alloc | apply Kd.V_drewN | apply Kd.V_drew)); exact Kd.V_mono HO_76.out (fun _ hk => ⟨hk.1.1, hk.1.2⟩)⟩, ⟨xH HB.out⟩⟩
                 ·
                  rw [if_neg c37] at H
                  exact absurd H (by simp)
                ·
                 rw [if_neg c36] at H
                 exact absurd H (by simp)
               ·
                rw [if_neg c35] at H
                exact absurd H (by simp)
              ·
               rw [if_neg c34] at H
               exact absurd H (by simp)
             ·
              rw [if_neg c33] at H
              exact absurd H (by simp)
            ·
             rw [if_neg c32] at H
             have c32b0 : decide (x78_3 < (t398.length : Int)) = false := decide_eq_false c32
             clear c32
             by_cases c46 : 0 ≤ x11_19
             ·
              rw [if_pos c46] at H
              have c46b0 : decide (0 ≤ x11_19) = true := decide_eq_true c46
              clear c46
              by_cases c47 : x11_19 < (y403.length : Int)
              ·
               rw [if_pos c47] at H
               have c47b0 : decide (x11_19 < (y403.length : Int)) = true := decide_eq_true c47
               clear c47
               obtain ⟨y417, hy417⟩ : ∃ y_ : List Int, y_ = (y403.set (x11_19 : Int).toNat x15_3) := ⟨_, rfl⟩
               replace H : (impl_balance.l4 k3 t401 x11_19 y417 x15_3 t398 (t398.length : Int) 0) = some (r1, r2) := by first | (rw [hy417]; with_reducible exact H) | (have H2_ := (Option.bind_some _ _).symm.trans H; rw [hy417]; with_reducible exact H2_) | (have H2_ := (Option.bind_some _ _).symm.trans H; with_reducible exact H2_) | with_reducible exact H | (rw [hy417]; exact H) | exact H
               have Ny417 := aM hy417
               clear hy417
               have H' := aM H
               clear H
               have p48 : 0 ≤ (x11_19 : Int) := of_decide_eq_true (by first | (with_reducible assumption) | assumption)
               have q48 : (x11_19 : Int) < ((y403.length : Int) : Int) := of_decide_eq_true (by first | (with_reducible assumption) | assumption)
               obtain ⟨go48, co48, eo48, gb48, gl48, cl48, HG48⟩ := Kd.R_form HO_14.out (by omega)
               (first | cases eo48 | (injection eo48 with ea_ en_ ec_; (first | subst ea_ | (injection ea_ with ea_; subst ea_)); subst ec_; clear en_))
               have GB48 := aM gb48
               have GG48 := aM HG48
               clear gb48 gl48 HG48
               obtain ⟨hx48_0, hf48_0⟩ := Kd.R_celln 0 HO_14.out (x11_19 : Int) p48 q48
               replace p48 := eq_true p48
               replace q48 := eq_true q48
               have HP49 := Kd.R_putg HO_14.out (x11_19 : Int) x15_3
               go_wp2_with (first | ((with_reducible refine gate_store (t := 3) (p := 116) rfl ?_); refine store_event (t := 3) (p := 116) (v := ?vo_w50) (w1 := (wr.setCell ⟨go48, (x11_19 : Int).toNat, none⟩ (.int .i64 x15_3))) ?hg ?ho ?hn ?hr ?_; (case ho => rfl); (case hg => rfl); (case hn => rfl); (case hr => first | (go_simp; done) | (go_simp; rfl)); intro w50 hw; have hg : wr.grownBy w50 (some go48) := (by rw [hw]; exact HP49.2); have hp_ : Kd.R (Kd.int .i64) 3 w50 w.heap.size (fun _ => True) (.slice (some ⟨go48, 0, none⟩) y403.length co48) y417 := (by rw [hw, Ny417.out]; exact HP49.1); clear HP49; replace HO_5 := aM (Kd.S_after (v := (.slice (some ⟨go48, 0, none⟩) y403.length co48)) (v1 := (.slice (some ⟨go48, 0, none⟩) y403.length co48)) (ok := (fun _ => True)) (by (with_reducible repeat (first | apply Kd.S_alloc | apply Kd.S_drewN | apply Kd.S_drew)); exact Kd.S_mono HO_5.out (fun _ hk => ⟨trivial, hk⟩)) hg (.inl rfl)); replace HO_10 := aM (Kd.V_afterv (v := (.slice (some ⟨go48, 0, none⟩) y403.length co48)) (v1 := (.slice (some ⟨go48, 0, none⟩) y403.length co48)) (ok := (fun k_ => some k_ ≠ (.slice Ao21 t401.length co21 : Value).ownBlock)) (xV HO_10.out) hg (.inl rfl)); replace HO_14 := aM (hp_); replace HO_76 := aM (Kd.V_afterv (v := (.slice (some ⟨go48, 0, none⟩) y403.length co48)) (v1 := (.slice (some ⟨go48, 0, none⟩) y403.length co48)) (ok := (fun k_ => some k_ ≠ (.slice Ao21 t401.length co21 : Value).ownBlock)) (xV HO_76.out) hg (.inl rfl)); replace HB := aM ((by rw [hw]; exact eS (HB.out) GB48.out : Below w.heap.size w w50)); clear hg hw hp_))
               go_loopg [119] k3 (fun kq v119 w' => ∃ (x14_4 : List Int) (x119_4 : Int), v119 = .int .i64 x119_4 ∧ Aside0 (impl_balance.l4 kq t401 x11_19 x14_4 x15_3 t398 (t398.length : Int) x119_4 = some (r1, r2)) ∧ Aside0 (kq ≤ k3) ∧ Aside0 (Kd.S (Kd.slice 3 (Kd.int .i64)) 22 w' w.heap.size (fun k_ => some k_ ≠ ((.slice (some ⟨go48, 0, none⟩) y403.length co48) : Value).ownBlock) (.slice Ao21 t401.length co21) t401) ∧ Aside0 (Kd.R (Kd.int .i64) 3 w' w.heap.size (fun _ => True) (.slice (some ⟨go48, 0, none⟩) y403.length co48) x14_4) ∧ Aside0 (Kd.V (Kd.int .i64) 3 w' w.heap.size (fun k_ => some k_ ≠ ((.slice Ao21 t401.length co21) : Value).ownBlock ∧ some k_ ≠ ((.slice (some ⟨go48, 0, none⟩) y403.length co48) : Value).ownBlock) (.slice Ao23 t398.length co23) t398) ∧ Aside0 (Below w.heap.size w w'))
               case atStart => exact ⟨(y417), (0), (by first | rfl | (simp; done) | (simp [*]; done)), H', ⟨Nat.le_refl _⟩, ⟨by (try simp only [hl5_19]); (with_reducible repeat (first | apply Kd.S_alloc | apply Kd.S_drewN | apply Kd.S_drew)); exact Kd.S_mono HO_5.out (fun _ hk => hk.2)⟩, ⟨by (try simp only [hl5_19]); (with_reducible repeat (first | apply rA | apply rN | apply rD)); exact HO_14.out⟩, ⟨by (try simp only [hl5_19]); (with_reducible repeat (first | apply Kd.V_alloc | apply Kd.V_drewN | apply Kd.V_drew)); exact HO_10.out⟩, ⟨xH HB.out⟩⟩
               case round =>
                clear H'
                try clear c32; try clear c32b0; try clear c33; try clear c33b0; try clear c34; try clear c34b0; try clear c35; try clear c35b0; try clear c36; try clear c36b0; try clear c37; try clear c37b0; try clear c39; try clear c39b0; try clear c39b1; try clear c46; try clear c46b0; try clear c47; try clear c47b0; try clear p48; try clear q48; try clear hx406_0; try clear hx407_0; try clear hx408_0; try clear hx413_0; try clear hx414_0; try clear hx415_0; try clear hx416_0; try clear hx48_0; try clear p406; try clear p407; try clear p408; try clear p413; try clear p414; try clear p415; try clear p416; try clear q406; try clear q407; try clear q408; try clear q413; try clear q414; try clear q415; try clear q416
                obtain ⟨x14_4, x119_4, rfl, HA, HK4, HO_5, HO_14, HO_117, HB⟩ := hrel
                have hl14_4 := (Kd.R_reads' HO_14.out).1
                rw [hl14_4] at HO_14
                (try simp only [hl14_4])
                (try simp only [hl14_4] at HO_5)
                (try simp only [hl14_4] at HO_117)
                cases gk with
                | zero => exact absurd HA.out (by simp [impl_balance.l4])
                | succ k4 =>
                 have H := HA.out
                 clear HA
                 simp only [impl_balance.l4] at H
                 by_cases c51 : x119_4 < (t398.length : Int)
                 ·
                  rw [if_pos c51] at H
                  have c51b0 : decide (x119_4 < (t398.length : Int)) = true := decide_eq_true c51
                  clear c51
                  by_cases c52 : 0 ≤ x119_4
                  ·
                   rw [if_pos c52] at H
                   have c52b0 : decide (0 ≤ x119_4) = true := decide_eq_true c52
                   clear c52
                   by_cases c53 : x119_4 < (t398.length : Int)
                   ·
                    rw [if_pos c53] at H
                    have c53b0 : decide (x119_4 < (t398.length : Int)) = true := decide_eq_true c53
                    clear c53
                    by_cases c54 : x119_4 < (t401.length : Int)
                    ·
                     rw [if_pos c54] at H
                     have c54b0 : decide (x119_4 < (t401.length : Int)) = true := decide_eq_true c54
                     clear c54
                     by_cases c55 : 0 ≤ x11_19
                     ·
                      rw [if_pos c55] at H
                      have c55b0 : decide (0 ≤ x11_19) = true := decide_eq_true c55
                      clear c55
                      by_cases c56 : x11_19 < ((rd_L1 t401 x119_4).length : Int)
                      ·
                       rw [if_pos c56] at H
                       have c56b0 : decide (x11_19 < ((rd_L1 t401 x119_4).length : Int)) = true := decide_eq_true c56
                       clear c56
                       by_cases c57 : 0 ≤ (rd t398 x119_4)
                       ·
                        rw [if_pos c57] at H
                        have c57b0 : decide (0 ≤ (rd t398 x119_4)) = true := decide_eq_true c57
                        clear c57
                        by_cases c58 : (rd t398 x119_4) < ((rd_L1 t401 x119_4).length : Int)
                        ·
                         rw [if_pos c58] at H
                         have c58b0 : decide ((rd t398 x119_4) < ((rd_L1 t401 x119_4).length : Int)) = true := decide_eq_true c58
                         clear c58
                         by_cases c59 : (rd (rd_L1 t401 x119_4) (rd t398 x119_4)) = 0
                         ·
                          rw [if_pos c59] at H
                          exact absurd H (by simp)
                         ·
                          rw [if_neg c59] at H
                          have c59b0 : ((rd (rd_L1 t401 x119_4) (rd t398 x119_4)) == 0) = false := beq_eq_false_iff_ne.mpr c59
                          have c59b1 : ((rd (rd_L1 t401 x119_4) (rd t398 x119_4)) != 0) = true := bne_iff_ne.mpr c59
                          by_cases c60 : (rd t398 x119_4) < (x14_4.length : Int)
                          ·
                           rw [if_pos c60] at H
                           have c60b0 : decide ((rd t398 x119_4) < (x14_4.length : Int)) = true := decide_eq_true c60
                           clear c60
                           obtain ⟨y423, hy423⟩ : ∃ y_ : List Int, y_ = (x14_4.set ((rd t398 x119_4) : Int).toNat (wrap64 ((wrap64 (-(rd (rd_L1 t401 x119_4) x11_19))) * (wrap64 (Int.tdiv x15_3 (rd (rd_L1 t401 x119_4) (rd t398 x119_4))))))) := ⟨_, rfl⟩
                           replace H : (impl_balance.l4 k4 t401 x11_19 y423 x15_3 t398 (t398.length : Int) (wrap64 (x119_4 + 1))) = some (r1, r2) := by first | (rw [hy423]; with_reducible exact H) | (have H2_ := (Option.bind_some _ _).symm.trans H; rw [hy423]; with_reducible exact H2_) | (have H2_ := (Option.bind_some _ _).symm.trans H; with_reducible exact H2_) | with_reducible exact H | (rw [hy423]; exact H) | exact H
                           have Ny423 := aM hy423
                           clear hy423
                           have H' := aM H
                           clear H
                           have p418 : 0 ≤ (x119_4 : Int) := of_decide_eq_true (by first | (with_reducible assumption) | assumption)
                           have q418 : x119_4 < (t398.length : Int) := of_decide_eq_true (by first | (with_reducible assumption) | assumption)
                           obtain ⟨ad418, e418, hx418_0⟩ := Kd.at_int (Kd.V_reads' HO_117.out).2.2 x119_4 p418 q418
                           cases e418
                           replace p418 := eq_true p418
                           replace q418 := eq_true q418
                           try go_wp2
                           have n0_ := aM (Kd.S_drew HO_5.out)
                           have n1_ := aM (rD HO_14.out)
                           have n2_ := aM (Kd.V_drew HO_117.out)
                           have n3_ := aM (eD HB.out)
                           clear HO_5 HO_14 HO_117 HB
                           have HO_5 := n0_
                           have HO_14 := n1_
                           have HO_117 := n2_
                           have HB := n3_
                           clear n0_ n1_ n2_ n3_
                           have p419 : 0 ≤ (x119_4 : Int) := of_decide_eq_true (by first | (with_reducible assumption) | assumption)
                           have q419 : x119_4 < (t401.length : Int) := of_decide_eq_true (by first | (with_reducible assumption) | assumption)
                           obtain ⟨ad419, A419_0, c419_0, e419, hx419_0, hl419_0, hi419_0⟩ := at_L1 (Kd.S_reads' HO_5.out).2.2 x119_4 p419 q419
                           cases e419
                           obtain ⟨ce419, hce419, hMe419, hcc419⟩ := Kd.S_get HO_5.out [] x119_4 p419 (by first | exact q419 | exact of_decide_eq_true (by first | (with_reducible assumption) | assumption) | (have e_ := (Kd.S_reads' HO_5.out).1; omega))
                           obtain ⟨ve419_0, rfl, ge419_0⟩ := hMe419
                           have hv419_0 := hcc419 0 _ rfl
                           rw [Nat.add_zero, show ((Kd.slice 3 (Kd.int .i64))).sz = 1 from rfl, Nat.mul_one] at hv419_0
                           replace hv419_0 := Option.some.inj (hv419_0.symm.trans hx419_0)
                           rw [hv419_0] at ge419_0
                           have HL419_0 := aM (show Kd.R (Kd.int .i64) 3 _ _ _ _ (rd_L1 t401 x119_4) from ge419_0)
                           clear hv419_0 ge419_0 hcc419 hce419
                           have HR419_0 := aM hi419_0
                           have HC419_0 := aM hl419_0
                           clear hi419_0 hl419_0
                           replace p419 := eq_true p419
                           replace q419 := eq_true q419
                           have p420 : 0 ≤ (x11_19 : Int) := of_decide_eq_true (by first | (with_reducible assumption) | assumption)
                           have q420 : x11_19 < ((rd_L1 t401 x119_4).length : Int) := of_decide_eq_true (by first | (with_reducible assumption) | assumption)
                           obtain ⟨ad420, e420, hx420_0⟩ := Kd.at_int (by repeat (first | (with_reducible exact HR419_0.out) | (with_reducible refine Kd.C_alloc ?_ _) | (with_reducible refine Kd.C_drewN ?_ _) | (with_reducible refine Kd.C_drew ?_) | exact HR419_0.out)) x11_19 p420 q420
                           cases e420
                           replace p420 := eq_true p420
                           replace q420 := eq_true q420
                           have p421 : 0 ≤ (x119_4 : Int) := of_decide_eq_true (by first | (with_reducible assumption) | assumption)
                           have q421 : x119_4 < (t401.length : Int) := of_decide_eq_true (by first | (with_reducible assumption) | assumption)
                           obtain ⟨ad421, A421_0, c421_0, e421, hx421_0, hl421_0, hi421_0⟩ := at_L1 (Kd.S_reads' HO_5.out).2.2 x119_4 p421 q421
                           obtain rfl : ad419 = ad421 := (by injection e421)
                           obtain ⟨ce421, hce421, hMe421, hcc421⟩ := Kd.S_get HO_5.out [] x119_4 p421 (by first | exact q421 | exact of_decide_eq_true (by first | (with_reducible assumption) | assumption) | (have e_ := (Kd.S_reads' HO_5.out).1; omega))
                           obtain ⟨ve421_0, rfl, ge421_0⟩ := hMe421
                           have hv421_0 := hcc421 0 _ rfl
                           rw [Nat.add_zero, show ((Kd.slice 3 (Kd.int .i64))).sz = 1 from rfl, Nat.mul_one] at hv421_0
                           replace hv421_0 := Option.some.inj (hv421_0.symm.trans hx421_0)
                           rw [hv421_0] at ge421_0
                           have HL421_0 := aM (show Kd.R (Kd.int .i64) 3 _ _ _ _ (rd_L1 t401 x119_4) from ge421_0)
                           clear hv421_0 ge421_0 hcc421 hce421
                           have HR421_0 := aM hi421_0
                           have HC421_0 := aM hl421_0
                           clear hi421_0 hl421_0
                           replace p421 := eq_true p421
                           replace q421 := eq_true q421
                           have ea_ := Option.some.inj (hx419_0.symm.trans hx421_0)
                           injection ea_ with ea_ en_ ec_
                           subst ea_
                           subst ec_
                           clear en_
                           have p422 : 0 ≤ ((rd t398 x119_4) : Int) := of_decide_eq_true (by first | (with_reducible assumption) | assumption)
                           have q422 : (rd t398 x119_4) < ((rd_L1 t401 x119_4).length : Int) := of_decide_eq_true (by first | (with_reducible assumption) | assumption)
                           obtain ⟨ad422, e422, hx422_0⟩ := Kd.at_int (by repeat (first | (with_reducible exact HR421_0.out) | (with_reducible refine Kd.C_alloc ?_ _) | (with_reducible refine Kd.C_drewN ?_ _) | (with_reducible refine Kd.C_drew ?_) | exact HR421_0.out)) (rd t398 x119_4) p422 q422
                           obtain rfl : ad420 = ad422 := (by injection e422)
                           replace p422 := eq_true p422
                           replace q422 := eq_true q422
                           have p61 : 0 ≤ ((rd t398 x119_4) : Int) := of_decide_eq_true (by first | (with_reducible assumption) | assumption)
                           have q61 : ((rd t398 x119_4) : Int) < ((x14_4.length : Int) : Int) := of_decide_eq_true (by first | (with_reducible assumption) | assumption)
                           obtain ⟨hx61_0, hf61_0⟩ := Kd.R_celln 0 HO_14.out ((rd t398 x119_4) : Int) p61 q61
                           replace p61 := eq_true p61
                           replace q61 := eq_true q61
                           have HP63 := Kd.R_putn HO_14.out ((rd t398 x119_4) : Int) (wrap64 ((wrap64 (-(rd (rd_L1 t401 x119_4) x11_19))) * (wrap64 (Int.tdiv x15_3 (rd (rd_L1 t401 x119_4) (rd t398 x119_4))))))
                           rw [← Ny423.out] at HP63
                           have HQ63 := aM HP63
                           clear HP63
                           refine start_ (n := 22) (S := fun w' => w'.cell? (ad419.add (x119_4).toNat) = some (.slice (some ad420) (rd_L1 t401 x119_4).length c419_0) ∧ w'.cell? (ad420.add (x11_19).toNat) = some (.int .i64 (rd (rd_L1 t401 x119_4) x11_19)) ∧ w'.cell? (ad419.add (x119_4).toNat) = some (.slice (some ad420) (rd_L1 t401 x119_4).length c419_0) ∧ w'.cell? (ad420.add ((rd t398 x119_4)).toNat) = some (.int .i64 (rd (rd_L1 t401 x119_4) (rd t398 x119_4)))) (ds := [21]) #[false, false, false, false, false, false, false, false, false, false, false, false, false, false, false, false, false, false, false, false, false, false] (by kernel_rfl) rfl rfl ⟨hx419_0, hx420_0, hx421_0, hx422_0⟩ (fun hHeld => ?_); refine with_tabW impl_balance.tab34 impl_balance.bits34 (fun HT_ HW_ => ?_)
                           generalize wr.drew = w62 at HO_5 HO_14 HO_117 HB HL419_0 HL421_0 HQ63 HR419_0 HR421_0 hf61_0 hx419_0 hx420_0 hx421_0 hx422_0 hx61_0 hHeld ⊢
                           refine pure_ (i := 0) (N := some 124) (v := ?_) (a' := ?_) #[true, false, false, false, false, false, false, false, false, false, false, false, false, false, false, false, false, false, false, false, false, false] rfl rfl (any_of HT_.out (by kernel_rfl)) (fun _ _ _ h => h) (Or.inl ⟨by rfl, ?_⟩) ?_ ?_
                           rotate_left
                           ·
                            intro w'
                            go_simp
                            with_reducible rfl
                           rotate_left
                           ·
                            simp only [Act.put, sA, sZ, sU, i64_w, i32_w]
                            rfl
                           refine pure_ (i := 1) (N := some 125) (v := ?_) (a' := ?_) #[true, true, false, false, false, false, false, false, false, false, false, false, false, false, false, false, false, false, false, false, false, false] rfl rfl (any_of HT_.out (by kernel_rfl)) (fun _ _ _ h => h) (Or.inl ⟨by rfl, ?_⟩) ?_ ?_
                           rotate_left
                           ·
                            intro w'
                            go_simp
                            with_reducible rfl
                           rotate_left
                           ·
                            simp only [Act.put, sA, sZ, sU, i64_w, i32_w]
                            rfl
                           refine pure_ (i := 2) (N := some 126) (v := ?_) (a' := ?_) #[true, true, true, false, false, false, false, false, false, false, false, false, false, false, false, false, false, false, false, false, false, false] rfl rfl (any_of HT_.out (by kernel_rfl)) (fun _ _ _ h => h) (Or.inl ⟨by rfl, ?_⟩) ?_ ?_
                           rotate_left
                           ·
                            intro w'
                            go_simp
                            with_reducible rfl
                           rotate_left
                           ·
                            simp only [Act.put, sA, sZ, sU, i64_w, i32_w]
                            rfl
                           refine pure_ (i := 3) (N := some 127) (v := ?_) (a' := ?_) #[true, true, true, true, false, false, false, false, false, false, false, false, false, false, false, false, false, false, false, false, false, false] rfl rfl (any_of HT_.out (by kernel_rfl)) (fun _ _ _ h => h) (Or.inl ⟨by rfl, ?_⟩) ?_ ?_
                           rotate_left
                           ·
                            intro w'
                            go_simp
                            with_reducible rfl
                           rotate_left
                           ·
                            simp only [Act.put, sA, sZ, sU, i64_w, i32_w]
                            rfl
                           refine pure_ (i := 4) (N := some 128) (v := ?_) (a' := ?_) #[true, true, true, true, true, false, false, false, false, false, false, false, false, false, false, false, false, false, false, false, false, false] rfl rfl (any_of HT_.out (by kernel_rfl)) (fun _ _ _ h => h) (Or.inl ⟨by rfl, ?_⟩) ?_ ?_
                           rotate_left
                           ·
                            intro w'
                            go_simp
                            with_reducible rfl
                           rotate_left
                           ·
                            simp only [Act.put, sA, sZ, sU, i64_w, i32_w]
                            rfl
                           refine pure_ (i := 6) (N := some 130) (v := ?_) (a' := ?_) #[true, true, true, true, true, false, true, false, false, false, false, false, false, false, false, false, false, false, false, false, false, false] rfl rfl (any_of HT_.out (by kernel_rfl)) (fun _ _ _ h => h) (Or.inl ⟨by rfl, ?_⟩) ?_ ?_
                           rotate_left
                           ·
                            intro w'
                            go_simp
                            with_reducible rfl
                           rotate_left
                           ·
                            simp only [Act.put, sA, sZ, sU, i64_w, i32_w]
                            rfl
                           refine pure_ (i := 10) (N := some 134) (v := ?_) (a' := ?_) #[true, true, true, true, true, false, true, false, false, false, true, false, false, false, false, false, false, false, false, false, false, false] rfl rfl (any_of HT_.out (by kernel_rfl)) (fun _ _ _ h => h) (Or.inl ⟨by rfl, ?_⟩) ?_ ?_
                           rotate_left
                           ·
                            intro w'
                            go_simp
                            with_reducible rfl
                           rotate_left
                           ·
                            simp only [Act.put, sA, sZ, sU, i64_w, i32_w]
                            rfl
                           refine pure_ (i := 11) (N := some 135) (v := ?_) (a' := ?_) #[true, true, true, true, true, false, true, false, false, false, true, true, false, false, false, false, false, false, false, false, false, false] rfl rfl (any_of HT_.out (by kernel_rfl)) (fun _ _ _ h => h) (Or.inl ⟨by rfl, ?_⟩) ?_ ?_
                           rotate_left
                           ·
                            intro w'
                            go_simp
                            with_reducible rfl
                           rotate_left
                           ·
                            simp only [Act.put, sA, sZ, sU, i64_w, i32_w]
                            rfl
                           refine pure_ (i := 12) (N := some 136) (v := ?_) (a' := ?_) #[true, true, true, true, true, false, true, false, false, false, true, true, true, false, false, false, false, false, false, false, false, false] rfl rfl (any_of HT_.out (by kernel_rfl)) (fun _ _ _ h => h) (Or.inl ⟨by rfl, ?_⟩) ?_ ?_
                           rotate_left
                           ·
                            intro w'
                            go_simp
                            with_reducible rfl
                           rotate_left
                           ·
                            simp only [Act.put, sA, sZ, sU, i64_w, i32_w]
                            rfl
                           refine pure_ (i := 13) (N := some 137) (v := ?_) (a' := ?_) #[true, true, true, true, true, false, true, false, false, false, true, true, true, true, false, false, false, false, false, false, false, false] rfl rfl (any_of HT_.out (by kernel_rfl)) (fun _ _ _ h => h) (Or.inl ⟨by rfl, ?_⟩) ?_ ?_
                           rotate_left
                           ·
                            intro w'
                            go_simp
                            with_reducible rfl
                           rotate_left
                           ·
                            simp only [Act.put, sA, sZ, sU, i64_w, i32_w]
                            rfl
                           refine pure_ (i := 15) (N := some 139) (v := ?_) (a' := ?_) #[true, true, true, true, true, false, true, false, false, false, true, true, true, true, false, true, false, false, false, false, false, false] rfl rfl (any_of HT_.out (by kernel_rfl)) (fun _ _ _ h => h) (Or.inl ⟨by rfl, ?_⟩) ?_ ?_
                           rotate_left
                           ·
                            intro w'
                            go_simp
                            with_reducible rfl
                           rotate_left
                           ·
                            simp only [Act.put, sA, sZ, sU, i64_w, i32_w]
                            rfl
                           refine take_ (i := 5) (N := some 129) (v := ?_) (a' := ?_) #[true, true, true, true, true, true, true, false, false, false, true, true, true, true, false, true, false, false, false, false, false, false] rfl rfl (take_ofW HT_.out HW_.out (by kernel_rfl)) (fun _ _ _ h => h) (Or.inl ⟨by rfl, ?_⟩) hHeld ?_ ?_
                           rotate_left
                           ·
                            rintro w' ⟨s0, s1, s2, s3⟩
                            first | (go_simp; with_reducible rfl) | (simp only [add_plain] at s0 s1 s2 s3; go_simp; with_reducible rfl)
                           rotate_left
                           ·
                            simp only [Act.put, sA, sZ, sU, i64_w, i32_w]
                            rfl
                           refine pure_ (i := 7) (N := some 131) (v := ?_) (a' := ?_) #[true, true, true, true, true, true, true, true, false, false, true, true, true, true, false, true, false, false, false, false, false, false] rfl rfl (any_of HT_.out (by kernel_rfl)) (fun _ _ _ h => h) (Or.inl ⟨by rfl, ?_⟩) ?_ ?_
                           rotate_left
                           ·
                            intro w'
                            go_simp
                            with_reducible rfl
                           rotate_left
                           ·
                            simp only [Act.put, sA, sZ, sU, i64_w, i32_w]
                            rfl
                           refine take_ (i := 8) (N := some 132) (v := ?_) (a' := ?_) #[true, true, true, true, true, true, true, true, true, false, true, true, true, true, false, true, false, false, false, false, false, false] rfl rfl (take_ofW HT_.out HW_.out (by kernel_rfl)) (fun _ _ _ h => h) (Or.inl ⟨by rfl, ?_⟩) hHeld ?_ ?_
                           rotate_left
                           ·
                            rintro w' ⟨s0, s1, s2, s3⟩
                            first | (go_simp; with_reducible rfl) | (simp only [add_plain] at s0 s1 s2 s3; go_simp; with_reducible rfl)
                           rotate_left
                           ·
                            simp only [Act.put, sA, sZ, sU, i64_w, i32_w]
                            rfl
                           refine pure_ (i := 9) (N := some 133) (v := ?_) (a' := ?_) #[true, true, true, true, true, true, true, true, true, true, true, true, true, true, false, true, false, false, false, false, false, false] rfl rfl (any_of HT_.out (by kernel_rfl)) (fun _ _ _ h => h) (Or.inl ⟨by rfl, ?_⟩) ?_ ?_
                           rotate_left
                           ·
                            intro w'
                            go_simp
                            with_reducible rfl
                           rotate_left
                           ·
                            simp only [Act.put, sA, sZ, sU, i64_w, i32_w]
                            rfl
                           refine take_ (i := 14) (N := some 138) (v := ?_) (a' := ?_) #[true, true, true, true, true, true, true, true, true, true, true, true, true, true, true, true, false, false, false, false, false, false] rfl rfl (take_ofW HT_.out HW_.out (by kernel_rfl)) (fun _ _ _ h => h) (Or.inl ⟨by rfl, ?_⟩) hHeld ?_ ?_
                           rotate_left
                           ·
                            rintro w' ⟨s0, s1, s2, s3⟩
                            first | (go_simp; with_reducible rfl) | (simp only [add_plain] at s0 s1 s2 s3; go_simp; with_reducible rfl)
                           rotate_left
                           ·
                            simp only [Act.put, sA, sZ, sU, i64_w, i32_w]
                            rfl
                           refine pure_ (i := 16) (N := some 140) (v := ?_) (a' := ?_) #[true, true, true, true, true, true, true, true, true, true, true, true, true, true, true, true, true, false, false, false, false, false] rfl rfl (any_of HT_.out (by kernel_rfl)) (fun _ _ _ h => h) (Or.inl ⟨by rfl, ?_⟩) ?_ ?_
                           rotate_left
                           ·
                            intro w'
                            go_simp
                            with_reducible rfl
                           rotate_left
                           ·
                            simp only [Act.put, sA, sZ, sU, i64_w, i32_w]
                            rfl
                           refine take_ (i := 17) (N := some 141) (v := ?_) (a' := ?_) #[true, true, true, true, true, true, true, true, true, true, true, true, true, true, true, true, true, true, false, false, false, false] rfl rfl (take_ofW HT_.out HW_.out (by kernel_rfl)) (fun _ _ _ h => h) (Or.inl ⟨by rfl, ?_⟩) hHeld ?_ ?_
                           rotate_left
                           ·
                            rintro w' ⟨s0, s1, s2, s3⟩
                            first | (go_simp; with_reducible rfl) | (simp only [add_plain] at s0 s1 s2 s3; go_simp; with_reducible rfl)
                           rotate_left
                           ·
                            simp only [Act.put, sA, sZ, sU, i64_w, i32_w]
                            rfl
                           refine pure_ (i := 18) (N := some 142) (v := ?_) (a' := ?_) #[true, true, true, true, true, true, true, true, true, true, true, true, true, true, true, true, true, true, true, false, false, false] rfl rfl (any_of HT_.out (by kernel_rfl)) (fun _ _ _ h => h) (Or.inl ⟨by rfl, ?_⟩) ?_ ?_
                           rotate_left
                           ·
                            intro w'
                            go_simp
                            with_reducible rfl
                           rotate_left
                           ·
                            simp only [Act.put, sA, sZ, sU, i64_w, i32_w]
                            rfl
                           refine pure_ (i := 19) (N := some 143) (v := ?_) (a' := ?_) #[true, true, true, true, true, true, true, true, true, true, true, true, true, true, true, true, true, true, true, true, false, false] rfl rfl (any_of HT_.out (by kernel_rfl)) (fun _ _ _ h => h) (Or.inl ⟨by rfl, ?_⟩) ?_ ?_
                           rotate_left
                           ·
                            intro w'
                            go_simp
                            with_reducible rfl
                           rotate_left
                           ·
                            simp only [Act.put, sA, sZ, sU, i64_w, i32_w]
                            rfl
                           refine pure_ (i := 20) (N := some 144) (v := ?_) (a' := ?_) #[true, true, true, true, true, true, true, true, true, true, true, true, true, true, true, true, true, true, true, true, true, false] rfl rfl (any_of HT_.out (by kernel_rfl)) (fun _ _ _ h => h) (Or.inl ⟨by rfl, ?_⟩) ?_ ?_
                           rotate_left
                           ·
                            intro w'
                            go_simp
                            with_reducible rfl
                           rotate_left
                           ·
                            simp only [Act.put, sA, sZ, sU, i64_w, i32_w]
                            rfl
                           refine last_ (i := 21) (N := none) #[true, true, true, true, true, true, true, true, true, true, true, true, true, true, true, true, true, true, true, true, true, true] rfl rfl (one_of HT_.out (by kernel_rfl)) (by decide) (fun K hK => ?_)
                           refine skip_ (w1 := ?_) (by rfl) rfl ?_ ?_
                           rotate_left
                           ·
                            go_simp
                            rfl
                           refine hK.out _ _ ?_
                           clear hK K
                           refine done_ (done_of HT_.out (by kernel_rfl)) ?_
                           try go_wp2
                           (try simp only [← hl14_4])
                           go_roundg k4
                           case measure => have := HK1.out; have := HJ19.out; have := HK3.out; have := HK4.out; omega
                           case rel => exact ⟨(y423), (wrap64 (x119_4 + 1)), (by first | rfl | (simp; done) | (simp [*]; done)), H', ⟨by have := HK1.out; have := HJ19.out; have := HK3.out; have := HK4.out; omega⟩, ⟨by (try simp only [hl5_19]); (try simp only [hl14_4]); (with_reducible repeat (first | apply Kd.S_alloc | apply Kd.S_drewN | apply Kd.S_drew)); exact Kd.S_mono (Kd.S_far (p := ⟨go48, ((rd t398 x119_4) : Int).toNat, none⟩) (Kd.S_mono HO_5.out (fun k_ hk => (⟨hk, fun e_ => hk (by rw [e_]; rfl)⟩ : _ ∧ k_ ≠ go48))) (fun _ hk => hk.2) (.int .i64 (wrap64 ((wrap64 (-(rd (rd_L1 t401 x119_4) x11_19))) * (wrap64 (Int.tdiv x15_3 (rd (rd_L1 t401 x119_4) (rd t398 x119_4)))))))) (fun _ hk => hk.1)⟩, ⟨by (try simp only [hl5_19]); (try simp only [hl14_4]); (with_reducible repeat (first | apply rA | apply rN | apply rD)); exact HQ63.out⟩, ⟨by (try simp only [hl5_19]); (try simp only [hl14_4]); (with_reducible repeat (first | apply Kd.V_alloc | apply Kd.V_drewN | apply Kd.V_drew)); exact Kd.V_mono (Kd.V_far (p := ⟨go48, ((rd t398 x119_4) : Int).toNat, none⟩) (Kd.V_mono HO_117.out (fun k_ hk => (⟨hk, fun e_ => hk.2 (by rw [e_]; rfl)⟩ : _ ∧ k_ ≠ go48))) (fun _ hk => hk.2) (.int .i64 (wrap64 ((wrap64 (-(rd (rd_L1 t401 x119_4) x11_19))) * (wrap64 (Int.tdiv x15_3 (rd (rd_L1 t401 x119_4) (rd t398 x119_4)))))))) (fun _ hk => ⟨hk.1.1, hk.1.2⟩)⟩, ⟨xG1 HB.out GB48.out⟩⟩
                          ·
                           rw [if_neg c60] at H
                           exact absurd H (by simp)
                        ·
                         rw [if_neg c58] at H
                         exact absurd H (by simp)
                       ·
                        rw [if_neg c57] at H
                        exact absurd H (by simp)
                      ·
                       rw [if_neg c56] at H
                       exact absurd H (by simp)
                     ·
                      rw [if_neg c55] at H
                      exact absurd H (by simp)
                    ·
                     rw [if_neg c54] at H
                     exact absurd H (by simp)
                   ·
                    rw [if_neg c53] at H
                    exact absurd H (by simp)
                  ·
                   rw [if_neg c52] at H
                   exact absurd H (by simp)
                 ·
                  rw [if_neg c51] at H
                  have c51b0 : decide (x119_4 < (t398.length : Int)) = false := decide_eq_false c51
                  clear c51
                  replace H := oB.mp H
                  obtain ⟨t424, A640, H⟩ := H
                  replace H : (impl_balance.l5 k4 t424 t424 (x14_4.length : Int) 0) = some (r1, r2) := H
                  have A64 := aM A640
                  clear A640
                  have H' := aM H
                  clear H
                  go_wp2_with (first | ((with_reducible refine gate_callee (f := 103) rfl ?_); refine goesL_ (some 147) rfl rfl Try.func103 (by kernel_rfl) rfl #[.slice (some ⟨go48, 0, none⟩) x14_4.length co48] rfl xL ?_; (with_reducible refine (impl_shortened.calls k4 (fun k_ => some k_ = (.slice (some ⟨go48, 0, none⟩) x14_4.length co48 : Value).ownBlock) (.slice (some ⟨go48, 0, none⟩) x14_4.length co48) x14_4 t424 w _ ?side1 ?side2 A64.out).mono ?_); (case side1 => repeat (first | (with_reducible first | exact HB.out | apply eA | apply eN | apply eD) | exact HB.out)); (case side2 => exact Kd.R_tight rfl HO_14.out); rintro e w65 ⟨rfl, hy0, hb, hkp⟩; refine ⟨_, rfl, ?_⟩; replace HO_5 := aM (Kd.S_mono (ok' := fun k_ => some k_ ≠ (.slice (some ⟨go48, 0, none⟩) x14_4.length co48 : Value).ownBlock) (Kd.S_keptB (HO_5.out) hkp (fun k_ hk_ hs_ => (hk_) hs_)) (fun k_ hk_ => hk_.1)); replace HO_14 := aM (Kd.R_reok rfl hy0 (fun k_ e_ => HO_14.out.1 k_ e_)); replace HO_117 := aM (Kd.V_mono (ok' := fun k_ => some k_ ≠ (.slice Ao21 t401.length co21 : Value).ownBlock ∧ some k_ ≠ (.slice (some ⟨go48, 0, none⟩) x14_4.length co48 : Value).ownBlock) (Kd.V_keptB (HO_117.out) hkp (fun k_ hk_ hs_ => (hk_.2) hs_)) (fun k_ hk_ => ⟨hk_.1.1, hk_.1.2⟩)); replace HB := aM (hb); (try clear hb; try clear hkp; try clear hy0)))
                  go_loopg [150] k4 (fun kq v150 w' => ∃ (x150_5 : Int), v150 = .int .i64 x150_5 ∧ Aside0 (impl_balance.l5 kq t424 t424 (x14_4.length : Int) x150_5 = some (r1, r2)) ∧ Aside0 (kq ≤ k4) ∧ Aside0 (Kd.R (Kd.int .i64) 3 w' w.heap.size (fun _ => True) (.slice (some ⟨go48, 0, none⟩) x14_4.length co48) t424) ∧ Aside0 (Kd.R (Kd.int .i64) 3 w' w.heap.size (fun _ => True) (.slice (some ⟨go48, 0, none⟩) x14_4.length co48) t424) ∧ Aside0 (Below w.heap.size w w'))
                  case atStart => exact ⟨(0), (by first | rfl | (simp; done) | (simp [*]; done)), H', ⟨Nat.le_refl _⟩, ⟨by (try simp only [hl5_19]); (try simp only [hl14_4]); (with_reducible repeat (first | apply rA | apply rN | apply rD)); exact HO_14.out⟩, ⟨by (try simp only [hl5_19]); (try simp only [hl14_4]); (with_reducible repeat (first | apply rA | apply rN | apply rD)); exact HO_14.out⟩, ⟨xH HB.out⟩⟩
                  case round =>
                   clear H'
                   try clear c51; try clear c51b0; try clear c52; try clear c52b0; try clear c53; try clear c53b0; try clear c54; try clear c54b0; try clear c55; try clear c55b0; try clear c56; try clear c56b0; try clear c57; try clear c57b0; try clear c58; try clear c58b0; try clear c59; try clear c59b0; try clear c59b1; try clear c60; try clear c60b0; try clear p61; try clear q61; try clear hx418_0; try clear hx419_0; try clear hx420_0; try clear hx421_0; try clear hx422_0; try clear hx61_0; try clear p418; try clear p419; try clear p420; try clear p421; try clear p422; try clear q418; try clear q419; try clear q420; try clear q421; try clear q422
                   obtain ⟨x150_5, rfl, HA, HK5, HO_14, HO_148, HB⟩ := hrel
                   have hl14_5 := (Kd.R_reads' HO_14.out).1
                   rw [hl14_5] at HO_14
                   (try simp only [hl14_5])
                   (try simp only [hl14_5] at HO_148)
                   have hl148_5 := (Kd.R_reads' HO_148.out).1
                   rw [hl148_5] at HO_148
                   (try simp only [hl148_5])
                   (try simp only [hl148_5] at HO_14)
                   cases gk with
                   | zero => exact absurd HA.out (by simp [impl_balance.l5])
                   | succ k5 =>
                    have H := HA.out
                    clear HA
                    simp only [impl_balance.l5] at H
                    by_cases c66 : x150_5 < (x14_4.length : Int)
                    ·
                     rw [if_pos c66] at H
                     have c66b0 : decide (x150_5 < (x14_4.length : Int)) = true := decide_eq_true c66
                     clear c66
                     by_cases c67 : 0 ≤ x150_5
                     ·
                      rw [if_pos c67] at H
                      have c67b0 : decide (0 ≤ x150_5) = true := decide_eq_true c67
                      clear c67
                      by_cases c68 : x150_5 < (t424.length : Int)
                      ·
                       rw [if_pos c68] at H
                       have c68b0 : decide (x150_5 < (t424.length : Int)) = true := decide_eq_true c68
                       clear c68
                       by_cases c69 : (rd t424 x150_5) ≤ 0
                       ·
                        rw [if_pos c69] at H
                        have c69b0 : decide ((rd t424 x150_5) ≤ 0) = true := decide_eq_true c69
                        clear c69
                        simp only [Option.some.injEq, Prod.mk.injEq] at H
                        obtain ⟨rfl, rfl⟩ := H
                        have p425 : 0 ≤ (x150_5 : Int) := of_decide_eq_true (by first | (with_reducible assumption) | assumption)
                        have q425 : x150_5 < (t424.length : Int) := of_decide_eq_true (by first | (with_reducible assumption) | assumption)
                        obtain ⟨ad425, e425, hx425_0⟩ := Kd.at_int (Kd.R_reads' HO_148.out).2.2 x150_5 p425 q425
                        obtain rfl : (⟨go48, 0, none⟩ : Addr) = ad425 := (by injection e425)
                        (first | simp only [add_plain] at hx425_0 | simp only [add_at] at hx425_0 | simp only [Addr.add, Nat.zero_add] at hx425_0 | skip)
                        replace p425 := eq_true p425
                        replace q425 := eq_true q425
                        go_wp2
                        go_ret2
                        exact ⟨_, by first | rfl | (simp [errW_none, errW_some] <;> rfl) | (simp [*, errW_none, errW_some] <;> rfl), by first | exact Kd.R_nil _ _ _ _ _ | exact Kd.N_nil _ _ _ _ _ | exact Kd.V_nil _ _ _ _ _ | exact Kd.Q_nil _ _ _ _ _ | exact Kd.S_nil _ _ _ _ _, by repeat (first | (with_reducible first | exact HB.out | apply eA | apply eN | apply eD) | exact HB.out)⟩
                       ·
                        rw [if_neg c69] at H
                        have c69b0 : decide ((rd t424 x150_5) ≤ 0) = false := decide_eq_false c69
                        clear c69
                        have H' := aM H
                        clear H
                        have p425 : 0 ≤ (x150_5 : Int) := of_decide_eq_true (by first | (with_reducible assumption) | assumption)
                        have q425 : x150_5 < (t424.length : Int) := of_decide_eq_true (by first | (with_reducible assumption) | assumption)
                        obtain ⟨ad425, e425, hx425_0⟩ := Kd.at_int (Kd.R_reads' HO_148.out).2.2 x150_5 p425 q425
                        obtain rfl : (⟨go48, 0, none⟩ : Addr) = ad425 := (by injection e425)
                        (first | simp only [add_plain] at hx425_0 | simp only [add_at] at hx425_0 | simp only [Addr.add, Nat.zero_add] at hx425_0 | skip)
                        replace p425 := eq_true p425
                        replace q425 := eq_true q425
                        go_wp2
                        (first | simp only [← hl14_5] | simp only [← hl148_5] | skip)
                        go_roundg k5
                        case measure => have := HK1.out; have := HJ19.out; have := HK3.out; have := HK4.out; have := HK5.out; omega
                        case rel => exact ⟨(wrap64 (x150_5 + 1)), (by first | rfl | (simp; done) | (simp [*]; done)), H', ⟨by have := HK1.out; have := HJ19.out; have := HK3.out; have := HK4.out; have := HK5.out; omega⟩, ⟨by (try simp only [hl5_19]); (try simp only [hl14_4]); (try simp only [hl14_5]); (try simp only [hl148_5]); (with_reducible repeat (first | apply rA | apply rN | apply rD)); exact HO_14.out⟩, ⟨by (try simp only [hl5_19]); (try simp only [hl14_4]); (try simp only [hl14_5]); (try simp only [hl148_5]); (with_reducible repeat (first | apply rA | apply rN | apply rD)); exact HO_148.out⟩, ⟨xH HB.out⟩⟩
                      ·
                       rw [if_neg c68] at H
                       exact absurd H (by simp)
                     ·
                      rw [if_neg c67] at H
                      exact absurd H (by simp)
                    ·
                     rw [if_neg c66] at H
                     have c66b0 : decide (x150_5 < (x14_4.length : Int)) = false := decide_eq_false c66
                     have c66b9 := c66b0
                     (try simp only [hl148_5] at c66b9)
                     have c66b8 := c66b0
                     (try simp only [hl14_5] at c66b8)
                     clear c66
                     simp only [Option.some.injEq, Prod.mk.injEq] at H
                     obtain ⟨rfl, rfl⟩ := H
                     go_wp2
                     go_ret2
                     exact ⟨_, by first | rfl | (simp [errW_none, errW_some] <;> rfl) | (simp [*, errW_none, errW_some] <;> rfl), by (with_reducible repeat (first | apply rA | apply rN | apply rD)); exact HO_14.out, by repeat (first | (with_reducible first | exact HB.out | apply eA | apply eN | apply eD) | exact HB.out)⟩
              ·
               rw [if_neg c47] at H
               exact absurd H (by simp)
             ·
              rw [if_neg c46] at H
              exact absurd H (by simp)
         ·
          rw [if_neg c29] at H
          exact absurd H (by simp)
        ·
         rw [if_neg c28] at H
         exact absurd H (by simp)
     ·
      rw [if_neg c19] at H
      have c19b0 : ((t398.length : Int) == (wrap64 ((l0.length : Int) - 1))) = false := beq_eq_false_iff_ne.mpr c19
      have c19b1 : ((t398.length : Int) != (wrap64 ((l0.length : Int) - 1))) = true := bne_iff_ne.mpr c19
      simp only [Option.some.injEq, Prod.mk.injEq] at H
      obtain ⟨rfl, rfl⟩ := H
      obtain ⟨Ao70, co70, eo70⟩ := Kd.S_slice HO_5.out
      subst eo70
      go_wp2_with (first | ((with_reducible refine gate_callee (f := 101) rfl ?_); refine goesL_ (some 54) rfl rfl Try.func101 (by kernel_rfl) rfl #[.slice Ao70 x5_1.length co70, .int .i64 (l0.length : Int)] rfl xL ?_; (with_reducible refine (impl_reduced.calls k1 (fun k_ => True) (.slice Ao70 x5_1.length co70) x5_1 (l0.length : Int) t398 t401 w _ ?side1 ?side2 A18.out).mono ?_); (case side1 => repeat (first | (with_reducible first | exact HB.out | apply eA | apply eN | apply eD) | exact HB.out)); (case side2 => exact by (with_reducible repeat (first | apply Kd.S_alloc | apply Kd.S_drewN | apply Kd.S_drew)); exact HO_5.out); rintro e w71 ⟨v399, rfl, ho0, hy0, hb, hkp⟩; refine ⟨_, rfl, ?_⟩; replace HO_5 := aM (Kd.S_mono hy0 (fun _ _ => trivial)); have HO400 := aM (Kd.V_mono (ok' := fun k_ => some k_ ≠ (.slice Ao70 x5_1.length co70 : Value).ownBlock) ho0 (fun k_ hk_ => hk_.2)); replace HB := aM (hb); (try clear hb; try clear hkp; try clear ho0; try clear hy0); obtain ⟨Ao72, co72, eo72⟩ := Kd.V_slice HO400.out; subst eo72))
      go_ret2
      exact ⟨_, by first | rfl | (simp [errW_none, errW_some] <;> rfl) | (simp [*, errW_none, errW_some] <;> rfl), by first | exact Kd.R_nil _ _ _ _ _ | exact Kd.N_nil _ _ _ _ _ | exact Kd.V_nil _ _ _ _ _ | exact Kd.Q_nil _ _ _ _ _ | exact Kd.S_nil _ _ _ _ _, by repeat (first | (with_reducible first | exact HB.out | apply eA | apply eN | apply eD) | exact HB.out)⟩
 ·
  rw [if_neg c2] at H
  exact absurd H (by simp)
end Go.Proofs.Ytgidnmpppbkamaa.PFnExactIsWeighted
