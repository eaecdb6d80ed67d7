-- Laid for this claim by a program of the session's own (wip/tool/myprint.py).
import Derived.Test.YtoecohjjbgenbaaMFnVotersx0
import Derived.Test.YtoecohjjbgenbaaMFnVotersx5
namespace Go.Proofs.Ytoecohjjbgenbaa.PFnVoters
open Go.RowKit Go.Proofs.YtoecohjjbgenbaaW.PrintWords Go.Proofs.YtoecohjjbgenbaaW.PrintLast Go.Proofs.YtoecohjjbgenbaaW.PrintMore
attribute [local go_sem] max2_int min2_int max_two min_two max_three min_three max_four min_four
set_option linter.unusedVariables false
set_option linter.unusedSimpArgs false
def spec_SplitVoter.f (k : Nat) (l0_0 : List Int) (a0_1 : Int) (a1 : Int) (a2 : Int) : Option (List Int × Int × Bool) := (spec_l6Voter.f k l0_0 a0_1 a1).bind fun t246 => (if t246 = true then (if 0 ≤ a1 then (if a1 < (l0_0.length : Int) then ((spec_l1In.f a2 0 (rd l0_0 a1)).bind fun t248 => (if t248 = true then (if (l0_0.length : Int) = 8 then (some (([] : List Int), 0, false)) else ((spec_l1Own.f l0_0).bind fun t249 => ((some (([wrap64 ((rd l0_0 a1) - a2)] : List Int) : List Int)).bind fun y253 => (if t249.length + y253.length < 17592186044416 then ((some (t249 ++ y253 : List Int)).bind fun y256 => (if a1 < (y256.length : Int) then (some ((y256.set (a1 : Int).toNat a2), a0_1, true)) else (none))) else (none))))) else (some (([] : List Int), 0, false)))) else (none)) else (none)) else (some (([] : List Int), 0, false)))
theorem spec_SplitVoter.mono : ∀ a0 a1 a2 a3 k, LeO (spec_SplitVoter.f k a0 a1 a2 a3) (spec_SplitVoter.f (k + 1) a0 a1 a2 a3) := by
 intro a0 a1 a2 a3 k
 unfold spec_SplitVoter.f
 repeat' first
   | (with_reducible exact spec_l6Voter.mono _ _ _ _)
   | (with_reducible exact LeO.refl _)
   | (with_reducible exact LeO.none _)
   | (with_reducible refine LeO.ite ?_ ?_)
   | (with_reducible refine LeO.bind ?_ (fun _ => ?_))
   | exact spec_l6Voter.mono _ _ _ _
   | exact LeO.none _
   | refine LeO.ite ?_ ?_
   | refine LeO.bind ?_ (fun _ => ?_)
def spec_SplitVoter.T3 : Bool × List (List Nat × List Nat) := (true, [([], []), ([0], [0]), ([1], [1]), ([], []), ([3], [3]), ([], []), ([4, 5], [4, 5]), ([6], [6]), ([], []), ([7, 8], [7, 8]), ([9], [9]), ([2, 10, 2], [2, 10]), ([], []), ([12], [12]), ([11, 13], [11, 13]), ([], []), ([15, 14, 11, 0, 1, 2, 3, 4, 5, 6, 7, 8, 9, 10, 11, 12, 13, 14, 15], [14, 15])])
def spec_SplitVoter.B3 : List Nat := [0, 1, 3, 0, 8, 0, 56, 120, 0, 504, 1016, 2047, 0, 4096, 16383, 0, 65535]
theorem spec_SplitVoter.tab3 : rtab .any (opsOf Try.f10 3) = spec_SplitVoter.T3 := by kernel_rfl
theorem spec_SplitVoter.bits3 : waitsOk spec_SplitVoter.T3.2 spec_SplitVoter.B3 = true := by kernel_rfl
set_option maxHeartbeats 8000000 in
set_option maxRecDepth 100000 in
theorem spec_SplitVoter.calls (k : Nat) (A0_0 : Option Addr) (c0_0 : Nat) (l0_0 : List Int) (a0_1 : Int) (a1 : Int) (a2 : Int) (r1 : List Int) (r2 : Int) (r3 : Bool) (w : World) (hr0_0 : Kd.C (Kd.int .i64) w A0_0 l0_0.length l0_0) (hc0_0 : l0_0.length ≤ c0_0) (h : spec_SplitVoter.f k l0_0 a0_1 a1 a2 = some (r1, r2, r3)) :
  Calls Try.prog 10 #[.agg #[.slice A0_0 l0_0.length c0_0, .int .i64 a0_1], .int .i64 a1, .int .i64 a2] w fun e w' => ∃ v0_ : Value, e = .returned (.tuple #[.agg #[v0_, .int .i64 r2], .bool r3]) ∧ Kd.R (Kd.int .i64) 3 w' w.heap.size (fun _ => True) v0_ r1 ∧ Below w.heap.size w w' := by
 have hu26 := Try.underlying26
 have HR0_0 := aM hr0_0
 have HC0_0 := aM hc0_0
 clear hr0_0 hc0_0
 have HB := aM (Below.refl w.heap.size w)
 have H : ((spec_l6Voter.f k l0_0 a0_1 a1).bind fun t246 => (if t246 = true then (if 0 ≤ a1 then (if a1 < (l0_0.length : Int) then ((spec_l1In.f a2 0 (rd l0_0 a1)).bind fun t248 => (if t248 = true then (if (l0_0.length : Int) = 8 then (some (([] : List Int), 0, false)) else ((spec_l1Own.f l0_0).bind fun t249 => ((some (([wrap64 ((rd l0_0 a1) - a2)] : List Int) : List Int)).bind fun y253 => (if t249.length + y253.length < 17592186044416 then ((some (t249 ++ y253 : List Int)).bind fun y256 => (if a1 < (y256.length : Int) then (some ((y256.set (a1 : Int).toNat a2), a0_1, true)) else (none))) else (none))))) else (some (([] : List Int), 0, false)))) else (none)) else (none)) else (some (([] : List Int), 0, false)))) = some (r1, r2, r3) := h
 clear h
 replace H := oB.mp H
 obtain ⟨t246, A40, H⟩ := H
 replace H : (if t246 = true then (if 0 ≤ a1 then (if a1 < (l0_0.length : Int) then ((spec_l1In.f a2 0 (rd l0_0 a1)).bind fun t248 => (if t248 = true then (if (l0_0.length : Int) = 8 then (some (([] : List Int), 0, false)) else ((spec_l1Own.f l0_0).bind fun t249 => ((some (([wrap64 ((rd l0_0 a1) - a2)] : List Int) : List Int)).bind fun y253 => (if t249.length + y253.length < 17592186044416 then ((some (t249 ++ y253 : List Int)).bind fun y256 => (if a1 < (y256.length : Int) then (some ((y256.set (a1 : Int).toNat a2), a0_1, true)) else (none))) else (none))))) else (some (([] : List Int), 0, false)))) else (none)) else (none)) else (some (([] : List Int), 0, false))) = some (r1, r2, r3) := H
 have A4 := aM A40
 clear A40
 by_cases c5 : t246 = true
 ·
  subst c5
  have H1 : (if 0 ≤ a1 then (if a1 < (l0_0.length : Int) then ((spec_l1In.f a2 0 (rd l0_0 a1)).bind fun t248 => (if t248 = true then (if (l0_0.length : Int) = 8 then (some (([] : List Int), 0, false)) else ((spec_l1Own.f l0_0).bind fun t249 => ((some (([wrap64 ((rd l0_0 a1) - a2)] : List Int) : List Int)).bind fun y253 => (if t249.length + y253.length < 17592186044416 then ((some (t249 ++ y253 : List Int)).bind fun y256 => (if a1 < (y256.length : Int) then (some ((y256.set (a1 : Int).toNat a2), a0_1, true)) else (none))) else (none))))) else (some (([] : List Int), 0, false)))) else (none)) else (none)) = some (r1, r2, r3) := by rw [if_pos rfl] at H; exact H
  clear H
  have H := H1
  clear H1
  by_cases c6 : 0 ≤ a1
  ·
   rw [if_pos c6] at H
   have c6b0 : decide (0 ≤ a1) = true := decide_eq_true c6
   clear c6
   by_cases c7 : a1 < (l0_0.length : Int)
   ·
    rw [if_pos c7] at H
    have c7b0 : decide (a1 < (l0_0.length : Int)) = true := decide_eq_true c7
    clear c7
    replace H := oB.mp H
    obtain ⟨t248, A80, H⟩ := H
    replace H : (if t248 = true then (if (l0_0.length : Int) = 8 then (some (([] : List Int), 0, false)) else ((spec_l1Own.f l0_0).bind fun t249 => ((some (([wrap64 ((rd l0_0 a1) - a2)] : List Int) : List Int)).bind fun y253 => (if t249.length + y253.length < 17592186044416 then ((some (t249 ++ y253 : List Int)).bind fun y256 => (if a1 < (y256.length : Int) then (some ((y256.set (a1 : Int).toNat a2), a0_1, true)) else (none))) else (none))))) else (some (([] : List Int), 0, false))) = some (r1, r2, r3) := H
    have A8 := aM A80
    clear A80
    by_cases c9 : t248 = true
    ·
     subst c9
     have H1 : (if (l0_0.length : Int) = 8 then (some (([] : List Int), 0, false)) else ((spec_l1Own.f l0_0).bind fun t249 => ((some (([wrap64 ((rd l0_0 a1) - a2)] : List Int) : List Int)).bind fun y253 => (if t249.length + y253.length < 17592186044416 then ((some (t249 ++ y253 : List Int)).bind fun y256 => (if a1 < (y256.length : Int) then (some ((y256.set (a1 : Int).toNat a2), a0_1, true)) else (none))) else (none))))) = some (r1, r2, r3) := by rw [if_pos rfl] at H; exact H
     clear H
     have H := H1
     clear H1
     by_cases c10 : (l0_0.length : Int) = 8
     ·
      rw [if_pos c10] at H
      have c10b0 : ((l0_0.length : Int) == 8) = true := beq_iff_eq.mpr c10
      have c10b1 : ((l0_0.length : Int) != 8) = false := bne_eq_false_iff_eq.mpr c10
      clear c10
      simp only [Option.some.injEq, Prod.mk.injEq] at H
      obtain ⟨rfl, rfl, rfl⟩ := H
      go_enter Try.func10, Try.ntmps10
      go_wp2_with (first | ((with_reducible refine gate_dst (N := 3) rfl ?_); (try (refine gate_guard (by rfl) ?_; dsimp only)); refine box_event ?hg (N := 3) ?hd (cs := #[.slice A0_0 l0_0.length c0_0, .int .i64 a0_1]) (t := 26) ?hr ?_; (case hd => rfl); (case hg => rfl); (case hr => first | (go_simp; done) | (go_simp; rfl)); intro gb244 hg w11 hbox hb; have n0_ := aM (below_step (by repeat (first | (with_reducible first | exact HB.out | apply eA | apply eN | apply eD) | exact HB.out)) hb); have n1_ := aM (hbox); have n2_ := aM ((by rw [hg]; exact (below_size (by repeat (first | (with_reducible first | exact HB.out | apply eA | apply eN | apply eD) | exact HB.out))) : w.heap.size ≤ gb244)); have n3_ := aM ((by rw [hg]; exact (below_size (by repeat (first | (with_reducible first | exact HB.out | apply eA | apply eN | apply eD) | exact HB.out))) : w.heap.size ≤ gb244)); clear HB; have HB := n0_; have BK244 := n1_; have GW244 := n2_; have GE244 := n3_; clear n0_ n1_ n2_ n3_; clear hb hbox hg) | ((with_reducible refine gate_dst (N := 6) rfl ?_); (try (refine gate_guard (by rfl) ?_; dsimp only)); refine box_event ?hg (N := 6) ?hd (cs := #[.slice none 0 0, .int .i64 0]) (t := 26) ?hr ?_; (case hd => rfl); (case hg => rfl); (case hr => first | (go_simp; done) | (go_simp; rfl)); intro gb245 hg w12 hbox hb; have n0_ := aM (bB (g := gb244) (o := .cells #[.slice A0_0 l0_0.length c0_0, .int .i64 a0_1] 26 (0, 0)) (by (with_reducible repeat (first | refine bN ?_ _ | refine bD ?_ | refine bA ?_ _)); exact BK244.out) hb); have n1_ := aM (below_step (by repeat (first | (with_reducible first | exact HB.out | apply eA | apply eN | apply eD | refine eS ?_ GE244.out) | exact HB.out)) hb); have n2_ := aM (hbox); have n3_ := aM ((by rw [hg]; exact (below_size (by repeat (first | (with_reducible first | exact HB.out | apply eA | apply eN | apply eD | refine eS ?_ GE244.out) | exact HB.out))) : w.heap.size ≤ gb245)); have n4_ := aM ((by rw [hg]; exact (below_size (by repeat (first | (with_reducible first | exact HB.out | apply eA | apply eN | apply eD | refine eS ?_ GE244.out) | exact HB.out))) : w.heap.size ≤ gb245)); have n5_ := aM ((by rw [hg]; exact Nat.ne_of_lt (blk_lt (g := gb244) (o := .cells #[.slice A0_0 l0_0.length c0_0, .int .i64 a0_1] 26 (0, 0)) (by (with_reducible repeat (first | refine bN ?_ _ | refine bD ?_ | refine bA ?_ _)); exact BK244.out)) : gb244 ≠ gb245)); have n6_ := aM ((by rw [hg]; exact Nat.ne_of_gt (blk_lt (g := gb244) (o := .cells #[.slice A0_0 l0_0.length c0_0, .int .i64 a0_1] 26 (0, 0)) (by (with_reducible repeat (first | refine bN ?_ _ | refine bD ?_ | refine bA ?_ _)); exact BK244.out)) : gb245 ≠ gb244)); clear BK244; clear HB; have BK244 := n0_; have HB := n1_; have BK245 := n2_; have GW245 := n3_; have GE245 := n4_; have NB244_245 := n5_; have NB245_244 := n6_; clear n0_ n1_ n2_ n3_ n4_ n5_ n6_; clear hb hbox hg; have hnb13 := NB244_245.out; have hnc13 := NB245_244.out; have hcz14_0 : w12.cell? ⟨gb244, 0, none⟩ = some (.slice A0_0 l0_0.length c0_0) := (bC BK244.out 0).trans rfl; have hcz14_1 : w12.cell? ⟨gb244, 1, none⟩ = some (.int .i64 a0_1) := (bC BK244.out 1).trans rfl; have hfz14_0 := bF BK244.out 0; have hfz14_1 := bF BK244.out 1) | ((with_reducible refine gate_callee (f := 52) rfl ?_); refine goesL_ (some 11) rfl rfl Try.func52 (by kernel_rfl) rfl #[.agg #[.slice A0_0 l0_0.length c0_0, .int .i64 a0_1], .int .i64 a1] rfl (by (try simp only [List.map_toArray, List.map_cons, List.map_nil]); first | done | rfl | (simp only [List.length_drop, List.length_take]; rfl)) ?_; (with_reducible refine (spec_l6Voter.calls k _ _ l0_0 a0_1 a1 true _ ?side1 ?side2 A4.out).mono ?_); (case side1 => repeat (first | exact (Kd.C_below HR0_0.out HB.out) | (with_reducible refine Kd.C_alloc ?_ _) | (with_reducible refine Kd.C_drewN ?_ _) | (with_reducible refine Kd.C_drew ?_))); (case side2 => exact HC0_0.out); rintro e w15 ⟨rfl, hb⟩; refine ⟨_, rfl, ?_⟩; have n0_ := aM (bB (g := gb244) (o := .cells #[.slice A0_0 l0_0.length c0_0, .int .i64 a0_1] 26 (0, 0)) (by (with_reducible repeat (first | refine bN ?_ _ | refine bD ?_ | refine bA ?_ _)); exact BK244.out) hb); have n1_ := aM (bB (g := gb245) (o := .cells #[.slice none 0 0, .int .i64 0] 26 (0, 0)) (by (with_reducible repeat (first | refine bN ?_ _ | refine bD ?_ | refine bA ?_ _)); exact BK245.out) hb); have n2_ := aM (below_step (by repeat (first | (with_reducible first | exact HB.out | apply eA | apply eN | apply eD | refine eS ?_ GE244.out | refine eS ?_ GE245.out) | exact HB.out)) hb); clear BK244; clear BK245; clear HB; have BK244 := n0_; have BK245 := n1_; have HB := n2_; clear n0_ n1_ n2_; (try clear hb); (try clear hb2); (try clear hk); (try clear hi); have hcz16_0 : w15.cell? ⟨gb244, 0, none⟩ = some (.slice A0_0 l0_0.length c0_0) := (bC BK244.out 0).trans rfl; have hcz16_1 : w15.cell? ⟨gb244, 1, none⟩ = some (.int .i64 a0_1) := (bC BK244.out 1).trans rfl; have hfz16_0 := bF BK244.out 0; have hfz16_1 := bF BK244.out 1; have p247 : 0 ≤ (a1 : Int) := of_decide_eq_true (by first | (with_reducible assumption) | assumption); have q247 : a1 < (l0_0.length : Int) := of_decide_eq_true (by first | (with_reducible assumption) | assumption); obtain ⟨ad247, e247, hx247_0⟩ := Kd.at_int HR0_0.out a1 p247 q247; cases e247; replace hx247_0 := (HB.out.cell (World.block_lt_of_cell? w _ hx247_0)).trans hx247_0; replace p247 := eq_true p247; replace q247 := eq_true q247) | (go_at_call 53; (with_reducible refine (spec_l1In.calls a2 0 (rd l0_0 a1) true _ A8.out).mono ?_); rintro e w' ⟨rfl, ⟨nd, rfl⟩⟩; (try (rw [drewN_self w15]; generalize hq_ : World.drewN w15 _ = w15; have n0_ : Aside0 (w15.heap[gb244]? = some (.cells #[.slice (some ad247) l0_0.length c0_0, .int .i64 a0_1] 26 (0, 0))) := ⟨by rw [← hq_]; exact (by (with_reducible repeat (first | refine bN ?_ _ | refine bD ?_ | refine bA ?_ _)); exact BK244.out)⟩; have n1_ : Aside0 (w15.heap[gb245]? = some (.cells #[.slice none 0 0, .int .i64 0] 26 (0, 0))) := ⟨by rw [← hq_]; exact (by (with_reducible repeat (first | refine bN ?_ _ | refine bD ?_ | refine bA ?_ _)); exact BK245.out)⟩; have n2_ : Aside0 (Below w.heap.size w w15) := ⟨by rw [← hq_]; exact (by repeat (first | (with_reducible first | exact HB.out | apply eA | apply eN | apply eD | refine eS ?_ GE244.out | refine eS ?_ GE245.out) | exact HB.out))⟩; clear BK244 BK245 HB hq_; have BK244 := n0_; have BK245 := n1_; have HB := n2_; clear n0_ n1_ n2_)); (try (have hcy244_0 := (bC BK244.out 0).trans rfl)); (try (have hfy244_0 := bF BK244.out 0)); (try (have hcy244_1 := (bC BK244.out 1).trans rfl)); (try (have hfy244_1 := bF BK244.out 1)); have hcz17_0 : w15.cell? ⟨gb245, 0, none⟩ = some (.slice none 0 0) := (bC BK245.out 0).trans rfl; have hcz17_1 : w15.cell? ⟨gb245, 1, none⟩ = some (.int .i64 0) := (bC BK245.out 1).trans rfl; have hfz17_0 := bF BK245.out 0; have hfz17_1 := bF BK245.out 1))
      refine bodyPost_ret (results_ct rfl _ _ gb245 26 #[.slice none 0 0, .int .i64 0] (0, 0) _ rfl (by (with_reducible repeat (first | refine bN ?_ _ | refine bD ?_ | refine bA ?_ _)); refine blk_put (cs := #[.slice none 0 0, .int .i64 0]) ?_ 1 _ rfl; (with_reducible repeat (first | refine bN ?_ _ | refine bD ?_ | refine bA ?_ _)); refine blk_put (cs := #[.slice none 0 0, .int .i64 0]) ?_ 0 _ rfl; (with_reducible repeat (first | refine bN ?_ _ | refine bD ?_ | refine bA ?_ _)); exact BK245.out) Try.underlying26 rfl (by kernel_rfl)) rfl ?_
      exact ⟨_, by first | rfl | (simp [errW_none, errW_some] <;> rfl) | (simp [*, errW_none, errW_some] <;> rfl), by first | exact Kd.R_nil _ _ _ _ _ | exact Kd.N_nil _ _ _ _ _ | exact Kd.V_nil _ _ _ _ _ | exact Kd.Q_nil _ _ _ _ _ | exact Kd.S_nil _ _ _ _ _, by repeat (first | (with_reducible first | exact HB.out | apply eA | apply eN | apply eD | refine eS ?_ GE244.out | refine eS ?_ GE245.out) | exact HB.out)⟩
     ·
      rw [if_neg c10] at H
      have c10b0 : ((l0_0.length : Int) == 8) = false := beq_eq_false_iff_ne.mpr c10
      have c10b1 : ((l0_0.length : Int) != 8) = true := bne_iff_ne.mpr c10
      replace H := oB.mp H
      obtain ⟨t249, A180, H⟩ := H
      replace H : ((some (([wrap64 ((rd l0_0 a1) - a2)] : List Int) : List Int)).bind fun y253 => (if t249.length + y253.length < 17592186044416 then ((some (t249 ++ y253 : List Int)).bind fun y256 => (if a1 < (y256.length : Int) then (some ((y256.set (a1 : Int).toNat a2), a0_1, true)) else (none))) else (none))) = some (r1, r2, r3) := H
      have A18 := aM A180
      clear A180
      obtain ⟨y253, hy253⟩ : ∃ y_ : List Int, y_ = (([wrap64 ((rd l0_0 a1) - a2)] : List Int)) := ⟨_, rfl⟩
      replace H : (if t249.length + y253.length < 17592186044416 then ((some (t249 ++ y253 : List Int)).bind fun y256 => (if a1 < (y256.length : Int) then (some ((y256.set (a1 : Int).toNat a2), a0_1, true)) else (none))) else (none)) = some (r1, r2, r3) := by first | (rw [hy253]; with_reducible exact H) | (have H2_ := (Option.bind_some _ _).symm.trans H; rw [hy253]; with_reducible exact H2_) | (have H2_ := (Option.bind_some _ _).symm.trans H; with_reducible exact H2_) | with_reducible exact H | (rw [hy253]; exact H) | exact H
      have Ny253 := aM hy253
      clear hy253
      by_cases c19 : t249.length + y253.length < 17592186044416
      ·
       rw [if_pos c19] at H
       have LMc19 := aM c19
       clear c19
       obtain ⟨y256, hy256⟩ : ∃ y_ : List Int, y_ = (t249 ++ y253) := ⟨_, rfl⟩
       replace H : (if a1 < (y256.length : Int) then (some ((y256.set (a1 : Int).toNat a2), a0_1, true)) else (none)) = some (r1, r2, r3) := by first | (rw [hy256]; with_reducible exact H) | (have H2_ := (Option.bind_some _ _).symm.trans H; rw [hy256]; with_reducible exact H2_) | (have H2_ := (Option.bind_some _ _).symm.trans H; with_reducible exact H2_) | with_reducible exact H | (rw [hy256]; exact H) | exact H
       have Ny256 := aM hy256
       clear hy256
       by_cases c20 : a1 < (y256.length : Int)
       ·
        rw [if_pos c20] at H
        have c20b0 : decide (a1 < (y256.length : Int)) = true := decide_eq_true c20
        clear c20
        obtain ⟨y260, hy260⟩ : ∃ y_ : List Int, y_ = (y256.set (a1 : Int).toNat a2) := ⟨_, rfl⟩
        replace H : (some (y260, a0_1, true)) = some (r1, r2, r3) := by first | (rw [hy260]; with_reducible exact H) | (have H2_ := (Option.bind_some _ _).symm.trans H; rw [hy260]; with_reducible exact H2_) | (have H2_ := (Option.bind_some _ _).symm.trans H; with_reducible exact H2_) | with_reducible exact H | (rw [hy260]; exact H) | exact H
        have Ny260 := aM hy260
        clear hy260
        simp only [Option.some.injEq, Prod.mk.injEq] at H
        obtain ⟨rfl, rfl, rfl⟩ := H
        go_enter Try.func10, Try.ntmps10
        try go_wp2_with (first | ((with_reducible refine gate_dst (N := 3) rfl ?_); (try (refine gate_guard (by rfl) ?_; dsimp only)); refine box_event ?hg (N := 3) ?hd (cs := #[.slice A0_0 l0_0.length c0_0, .int .i64 a0_1]) (t := 26) ?hr ?_; (case hd => rfl); (case hg => rfl); (case hr => first | (go_simp; done) | (go_simp; rfl)); intro gb244 hg w22 hbox hb; have n0_ := aM (below_step (by repeat (first | (with_reducible first | exact HB.out | apply eA | apply eN | apply eD) | exact HB.out)) hb); have n1_ := aM (hbox); have n2_ := aM ((by rw [hg]; exact (below_size (by repeat (first | (with_reducible first | exact HB.out | apply eA | apply eN | apply eD) | exact HB.out))) : w.heap.size ≤ gb244)); have n3_ := aM ((by rw [hg]; exact (below_size (by repeat (first | (with_reducible first | exact HB.out | apply eA | apply eN | apply eD) | exact HB.out))) : w.heap.size ≤ gb244)); clear HB; have HB := n0_; have BK244 := n1_; have GW244 := n2_; have GE244 := n3_; clear n0_ n1_ n2_ n3_; clear hb hbox hg) | ((with_reducible refine gate_dst (N := 6) rfl ?_); (try (refine gate_guard (by rfl) ?_; dsimp only)); refine box_event ?hg (N := 6) ?hd (cs := #[.slice none 0 0, .int .i64 0]) (t := 26) ?hr ?_; (case hd => rfl); (case hg => rfl); (case hr => first | (go_simp; done) | (go_simp; rfl)); intro gb245 hg w23 hbox hb; have n0_ := aM (bB (g := gb244) (o := .cells #[.slice A0_0 l0_0.length c0_0, .int .i64 a0_1] 26 (0, 0)) (by (with_reducible repeat (first | refine bN ?_ _ | refine bD ?_ | refine bA ?_ _)); exact BK244.out) hb); have n1_ := aM (below_step (by repeat (first | (with_reducible first | exact HB.out | apply eA | apply eN | apply eD | refine eS ?_ GE244.out) | exact HB.out)) hb); have n2_ := aM (hbox); have n3_ := aM ((by rw [hg]; exact (below_size (by repeat (first | (with_reducible first | exact HB.out | apply eA | apply eN | apply eD | refine eS ?_ GE244.out) | exact HB.out))) : w.heap.size ≤ gb245)); have n4_ := aM ((by rw [hg]; exact (below_size (by repeat (first | (with_reducible first | exact HB.out | apply eA | apply eN | apply eD | refine eS ?_ GE244.out) | exact HB.out))) : w.heap.size ≤ gb245)); have n5_ := aM ((by rw [hg]; exact Nat.ne_of_lt (blk_lt (g := gb244) (o := .cells #[.slice A0_0 l0_0.length c0_0, .int .i64 a0_1] 26 (0, 0)) (by (with_reducible repeat (first | refine bN ?_ _ | refine bD ?_ | refine bA ?_ _)); exact BK244.out)) : gb244 ≠ gb245)); have n6_ := aM ((by rw [hg]; exact Nat.ne_of_gt (blk_lt (g := gb244) (o := .cells #[.slice A0_0 l0_0.length c0_0, .int .i64 a0_1] 26 (0, 0)) (by (with_reducible repeat (first | refine bN ?_ _ | refine bD ?_ | refine bA ?_ _)); exact BK244.out)) : gb245 ≠ gb244)); clear BK244; clear HB; have BK244 := n0_; have HB := n1_; have BK245 := n2_; have GW245 := n3_; have GE245 := n4_; have NB244_245 := n5_; have NB245_244 := n6_; clear n0_ n1_ n2_ n3_ n4_ n5_ n6_; clear hb hbox hg; have hnb24 := NB244_245.out; have hnc24 := NB245_244.out; have hcz25_0 : w23.cell? ⟨gb244, 0, none⟩ = some (.slice A0_0 l0_0.length c0_0) := (bC BK244.out 0).trans rfl; have hcz25_1 : w23.cell? ⟨gb244, 1, none⟩ = some (.int .i64 a0_1) := (bC BK244.out 1).trans rfl; have hfz25_0 := bF BK244.out 0; have hfz25_1 := bF BK244.out 1) | ((with_reducible refine gate_callee (f := 52) rfl ?_); refine goesL_ (some 11) rfl rfl Try.func52 (by kernel_rfl) rfl #[.agg #[.slice A0_0 l0_0.length c0_0, .int .i64 a0_1], .int .i64 a1] rfl (by (try simp only [List.map_toArray, List.map_cons, List.map_nil]); first | done | rfl | (simp only [List.length_drop, List.length_take]; rfl)) ?_; (with_reducible refine (spec_l6Voter.calls k _ _ l0_0 a0_1 a1 true _ ?side1 ?side2 A4.out).mono ?_); (case side1 => repeat (first | exact (Kd.C_below HR0_0.out HB.out) | (with_reducible refine Kd.C_alloc ?_ _) | (with_reducible refine Kd.C_drewN ?_ _) | (with_reducible refine Kd.C_drew ?_))); (case side2 => exact HC0_0.out); rintro e w26 ⟨rfl, hb⟩; refine ⟨_, rfl, ?_⟩; have n0_ := aM (bB (g := gb244) (o := .cells #[.slice A0_0 l0_0.length c0_0, .int .i64 a0_1] 26 (0, 0)) (by (with_reducible repeat (first | refine bN ?_ _ | refine bD ?_ | refine bA ?_ _)); exact BK244.out) hb); have n1_ := aM (bB (g := gb245) (o := .cells #[.slice none 0 0, .int .i64 0] 26 (0, 0)) (by (with_reducible repeat (first | refine bN ?_ _ | refine bD ?_ | refine bA ?_ _)); exact BK245.out) hb); have n2_ := aM (below_step (by repeat (first | (with_reducible first | exact HB.out | apply eA | apply eN | apply eD | refine eS ?_ GE244.out | refine eS ?_ GE245.out) | exact HB.out)) hb); clear BK244; clear BK245; clear HB; have BK244 := n0_; have BK245 := n1_; have HB := n2_; clear n0_ n1_ n2_; (try clear hb); (try clear hb2); (try clear hk); (try clear hi); have hcz27_0 : w26.cell? ⟨gb244, 0, none⟩ = some (.slice A0_0 l0_0.length c0_0) := (bC BK244.out 0).trans rfl; have hcz27_1 : w26.cell? ⟨gb244, 1, none⟩ = some (.int .i64 a0_1) := (bC BK244.out 1).trans rfl; have hfz27_0 := bF BK244.out 0; have hfz27_1 := bF BK244.out 1; have p247 : 0 ≤ (a1 : Int) := of_decide_eq_true (by first | (with_reducible assumption) | assumption); have q247 : a1 < (l0_0.length : Int) := of_decide_eq_true (by first | (with_reducible assumption) | assumption); obtain ⟨ad247, e247, hx247_0⟩ := Kd.at_int HR0_0.out a1 p247 q247; cases e247; replace hx247_0 := (HB.out.cell (World.block_lt_of_cell? w _ hx247_0)).trans hx247_0; replace p247 := eq_true p247; replace q247 := eq_true q247) | (go_at_call 53; (with_reducible refine (spec_l1In.calls a2 0 (rd l0_0 a1) true _ A8.out).mono ?_); rintro e w' ⟨rfl, ⟨nd, rfl⟩⟩; (try (rw [drewN_self w26]; generalize hq_ : World.drewN w26 _ = w26; have n0_ : Aside0 (w26.heap[gb244]? = some (.cells #[.slice (some ad247) l0_0.length c0_0, .int .i64 a0_1] 26 (0, 0))) := ⟨by rw [← hq_]; exact (by (with_reducible repeat (first | refine bN ?_ _ | refine bD ?_ | refine bA ?_ _)); exact BK244.out)⟩; have n1_ : Aside0 (w26.heap[gb245]? = some (.cells #[.slice none 0 0, .int .i64 0] 26 (0, 0))) := ⟨by rw [← hq_]; exact (by (with_reducible repeat (first | refine bN ?_ _ | refine bD ?_ | refine bA ?_ _)); exact BK245.out)⟩; have n2_ : Aside0 (Below w.heap.size w w26) := ⟨by rw [← hq_]; exact (by repeat (first | (with_reducible first | exact HB.out | apply eA | apply eN | apply eD | refine eS ?_ GE244.out | refine eS ?_ GE245.out) | exact HB.out))⟩; clear BK244 BK245 HB hq_; have BK244 := n0_; have BK245 := n1_; have HB := n2_; clear n0_ n1_ n2_)); (try (have hcy244_0 := (bC BK244.out 0).trans rfl)); (try (have hfy244_0 := bF BK244.out 0)); (try (have hcy244_1 := (bC BK244.out 1).trans rfl)); (try (have hfy244_1 := bF BK244.out 1)); (try (have hcy245_0 := (bC BK245.out 0).trans rfl)); (try (have hfy245_0 := bF BK245.out 0)); (try (have hcy245_1 := (bC BK245.out 1).trans rfl)); (try (have hfy245_1 := bF BK245.out 1))))
        have n0_ := aM (bD BK244.out)
        have n1_ := aM (bD BK245.out)
        have n2_ := aM (eD HB.out)
        clear BK244 BK245 HB
        have BK244 := n0_
        have BK245 := n1_
        have HB := n2_
        clear n0_ n1_ n2_
        have p252 : 0 ≤ (a1 : Int) := of_decide_eq_true (by first | (with_reducible assumption) | assumption)
        have q252 : a1 < (l0_0.length : Int) := of_decide_eq_true (by first | (with_reducible assumption) | assumption)
        obtain ⟨ad252, e252, hx252_0⟩ := Kd.at_int HR0_0.out a1 p252 q252
        have hw252_0 := hx252_0
        obtain rfl : ad247 = ad252 := (by injection e252)
        replace hx252_0 := (HB.out.cell (World.block_lt_of_cell? w _ hx252_0)).trans hx252_0
        replace p252 := eq_true p252
        replace q252 := eq_true q252
        refine start_ (n := 17) (S := fun w' => w'.cell? ⟨gb244, 0, none⟩ = some (.slice (some ad247) l0_0.length c0_0) ∧ w'.cell? ⟨gb244, 1, none⟩ = some (.int .i64 a0_1) ∧ w'.cell? (ad247.add (a1).toNat) = some (.int .i64 (rd l0_0 a1))) (ds := []) #[false, false, false, false, false, false, false, false, false, false, false, false, false, false, false, false, false] (by kernel_rfl) rfl rfl ⟨(bC BK244.out 0).trans rfl, (bC BK244.out 1).trans rfl, ((HB.out.cell (World.block_lt_of_cell? w _ hw252_0)).trans hw252_0)⟩ (fun hHeld => ?_); refine with_tabW spec_SplitVoter.tab3 spec_SplitVoter.bits3 (fun HT_ HW_ => ?_)
        generalize w26.drew = w28 at BK244 BK245 HB hx252_0 hHeld ⊢
        refine pure_ (i := 0) (N := some 30) (v := ?_) (a' := ?_) #[true, false, false, false, false, false, false, false, false, false, false, false, false, false, false, false, false] rfl rfl (any_of HT_.out (by kernel_rfl)) (fun _ _ _ h => h) (Or.inl ⟨by rfl, ?_⟩) ?_ ?_
        rotate_left
        ·
         intro w'
         go_simp
         with_reducible rfl
        rotate_left
        ·
         simp only [Act.put, sA, sZ, sU, i64_w, i32_w]
         rfl
        refine pure_ (i := 3) (N := some 33) (v := ?_) (a' := ?_) #[true, false, false, true, false, false, false, false, false, false, false, false, false, false, false, false, false] rfl rfl (any_of HT_.out (by kernel_rfl)) (fun _ _ _ h => h) (Or.inl ⟨by rfl, ?_⟩) ?_ ?_
        rotate_left
        ·
         intro w'
         go_simp
         with_reducible rfl
        rotate_left
        ·
         simp only [Act.put, sA, sZ, sU, i64_w, i32_w]
         rfl
        refine pure_ (i := 5) (N := some 35) (v := ?_) (a' := ?_) #[true, false, false, true, false, true, false, false, false, false, false, false, false, false, false, false, false] rfl rfl (any_of HT_.out (by kernel_rfl)) (fun _ _ _ h => h) (Or.inl ⟨by rfl, ?_⟩) ?_ ?_
        rotate_left
        ·
         intro w'
         go_simp
         with_reducible rfl
        rotate_left
        ·
         simp only [Act.put, sA, sZ, sU, i64_w, i32_w]
         rfl
        refine pure_ (i := 8) (N := some 38) (v := ?_) (a' := ?_) #[true, false, false, true, false, true, false, false, true, false, false, false, false, false, false, false, false] rfl rfl (any_of HT_.out (by kernel_rfl)) (fun _ _ _ h => h) (Or.inl ⟨by rfl, ?_⟩) ?_ ?_
        rotate_left
        ·
         intro w'
         go_simp
         with_reducible rfl
        rotate_left
        ·
         simp only [Act.put, sA, sZ, sU, i64_w, i32_w]
         rfl
        refine pure_ (i := 12) (N := some 42) (v := ?_) (a' := ?_) #[true, false, false, true, false, true, false, false, true, false, false, false, true, false, false, false, false] rfl rfl (any_of HT_.out (by kernel_rfl)) (fun _ _ _ h => h) (Or.inl ⟨by rfl, ?_⟩) ?_ ?_
        rotate_left
        ·
         intro w'
         go_simp
         with_reducible rfl
        rotate_left
        ·
         simp only [Act.put, sA, sZ, sU, i64_w, i32_w]
         rfl
        refine take_ (i := 1) (N := some 31) (v := ?_) (a' := ?_) #[true, true, false, true, false, true, false, false, true, false, false, false, true, false, false, false, false] rfl rfl (take_ofW HT_.out HW_.out (by kernel_rfl)) (fun _ _ _ h => h) (Or.inl ⟨by rfl, ?_⟩) hHeld ?_ ?_
        rotate_left
        ·
         rintro w' ⟨s0, s1, s2⟩
         first | (go_simp; with_reducible rfl) | (simp only [add_plain] at s0 s1 s2; go_simp; with_reducible rfl)
        rotate_left
        ·
         simp only [Act.put, sA, sZ, sU, i64_w, i32_w]
         rfl
        refine take_ (i := 4) (N := some 34) (v := ?_) (a' := ?_) #[true, true, false, true, true, true, false, false, true, false, false, false, true, false, false, false, false] rfl rfl (take_ofW HT_.out HW_.out (by kernel_rfl)) (fun _ _ _ h => h) (Or.inl ⟨by rfl, ?_⟩) hHeld ?_ ?_
        rotate_left
        ·
         rintro w' ⟨s0, s1, s2⟩
         first | (go_simp; with_reducible rfl) | (simp only [add_plain] at s0 s1 s2; go_simp; with_reducible rfl)
        rotate_left
        ·
         simp only [Act.put, sA, sZ, sU, i64_w, i32_w]
         rfl
        refine pure_ (i := 6) (N := some 36) (v := ?_) (a' := ?_) #[true, true, false, true, true, true, true, false, true, false, false, false, true, false, false, false, false] rfl rfl (any_of HT_.out (by kernel_rfl)) (fun _ _ _ h => h) (Or.inl ⟨by rfl, ?_⟩) ?_ ?_
        rotate_left
        ·
         intro w'
         go_simp
         with_reducible rfl
        rotate_left
        ·
         simp only [Act.put, sA, sZ, sU, i64_w, i32_w]
         rfl
        refine take_ (i := 7) (N := some 37) (v := ?_) (a' := ?_) #[true, true, false, true, true, true, true, true, true, false, false, false, true, false, false, false, false] rfl rfl (take_ofW HT_.out HW_.out (by kernel_rfl)) (fun _ _ _ h => h) (Or.inl ⟨by rfl, ?_⟩) hHeld ?_ ?_
        rotate_left
        ·
         rintro w' ⟨s0, s1, s2⟩
         first | (go_simp; with_reducible rfl) | (simp only [add_plain] at s0 s1 s2; go_simp; with_reducible rfl)
        rotate_left
        ·
         simp only [Act.put, sA, sZ, sU, i64_w, i32_w]
         rfl
        refine pure_ (i := 9) (N := some 39) (v := ?_) (a' := ?_) #[true, true, false, true, true, true, true, true, true, true, false, false, true, false, false, false, false] rfl rfl (any_of HT_.out (by kernel_rfl)) (fun _ _ _ h => h) (Or.inl ⟨by rfl, ?_⟩) ?_ ?_
        rotate_left
        ·
         intro w'
         go_simp
         with_reducible rfl
        rotate_left
        ·
         simp only [Act.put, sA, sZ, sU, i64_w, i32_w]
         rfl
        refine take_ (i := 13) (N := some 43) (v := ?_) (a' := ?_) #[true, true, false, true, true, true, true, true, true, true, false, false, true, true, false, false, false] rfl rfl (take_ofW HT_.out HW_.out (by kernel_rfl)) (fun _ _ _ h => h) (Or.inl ⟨by rfl, ?_⟩) hHeld ?_ ?_
        rotate_left
        ·
         rintro w' ⟨s0, s1, s2⟩
         first | (go_simp; with_reducible rfl) | (simp only [add_plain] at s0 s1 s2; go_simp; with_reducible rfl)
        rotate_left
        ·
         simp only [Act.put, sA, sZ, sU, i64_w, i32_w]
         rfl
        refine join_ (σ := Value × Value × Value × Nat) 1 #[true, true, true, true, true, true, true, true, true, true, true, true, true, true, true, true, false] (fun s_ => [(32, s_.1), (40, s_.2.1), (41, s_.2.2.1), (8, .pointer (some ⟨s_.2.2.2, 0, none⟩)), (44, .agg #[s_.2.2.1, .int .i64 a0_1])]) (fun s_ w' => (w'.cell? ⟨gb244, 0, none⟩ = some (.slice (some ad247) l0_0.length c0_0) ∧ w'.cell? ⟨gb244, 1, none⟩ = some (.int .i64 a0_1) ∧ w'.cell? (ad247.add (a1).toNat) = some (.int .i64 (rd l0_0 a1))) ∧ (Kd.R (Kd.int .i64) 3 w' w.heap.size (fun k_ => some k_ ≠ (s_.2.2.1 : Value).ownBlock) s_.2.1 y253) ∧ (Kd.R (Kd.int .i64) 3 w' w.heap.size (fun k_ => some k_ ≠ (s_.2.1 : Value).ownBlock) s_.2.2.1 y256) ∧ (w'.heap[gb244]? = some (.cells #[.slice (some ad247) l0_0.length c0_0, .int .i64 a0_1] 26 (0, 0))) ∧ (w'.heap[gb245]? = some (.cells #[.slice none 0 0, .int .i64 0] 26 (0, 0))) ∧ (w'.heap[s_.2.2.2]? = some (.cells #[.slice none 0 0, .int .i64 0] 26 (0, 0))) ∧ (w.heap.size ≤ s_.2.2.2) ∧ (w.heap.size ≤ s_.2.2.2) ∧ (gb244 ≠ s_.2.2.2) ∧ (s_.2.2.2 ≠ gb244) ∧ (gb245 ≠ s_.2.2.2) ∧ (s_.2.2.2 ≠ gb245) ∧ (Below w.heap.size w w')) ?_ ?_
        rotate_left
        ·
         intro hJ2_10_11_15
         refine join_ (σ := Value × Value × Value) 2 #[true, true, true, true, true, true, true, true, true, true, true, true, true, true, true, false, false] (fun s_ => [(32, s_.1), (40, s_.2.1), (41, s_.2.2), (44, .agg #[s_.2.2, .int .i64 a0_1])]) (fun s_ w' => (w'.cell? ⟨gb244, 0, none⟩ = some (.slice (some ad247) l0_0.length c0_0) ∧ w'.cell? ⟨gb244, 1, none⟩ = some (.int .i64 a0_1) ∧ w'.cell? (ad247.add (a1).toNat) = some (.int .i64 (rd l0_0 a1))) ∧ (Kd.R (Kd.int .i64) 3 w' w.heap.size (fun k_ => some k_ ≠ (s_.2.2 : Value).ownBlock) s_.2.1 y253) ∧ (Kd.R (Kd.int .i64) 3 w' w.heap.size (fun k_ => some k_ ≠ (s_.2.1 : Value).ownBlock) s_.2.2 y256) ∧ (w'.heap[gb244]? = some (.cells #[.slice (some ad247) l0_0.length c0_0, .int .i64 a0_1] 26 (0, 0))) ∧ (w'.heap[gb245]? = some (.cells #[.slice none 0 0, .int .i64 0] 26 (0, 0))) ∧ (Below w.heap.size w w')) ?_ ?_
         rotate_left
         ·
          intro hJ2_10_11
          refine join_ (σ := Value × Value × Nat) 3 #[true, true, true, true, true, true, true, true, true, true, true, false, true, true, false, true, false] (fun s_ => [(32, s_.1), (40, s_.2.1), (8, .pointer (some ⟨s_.2.2, 0, none⟩))]) (fun s_ w' => (w'.cell? ⟨gb244, 0, none⟩ = some (.slice (some ad247) l0_0.length c0_0) ∧ w'.cell? ⟨gb244, 1, none⟩ = some (.int .i64 a0_1) ∧ w'.cell? (ad247.add (a1).toNat) = some (.int .i64 (rd l0_0 a1))) ∧ (Kd.R (Kd.int .i64) 3 w' w.heap.size (fun k_ => some k_ ≠ (s_.2.1 : Value).ownBlock) s_.1 t249) ∧ (Kd.R (Kd.int .i64) 3 w' w.heap.size (fun k_ => some k_ ≠ (s_.1 : Value).ownBlock) s_.2.1 y253) ∧ (w'.heap[gb244]? = some (.cells #[.slice (some ad247) l0_0.length c0_0, .int .i64 a0_1] 26 (0, 0))) ∧ (w'.heap[gb245]? = some (.cells #[.slice none 0 0, .int .i64 0] 26 (0, 0))) ∧ (w'.heap[s_.2.2]? = some (.cells #[.slice none 0 0, .int .i64 0] 26 (0, 0))) ∧ (w.heap.size ≤ s_.2.2) ∧ (w.heap.size ≤ s_.2.2) ∧ (gb244 ≠ s_.2.2) ∧ (s_.2.2 ≠ gb244) ∧ (gb245 ≠ s_.2.2) ∧ (s_.2.2 ≠ gb245) ∧ (Below w.heap.size w w')) ?_ ?_
          rotate_left
          ·
           intro hJ2_10_15
           refine join_ (σ := Value × Value) 4 #[true, true, true, true, true, true, true, true, true, true, true, false, true, true, false, false, false] (fun s_ => [(32, s_.1), (40, s_.2)]) (fun s_ w' => (w'.cell? ⟨gb244, 0, none⟩ = some (.slice (some ad247) l0_0.length c0_0) ∧ w'.cell? ⟨gb244, 1, none⟩ = some (.int .i64 a0_1) ∧ w'.cell? (ad247.add (a1).toNat) = some (.int .i64 (rd l0_0 a1))) ∧ (Kd.R (Kd.int .i64) 3 w' w.heap.size (fun k_ => some k_ ≠ (s_.2 : Value).ownBlock) s_.1 t249) ∧ (Kd.R (Kd.int .i64) 3 w' w.heap.size (fun k_ => some k_ ≠ (s_.1 : Value).ownBlock) s_.2 y253) ∧ (w'.heap[gb244]? = some (.cells #[.slice (some ad247) l0_0.length c0_0, .int .i64 a0_1] 26 (0, 0))) ∧ (w'.heap[gb245]? = some (.cells #[.slice none 0 0, .int .i64 0] 26 (0, 0))) ∧ (Below w.heap.size w w')) ?_ ?_
           rotate_left
           ·
            intro hJ2_10
            refine join_ (σ := Value × Nat) 4 #[true, true, true, true, true, true, true, true, true, true, false, false, true, true, false, true, false] (fun s_ => [(32, s_.1), (8, .pointer (some ⟨s_.2, 0, none⟩))]) (fun s_ w' => (w'.cell? ⟨gb244, 0, none⟩ = some (.slice (some ad247) l0_0.length c0_0) ∧ w'.cell? ⟨gb244, 1, none⟩ = some (.int .i64 a0_1) ∧ w'.cell? (ad247.add (a1).toNat) = some (.int .i64 (rd l0_0 a1))) ∧ (Kd.R (Kd.int .i64) 3 w' w.heap.size (fun _ => True) s_.1 t249) ∧ (w'.heap[gb244]? = some (.cells #[.slice (some ad247) l0_0.length c0_0, .int .i64 a0_1] 26 (0, 0))) ∧ (w'.heap[gb245]? = some (.cells #[.slice none 0 0, .int .i64 0] 26 (0, 0))) ∧ (w'.heap[s_.2]? = some (.cells #[.slice none 0 0, .int .i64 0] 26 (0, 0))) ∧ (w.heap.size ≤ s_.2) ∧ (w.heap.size ≤ s_.2) ∧ (gb244 ≠ s_.2) ∧ (s_.2 ≠ gb244) ∧ (gb245 ≠ s_.2) ∧ (s_.2 ≠ gb245) ∧ (Below w.heap.size w w')) ?_ ?_
            rotate_left
            ·
             intro hJ2_15
             refine join_ (σ := Value × Nat) 4 #[true, true, false, true, true, true, true, true, true, true, true, false, true, true, false, true, false] (fun s_ => [(40, s_.1), (8, .pointer (some ⟨s_.2, 0, none⟩))]) (fun s_ w' => (w'.cell? ⟨gb244, 0, none⟩ = some (.slice (some ad247) l0_0.length c0_0) ∧ w'.cell? ⟨gb244, 1, none⟩ = some (.int .i64 a0_1) ∧ w'.cell? (ad247.add (a1).toNat) = some (.int .i64 (rd l0_0 a1))) ∧ (Kd.R (Kd.int .i64) 3 w' w.heap.size (fun _ => True) s_.1 y253) ∧ (w'.heap[gb244]? = some (.cells #[.slice (some ad247) l0_0.length c0_0, .int .i64 a0_1] 26 (0, 0))) ∧ (w'.heap[gb245]? = some (.cells #[.slice none 0 0, .int .i64 0] 26 (0, 0))) ∧ (w'.heap[s_.2]? = some (.cells #[.slice none 0 0, .int .i64 0] 26 (0, 0))) ∧ (w.heap.size ≤ s_.2) ∧ (w.heap.size ≤ s_.2) ∧ (gb244 ≠ s_.2) ∧ (s_.2 ≠ gb244) ∧ (gb245 ≠ s_.2) ∧ (s_.2 ≠ gb245) ∧ (Below w.heap.size w w')) ?_ ?_
             rotate_left
             ·
              intro hJ10_15
              refine join_ (σ := Value) 5 #[true, true, true, true, true, true, true, true, true, true, false, false, true, true, false, false, false] (fun s_ => [(32, s_)]) (fun s_ w' => (w'.cell? ⟨gb244, 0, none⟩ = some (.slice (some ad247) l0_0.length c0_0) ∧ w'.cell? ⟨gb244, 1, none⟩ = some (.int .i64 a0_1) ∧ w'.cell? (ad247.add (a1).toNat) = some (.int .i64 (rd l0_0 a1))) ∧ (Kd.R (Kd.int .i64) 3 w' w.heap.size (fun _ => True) s_ t249) ∧ (w'.heap[gb244]? = some (.cells #[.slice (some ad247) l0_0.length c0_0, .int .i64 a0_1] 26 (0, 0))) ∧ (w'.heap[gb245]? = some (.cells #[.slice none 0 0, .int .i64 0] 26 (0, 0))) ∧ (Below w.heap.size w w')) ?_ ?_
              rotate_left
              ·
               intro hJ2
               refine join_ (σ := Value) 5 #[true, true, false, true, true, true, true, true, true, true, true, false, true, true, false, false, false] (fun s_ => [(40, s_)]) (fun s_ w' => (w'.cell? ⟨gb244, 0, none⟩ = some (.slice (some ad247) l0_0.length c0_0) ∧ w'.cell? ⟨gb244, 1, none⟩ = some (.int .i64 a0_1) ∧ w'.cell? (ad247.add (a1).toNat) = some (.int .i64 (rd l0_0 a1))) ∧ (Kd.R (Kd.int .i64) 3 w' w.heap.size (fun _ => True) s_ y253) ∧ (w'.heap[gb244]? = some (.cells #[.slice (some ad247) l0_0.length c0_0, .int .i64 a0_1] 26 (0, 0))) ∧ (w'.heap[gb245]? = some (.cells #[.slice none 0 0, .int .i64 0] 26 (0, 0))) ∧ (Below w.heap.size w w')) ?_ ?_
               rotate_left
               ·
                intro hJ10
                refine join_ (σ := Nat) 5 #[true, true, false, true, true, true, true, true, true, true, false, false, true, true, false, true, false] (fun s_ => [(8, .pointer (some ⟨s_, 0, none⟩))]) (fun s_ w' => (w'.cell? ⟨gb244, 0, none⟩ = some (.slice (some ad247) l0_0.length c0_0) ∧ w'.cell? ⟨gb244, 1, none⟩ = some (.int .i64 a0_1) ∧ w'.cell? (ad247.add (a1).toNat) = some (.int .i64 (rd l0_0 a1))) ∧ (w'.heap[gb244]? = some (.cells #[.slice (some ad247) l0_0.length c0_0, .int .i64 a0_1] 26 (0, 0))) ∧ (w'.heap[gb245]? = some (.cells #[.slice none 0 0, .int .i64 0] 26 (0, 0))) ∧ (w'.heap[s_]? = some (.cells #[.slice none 0 0, .int .i64 0] 26 (0, 0))) ∧ (w.heap.size ≤ s_) ∧ (w.heap.size ≤ s_) ∧ (gb244 ≠ s_) ∧ (s_ ≠ gb244) ∧ (gb245 ≠ s_) ∧ (s_ ≠ gb245) ∧ (Below w.heap.size w w')) ?_ ?_
                rotate_left
                ·
                 intro hJ15
                 refine three_ (i := 2) (j := 10) (k := 15) (Ni := some 32) (Nj := some 40) (Nk := some 8) #[true, true, true, true, true, true, true, true, true, true, false, false, true, true, false, false, false] #[true, true, false, true, true, true, true, true, true, true, true, false, true, true, false, false, false] #[true, true, false, true, true, true, true, true, true, true, false, false, true, true, false, true, false] rfl rfl rfl rfl rfl rfl (three_of HT_.out (by kernel_rfl)) (by decide) (by decide) (by decide) (fun K hK => ?_) (fun K hK => ?_) (fun K hK => ?_)
                 ·
                  skip
                  refine goes_ Try.func54 (by kernel_rfl) rfl #[.slice (some ad247) l0_0.length c0_0] (by rfl) rfl rfl (by (try simp only [List.map_toArray, List.map_cons, List.map_nil]); first | done | rfl | (simp only [List.length_drop, List.length_take]; rfl)) ?_
                  with_reducible refine (spec_l1Own.calls _ _ l0_0 t249 _ ?side1 ?side2 A18.out).mono ?_
                  (case side1 => repeat (first | exact (Kd.C_below HR0_0.out HB.out) | (with_reducible refine Kd.C_alloc ?_ _) | (with_reducible refine Kd.C_drewN ?_ _) | (with_reducible refine Kd.C_drew ?_)))
                  (case side2 => exact HC0_0.out)
                  rintro e w29 ⟨v250, rfl, ho0, hb⟩
                  refine ⟨_, rfl, ?_⟩
                  have n0_ := aM (Kd.R_lower ho0 (below_size (by repeat (first | (with_reducible first | exact HB.out | apply eA | apply eN | apply eD | refine eS ?_ GE244.out | refine eS ?_ GE245.out) | exact HB.out))))
                  have n1_ := aM (bB (g := gb244) (o := .cells #[.slice (some ad247) l0_0.length c0_0, .int .i64 a0_1] 26 (0, 0)) (by (with_reducible repeat (first | refine bN ?_ _ | refine bD ?_ | refine bA ?_ _)); exact BK244.out) hb)
                  have n2_ := aM (bB (g := gb245) (o := .cells #[.slice none 0 0, .int .i64 0] 26 (0, 0)) (by (with_reducible repeat (first | refine bN ?_ _ | refine bD ?_ | refine bA ?_ _)); exact BK245.out) hb)
                  have n3_ := aM (below_step (by repeat (first | (with_reducible first | exact HB.out | apply eA | apply eN | apply eD | refine eS ?_ GE244.out | refine eS ?_ GE245.out) | exact HB.out)) hb)
                  clear BK244 BK245 HB
                  have HO251 := n0_
                  have BK244 := n1_
                  have BK245 := n2_
                  have HB := n3_
                  clear n0_ n1_ n2_ n3_
                  (try clear hb)
                  (try clear hb2)
                  (try clear hk)
                  (try clear hi)
                  (try clear ho0)
                  refine hK.out _ _ ⟨(bC BK244.out 0).trans rfl, (bC BK244.out 1).trans rfl, ((HB.out.cell (World.block_lt_of_cell? w _ hw252_0)).trans hw252_0)⟩ (fun hHeld => ?_)
                  clear hK K
                  refine norm_ (a' := ?_) ?_ ?_
                  rotate_left
                  ·
                   show Act.put _ (some 32) _ = _
                   simp only [Act.put, sA, sZ, sU, i64_w, i32_w]
                   rfl
                  exact norm_ (by first | (simp only [putAll, Act.put, sA, sZ, sU]; done) | (simp only [putAll, Act.put, sA, sZ, sU]; rfl)) (hJ2 (v250) _ ⟨hHeld, (by (with_reducible repeat (first | apply rA | apply rN | apply rD)); exact HO251.out), (by (with_reducible repeat (first | refine bN ?_ _ | refine bD ?_ | refine bA ?_ _)); exact BK244.out), (by (with_reducible repeat (first | refine bN ?_ _ | refine bD ?_ | refine bA ?_ _)); exact BK245.out), (by repeat (first | (with_reducible first | exact HB.out | apply eA | apply eN | apply eD | refine eS ?_ GE244.out | refine eS ?_ GE245.out) | exact HB.out))⟩)
                 ·
                  skip
                  refine Kd.R_lit_step (Kd.int .i64) _ 3 ?hg (N := 40) ?hd (xs := ([wrap64 ((rd l0_0 a1) - a2)] : List Int)) (inner := [.int .i64 (wrap64 ((rd l0_0 a1) - a2))]) (ok := fun _ => True) (okp := fun _ => True) ?hr ?hp (fun _ hk => hk) trivial (Below.refl _ _) (Nat.le_refl _) (by simp) ?_; (case hd => rfl); (case hg => rfl); (case hr => first | (go_simp; done) | (go_simp; rfl)); (case hp => exact (Reps.one (show Kd.M (Kd.int .i64) _ _ _ (wrap64 ((rd l0_0 a1) - a2)) [.int .i64 (wrap64 ((rd l0_0 a1) - a2))] from rfl) (Reps.none _ _)))
                  intro v254 w29 ho30 hb hg_ hnew_
                  clear hg_ hnew_
                  (first | rw [← Ny253.out] at ho30 | (simp only [Int.reduceToNat] at ho30; rw [← Ny253.out] at ho30))
                  have n0_ := aM (Kd.R_lower ho30 (below_size (by repeat (first | (with_reducible first | exact HB.out | apply eA | apply eN | apply eD | refine eS ?_ GE244.out | refine eS ?_ GE245.out) | exact HB.out))))
                  have n1_ := aM (bB (g := gb244) (o := .cells #[.slice (some ad247) l0_0.length c0_0, .int .i64 a0_1] 26 (0, 0)) (by (with_reducible repeat (first | refine bN ?_ _ | refine bD ?_ | refine bA ?_ _)); exact BK244.out) hb)
                  have n2_ := aM (bB (g := gb245) (o := .cells #[.slice none 0 0, .int .i64 0] 26 (0, 0)) (by (with_reducible repeat (first | refine bN ?_ _ | refine bD ?_ | refine bA ?_ _)); exact BK245.out) hb)
                  have n3_ := aM (below_step (by repeat (first | (with_reducible first | exact HB.out | apply eA | apply eN | apply eD | refine eS ?_ GE244.out | refine eS ?_ GE245.out) | exact HB.out)) hb)
                  clear BK244 BK245 HB
                  have HO255 := n0_
                  have BK244 := n1_
                  have BK245 := n2_
                  have HB := n3_
                  clear n0_ n1_ n2_ n3_ hb ho30
                  refine hK.out _ _ ⟨(bC BK244.out 0).trans rfl, (bC BK244.out 1).trans rfl, ((HB.out.cell (World.block_lt_of_cell? w _ hw252_0)).trans hw252_0)⟩ (fun hHeld => ?_)
                  clear hK K
                  refine norm_ (a' := ?_) ?_ ?_
                  rotate_left
                  ·
                   show Act.put _ (some 40) _ = _
                   simp only [Act.put, sA, sZ, sU, i64_w, i32_w]
                   rfl
                  exact norm_ (by first | (simp only [putAll, Act.put, sA, sZ, sU]; done) | (simp only [putAll, Act.put, sA, sZ, sU]; rfl)) (hJ10 (v254) _ ⟨hHeld, (by (with_reducible repeat (first | apply rA | apply rN | apply rD)); exact HO255.out), (by (with_reducible repeat (first | refine bN ?_ _ | refine bD ?_ | refine bA ?_ _)); exact BK244.out), (by (with_reducible repeat (first | refine bN ?_ _ | refine bD ?_ | refine bA ?_ _)); exact BK245.out), (by repeat (first | (with_reducible first | exact HB.out | apply eA | apply eN | apply eD | refine eS ?_ GE244.out | refine eS ?_ GE245.out) | exact HB.out))⟩)
                 ·
                  skip
                  refine box_step ?hg (N := 8) ?hd (cs := #[.slice none 0 0, .int .i64 0]) (t := 26) ?hr ?_; (case hd => rfl); (case hg => rfl); (case hr => first | (go_simp; done) | (go_simp; rfl))
                  intro gb259 hg w29 hbox hb
                  have n0_ := aM (bB (g := gb244) (o := .cells #[.slice (some ad247) l0_0.length c0_0, .int .i64 a0_1] 26 (0, 0)) (by (with_reducible repeat (first | refine bN ?_ _ | refine bD ?_ | refine bA ?_ _)); exact BK244.out) hb)
                  have n1_ := aM (bB (g := gb245) (o := .cells #[.slice none 0 0, .int .i64 0] 26 (0, 0)) (by (with_reducible repeat (first | refine bN ?_ _ | refine bD ?_ | refine bA ?_ _)); exact BK245.out) hb)
                  have n2_ := aM (below_step (by repeat (first | (with_reducible first | exact HB.out | apply eA | apply eN | apply eD | refine eS ?_ GE244.out | refine eS ?_ GE245.out) | exact HB.out)) hb)
                  have n3_ := aM (hbox)
                  have n4_ := aM ((by rw [hg]; exact (below_size (by repeat (first | (with_reducible first | exact HB.out | apply eA | apply eN | apply eD | refine eS ?_ GE244.out | refine eS ?_ GE245.out) | exact HB.out))) : w.heap.size ≤ gb259))
                  have n5_ := aM ((by rw [hg]; exact (below_size (by repeat (first | (with_reducible first | exact HB.out | apply eA | apply eN | apply eD | refine eS ?_ GE244.out | refine eS ?_ GE245.out) | exact HB.out))) : w.heap.size ≤ gb259))
                  have n6_ := aM ((by rw [hg]; exact Nat.ne_of_lt (blk_lt (g := gb244) (o := .cells #[.slice (some ad247) l0_0.length c0_0, .int .i64 a0_1] 26 (0, 0)) (by (with_reducible repeat (first | refine bN ?_ _ | refine bD ?_ | refine bA ?_ _)); exact BK244.out)) : gb244 ≠ gb259))
                  have n7_ := aM ((by rw [hg]; exact Nat.ne_of_gt (blk_lt (g := gb244) (o := .cells #[.slice (some ad247) l0_0.length c0_0, .int .i64 a0_1] 26 (0, 0)) (by (with_reducible repeat (first | refine bN ?_ _ | refine bD ?_ | refine bA ?_ _)); exact BK244.out)) : gb259 ≠ gb244))
                  have n8_ := aM ((by rw [hg]; exact Nat.ne_of_lt (blk_lt (g := gb245) (o := .cells #[.slice none 0 0, .int .i64 0] 26 (0, 0)) (by (with_reducible repeat (first | refine bN ?_ _ | refine bD ?_ | refine bA ?_ _)); exact BK245.out)) : gb245 ≠ gb259))
                  have n9_ := aM ((by rw [hg]; exact Nat.ne_of_gt (blk_lt (g := gb245) (o := .cells #[.slice none 0 0, .int .i64 0] 26 (0, 0)) (by (with_reducible repeat (first | refine bN ?_ _ | refine bD ?_ | refine bA ?_ _)); exact BK245.out)) : gb259 ≠ gb245))
                  clear BK244 BK245 HB
                  have BK244 := n0_
                  have BK245 := n1_
                  have HB := n2_
                  have BK259 := n3_
                  have GW259 := n4_
                  have GE259 := n5_
                  have NB244_259 := n6_
                  have NB259_244 := n7_
                  have NB245_259 := n8_
                  have NB259_245 := n9_
                  clear n0_ n1_ n2_ n3_ n4_ n5_ n6_ n7_ n8_ n9_ hb hbox hg
                  refine hK.out _ _ ⟨(bC BK244.out 0).trans rfl, (bC BK244.out 1).trans rfl, ((HB.out.cell (World.block_lt_of_cell? w _ hw252_0)).trans hw252_0)⟩ (fun hHeld => ?_)
                  clear hK K
                  refine norm_ (a' := ?_) ?_ ?_
                  rotate_left
                  ·
                   show Act.put _ (some 8) _ = _
                   simp only [Act.put, sA, sZ, sU, i64_w, i32_w]
                   rfl
                  exact norm_ (by first | (simp only [putAll, Act.put, sA, sZ, sU]; done) | (simp only [putAll, Act.put, sA, sZ, sU]; rfl)) (hJ15 (gb259) _ ⟨hHeld, (by (with_reducible repeat (first | refine bN ?_ _ | refine bD ?_ | refine bA ?_ _)); exact BK244.out), (by (with_reducible repeat (first | refine bN ?_ _ | refine bD ?_ | refine bA ?_ _)); exact BK245.out), (by (with_reducible repeat (first | refine bN ?_ _ | refine bD ?_ | refine bA ?_ _)); exact BK259.out), GW259.out, GE259.out, NB244_259.out, NB259_244.out, NB245_259.out, NB259_245.out, (by repeat (first | (with_reducible first | exact HB.out | apply eA | apply eN | apply eD | refine eS ?_ GE244.out | refine eS ?_ GE245.out | refine eS ?_ GE259.out) | exact HB.out))⟩)
                ·
                 skip
                 rintro gb259 w30 ⟨hS_, h0_, h1_, h2_, h3_, h4_, h5_, h6_, h7_, h8_, h9_⟩
                 have n0_ : Aside0 (w30.heap[gb244]? = some (.cells #[.slice (some ad247) l0_0.length c0_0, .int .i64 a0_1] 26 (0, 0))) := ⟨h0_⟩
                 have n1_ : Aside0 (w30.heap[gb245]? = some (.cells #[.slice none 0 0, .int .i64 0] 26 (0, 0))) := ⟨h1_⟩
                 have n2_ : Aside0 (w30.heap[gb259]? = some (.cells #[.slice none 0 0, .int .i64 0] 26 (0, 0))) := ⟨h2_⟩
                 have n3_ : Aside0 (w.heap.size ≤ gb259) := ⟨h3_⟩
                 have n4_ : Aside0 (w.heap.size ≤ gb259) := ⟨h4_⟩
                 have n5_ : Aside0 (gb244 ≠ gb259) := ⟨h5_⟩
                 have n6_ : Aside0 (gb259 ≠ gb244) := ⟨h6_⟩
                 have n7_ : Aside0 (gb245 ≠ gb259) := ⟨h7_⟩
                 have n8_ : Aside0 (gb259 ≠ gb245) := ⟨h8_⟩
                 have n9_ : Aside0 (Below w.heap.size w w30) := ⟨h9_⟩
                 clear BK244 BK245 HB h0_ h1_ h2_ h3_ h4_ h5_ h6_ h7_ h8_ h9_
                 have BK244 := n0_
                 have BK245 := n1_
                 have BK259 := n2_
                 have GW259 := n3_
                 have GE259 := n4_
                 have NB244_259 := n5_
                 have NB259_244 := n6_
                 have NB245_259 := n7_
                 have NB259_245 := n8_
                 have HB := n9_
                 clear n0_ n1_ n2_ n3_ n4_ n5_ n6_ n7_ n8_ n9_
                 have hHeld : w30.cell? ⟨gb244, 0, none⟩ = some (.slice (some ad247) l0_0.length c0_0) ∧ w30.cell? ⟨gb244, 1, none⟩ = some (.int .i64 a0_1) ∧ w30.cell? (ad247.add (a1).toNat) = some (.int .i64 (rd l0_0 a1)) := hS_
                 refine norm_ (a' := ?_) ?_ ?_
                 rotate_left
                 ·
                  simp only [putAll, Act.put, sA, sZ, sU]
                  rfl
                 refine two_ (i := 2) (j := 10) (Ni := some 32) (Nj := some 40) #[true, true, true, true, true, true, true, true, true, true, false, false, true, true, false, true, false] #[true, true, false, true, true, true, true, true, true, true, true, false, true, true, false, true, false] rfl rfl rfl rfl (two_of HT_.out (by kernel_rfl)) (by decide) (by decide) (fun K hK => ?_) (fun K hK => ?_)
                 ·
                  skip
                  refine goes_ Try.func54 (by kernel_rfl) rfl #[.slice (some ad247) l0_0.length c0_0] (by rfl) rfl rfl (by (try simp only [List.map_toArray, List.map_cons, List.map_nil]); first | done | rfl | (simp only [List.length_drop, List.length_take]; rfl)) ?_
                  with_reducible refine (spec_l1Own.calls _ _ l0_0 t249 _ ?side1 ?side2 A18.out).mono ?_
                  (case side1 => repeat (first | exact (Kd.C_below HR0_0.out HB.out) | (with_reducible refine Kd.C_alloc ?_ _) | (with_reducible refine Kd.C_drewN ?_ _) | (with_reducible refine Kd.C_drew ?_)))
                  (case side2 => exact HC0_0.out)
                  rintro e w31 ⟨v250, rfl, ho0, hb⟩
                  refine ⟨_, rfl, ?_⟩
                  have n0_ := aM (Kd.R_lower ho0 (below_size (by repeat (first | (with_reducible first | exact HB.out | apply eA | apply eN | apply eD | refine eS ?_ GE244.out | refine eS ?_ GE245.out | refine eS ?_ GE259.out) | exact HB.out))))
                  have n1_ := aM (bB (g := gb244) (o := .cells #[.slice (some ad247) l0_0.length c0_0, .int .i64 a0_1] 26 (0, 0)) (by (with_reducible repeat (first | refine bN ?_ _ | refine bD ?_ | refine bA ?_ _)); exact BK244.out) hb)
                  have n2_ := aM (bB (g := gb245) (o := .cells #[.slice none 0 0, .int .i64 0] 26 (0, 0)) (by (with_reducible repeat (first | refine bN ?_ _ | refine bD ?_ | refine bA ?_ _)); exact BK245.out) hb)
                  have n3_ := aM (bB (g := gb259) (o := .cells #[.slice none 0 0, .int .i64 0] 26 (0, 0)) (by (with_reducible repeat (first | refine bN ?_ _ | refine bD ?_ | refine bA ?_ _)); exact BK259.out) hb)
                  have n4_ := aM (below_step (by repeat (first | (with_reducible first | exact HB.out | apply eA | apply eN | apply eD | refine eS ?_ GE244.out | refine eS ?_ GE245.out | refine eS ?_ GE259.out) | exact HB.out)) hb)
                  clear BK244 BK245 BK259 HB
                  have HO251 := n0_
                  have BK244 := n1_
                  have BK245 := n2_
                  have BK259 := n3_
                  have HB := n4_
                  clear n0_ n1_ n2_ n3_ n4_
                  (try clear hb)
                  (try clear hb2)
                  (try clear hk)
                  (try clear hi)
                  (try clear ho0)
                  refine hK.out _ _ ⟨(bC BK244.out 0).trans rfl, (bC BK244.out 1).trans rfl, ((HB.out.cell (World.block_lt_of_cell? w _ hw252_0)).trans hw252_0)⟩ (fun hHeld => ?_)
                  clear hK K
                  refine norm_ (a' := ?_) ?_ ?_
                  rotate_left
                  ·
                   show Act.put _ (some 32) _ = _
                   simp only [Act.put, sA, sZ, sU, i64_w, i32_w]
                   rfl
                  exact norm_ (by first | (simp only [putAll, Act.put, sA, sZ, sU]; done) | (simp only [putAll, Act.put, sA, sZ, sU]; rfl)) (hJ2_15 (v250, gb259) _ ⟨hHeld, (by (with_reducible repeat (first | apply rA | apply rN | apply rD)); exact HO251.out), (by (with_reducible repeat (first | refine bN ?_ _ | refine bD ?_ | refine bA ?_ _)); exact BK244.out), (by (with_reducible repeat (first | refine bN ?_ _ | refine bD ?_ | refine bA ?_ _)); exact BK245.out), (by (with_reducible repeat (first | refine bN ?_ _ | refine bD ?_ | refine bA ?_ _)); exact BK259.out), GW259.out, GE259.out, NB244_259.out, NB259_244.out, NB245_259.out, NB259_245.out, (by repeat (first | (with_reducible first | exact HB.out | apply eA | apply eN | apply eD | refine eS ?_ GE244.out | refine eS ?_ GE245.out | refine eS ?_ GE259.out) | exact HB.out))⟩)
                 ·
                  skip
                  refine Kd.R_lit_step (Kd.int .i64) _ 3 ?hg (N := 40) ?hd (xs := ([wrap64 ((rd l0_0 a1) - a2)] : List Int)) (inner := [.int .i64 (wrap64 ((rd l0_0 a1) - a2))]) (ok := fun _ => True) (okp := fun _ => True) ?hr ?hp (fun _ hk => hk) trivial (Below.refl _ _) (Nat.le_refl _) (by simp) ?_; (case hd => rfl); (case hg => rfl); (case hr => first | (go_simp; done) | (go_simp; rfl)); (case hp => exact (Reps.one (show Kd.M (Kd.int .i64) _ _ _ (wrap64 ((rd l0_0 a1) - a2)) [.int .i64 (wrap64 ((rd l0_0 a1) - a2))] from rfl) (Reps.none _ _)))
                  intro v254 w31 ho32 hb hg_ hnew_
                  clear hg_ hnew_
                  (first | rw [← Ny253.out] at ho32 | (simp only [Int.reduceToNat] at ho32; rw [← Ny253.out] at ho32))
                  have n0_ := aM (Kd.R_lower ho32 (below_size (by repeat (first | (with_reducible first | exact HB.out | apply eA | apply eN | apply eD | refine eS ?_ GE244.out | refine eS ?_ GE245.out | refine eS ?_ GE259.out) | exact HB.out))))
                  have n1_ := aM (bB (g := gb244) (o := .cells #[.slice (some ad247) l0_0.length c0_0, .int .i64 a0_1] 26 (0, 0)) (by (with_reducible repeat (first | refine bN ?_ _ | refine bD ?_ | refine bA ?_ _)); exact BK244.out) hb)
                  have n2_ := aM (bB (g := gb245) (o := .cells #[.slice none 0 0, .int .i64 0] 26 (0, 0)) (by (with_reducible repeat (first | refine bN ?_ _ | refine bD ?_ | refine bA ?_ _)); exact BK245.out) hb)
                  have n3_ := aM (bB (g := gb259) (o := .cells #[.slice none 0 0, .int .i64 0] 26 (0, 0)) (by (with_reducible repeat (first | refine bN ?_ _ | refine bD ?_ | refine bA ?_ _)); exact BK259.out) hb)
                  have n4_ := aM (below_step (by repeat (first | (with_reducible first | exact HB.out | apply eA | apply eN | apply eD | refine eS ?_ GE244.out | refine eS ?_ GE245.out | refine eS ?_ GE259.out) | exact HB.out)) hb)
                  clear BK244 BK245 BK259 HB
                  have HO255 := n0_
                  have BK244 := n1_
                  have BK245 := n2_
                  have BK259 := n3_
                  have HB := n4_
                  clear n0_ n1_ n2_ n3_ n4_ hb ho32
                  refine hK.out _ _ ⟨(bC BK244.out 0).trans rfl, (bC BK244.out 1).trans rfl, ((HB.out.cell (World.block_lt_of_cell? w _ hw252_0)).trans hw252_0)⟩ (fun hHeld => ?_)
                  clear hK K
                  refine norm_ (a' := ?_) ?_ ?_
                  rotate_left
                  ·
                   show Act.put _ (some 40) _ = _
                   simp only [Act.put, sA, sZ, sU, i64_w, i32_w]
                   rfl
                  exact norm_ (by first | (simp only [putAll, Act.put, sA, sZ, sU]; done) | (simp only [putAll, Act.put, sA, sZ, sU]; rfl)) (hJ10_15 (v254, gb259) _ ⟨hHeld, (by (with_reducible repeat (first | apply rA | apply rN | apply rD)); exact HO255.out), (by (with_reducible repeat (first | refine bN ?_ _ | refine bD ?_ | refine bA ?_ _)); exact BK244.out), (by (with_reducible repeat (first | refine bN ?_ _ | refine bD ?_ | refine bA ?_ _)); exact BK245.out), (by (with_reducible repeat (first | refine bN ?_ _ | refine bD ?_ | refine bA ?_ _)); exact BK259.out), GW259.out, GE259.out, NB244_259.out, NB259_244.out, NB245_259.out, NB259_245.out, (by repeat (first | (with_reducible first | exact HB.out | apply eA | apply eN | apply eD | refine eS ?_ GE244.out | refine eS ?_ GE245.out | refine eS ?_ GE259.out) | exact HB.out))⟩)
               ·
                skip
                rintro v254 w31 ⟨hS_, h0_, h1_, h2_, h3_⟩
                have n0_ : Aside0 (Kd.R (Kd.int .i64) 3 w31 w.heap.size (fun _ => True) v254 y253) := ⟨h0_⟩
                have n1_ : Aside0 (w31.heap[gb244]? = some (.cells #[.slice (some ad247) l0_0.length c0_0, .int .i64 a0_1] 26 (0, 0))) := ⟨h1_⟩
                have n2_ : Aside0 (w31.heap[gb245]? = some (.cells #[.slice none 0 0, .int .i64 0] 26 (0, 0))) := ⟨h2_⟩
                have n3_ : Aside0 (Below w.heap.size w w31) := ⟨h3_⟩
                clear BK244 BK245 HB h0_ h1_ h2_ h3_
                have HO255 := n0_
                have BK244 := n1_
                have BK245 := n2_
                have HB := n3_
                clear n0_ n1_ n2_ n3_
                have hHeld : w31.cell? ⟨gb244, 0, none⟩ = some (.slice (some ad247) l0_0.length c0_0) ∧ w31.cell? ⟨gb244, 1, none⟩ = some (.int .i64 a0_1) ∧ w31.cell? (ad247.add (a1).toNat) = some (.int .i64 (rd l0_0 a1)) := hS_
                refine norm_ (a' := ?_) ?_ ?_
                rotate_left
                ·
                 simp only [putAll, Act.put, sA, sZ, sU]
                 rfl
                refine two_ (i := 2) (j := 15) (Ni := some 32) (Nj := some 8) #[true, true, true, true, true, true, true, true, true, true, true, false, true, true, false, false, false] #[true, true, false, true, true, true, true, true, true, true, true, false, true, true, false, true, false] rfl rfl rfl rfl (two_of HT_.out (by kernel_rfl)) (by decide) (by decide) (fun K hK => ?_) (fun K hK => ?_)
                ·
                 skip
                 refine goes_ Try.func54 (by kernel_rfl) rfl #[.slice (some ad247) l0_0.length c0_0] (by rfl) rfl rfl (by (try simp only [List.map_toArray, List.map_cons, List.map_nil]); first | done | rfl | (simp only [List.length_drop, List.length_take]; rfl)) ?_
                 with_reducible refine (spec_l1Own.calls _ _ l0_0 t249 _ ?side1 ?side2 A18.out).mono ?_
                 (case side1 => repeat (first | exact (Kd.C_below HR0_0.out HB.out) | (with_reducible refine Kd.C_alloc ?_ _) | (with_reducible refine Kd.C_drewN ?_ _) | (with_reducible refine Kd.C_drew ?_)))
                 (case side2 => exact HC0_0.out)
                 rintro e w32 ⟨v250, rfl, ho0, hb⟩
                 refine ⟨_, rfl, ?_⟩
                 have n0_ := aM (Kd.R_elder' (by (with_reducible repeat (first | apply rA | apply rN | apply rD)); exact HO255.out) (Kd.R_base ho0) hb)
                 have n1_ := aM (Kd.R_lower (Kd.R_new' ho0 (Kd.R_lt (by (with_reducible repeat (first | apply rA | apply rN | apply rD)); exact HO255.out))) (below_size (by repeat (first | (with_reducible first | exact HB.out | apply eA | apply eN | apply eD | refine eS ?_ GE244.out | refine eS ?_ GE245.out) | exact HB.out))))
                 have n2_ := aM (bB (g := gb244) (o := .cells #[.slice (some ad247) l0_0.length c0_0, .int .i64 a0_1] 26 (0, 0)) (by (with_reducible repeat (first | refine bN ?_ _ | refine bD ?_ | refine bA ?_ _)); exact BK244.out) hb)
                 have n3_ := aM (bB (g := gb245) (o := .cells #[.slice none 0 0, .int .i64 0] 26 (0, 0)) (by (with_reducible repeat (first | refine bN ?_ _ | refine bD ?_ | refine bA ?_ _)); exact BK245.out) hb)
                 have n4_ := aM (below_step (by repeat (first | (with_reducible first | exact HB.out | apply eA | apply eN | apply eD | refine eS ?_ GE244.out | refine eS ?_ GE245.out) | exact HB.out)) hb)
                 clear HO255 BK244 BK245 HB
                 have HO255 := n0_
                 have HO251 := n1_
                 have BK244 := n2_
                 have BK245 := n3_
                 have HB := n4_
                 clear n0_ n1_ n2_ n3_ n4_
                 (try clear hb)
                 (try clear hb2)
                 (try clear hk)
                 (try clear hi)
                 (try clear ho0)
                 refine hK.out _ _ ⟨(bC BK244.out 0).trans rfl, (bC BK244.out 1).trans rfl, ((HB.out.cell (World.block_lt_of_cell? w _ hw252_0)).trans hw252_0)⟩ (fun hHeld => ?_)
                 clear hK K
                 refine norm_ (a' := ?_) ?_ ?_
                 rotate_left
                 ·
                  show Act.put _ (some 32) _ = _
                  simp only [Act.put, sA, sZ, sU, i64_w, i32_w]
                  rfl
                 exact norm_ (by first | (simp only [putAll, Act.put, sA, sZ, sU]; done) | (simp only [putAll, Act.put, sA, sZ, sU]; rfl)) (hJ2_10 (v250, v254) _ ⟨hHeld, (by (with_reducible repeat (first | apply rA | apply rN | apply rD)); exact rM HO251.out (fun _ hk => by first | exact hk.2 | exact trivial)), (by (with_reducible repeat (first | apply rA | apply rN | apply rD)); exact rM HO255.out (fun _ hk => by first | exact hk.2 | exact trivial)), (by (with_reducible repeat (first | refine bN ?_ _ | refine bD ?_ | refine bA ?_ _)); exact BK244.out), (by (with_reducible repeat (first | refine bN ?_ _ | refine bD ?_ | refine bA ?_ _)); exact BK245.out), (by repeat (first | (with_reducible first | exact HB.out | apply eA | apply eN | apply eD | refine eS ?_ GE244.out | refine eS ?_ GE245.out) | exact HB.out))⟩)
                ·
                 skip
                 refine box_step ?hg (N := 8) ?hd (cs := #[.slice none 0 0, .int .i64 0]) (t := 26) ?hr ?_; (case hd => rfl); (case hg => rfl); (case hr => first | (go_simp; done) | (go_simp; rfl))
                 intro gb259 hg w32 hbox hb
                 have n0_ := aM (Kd.R_below (by (with_reducible repeat (first | apply rA | apply rN | apply rD)); exact HO255.out) hb)
                 have n1_ := aM (bB (g := gb244) (o := .cells #[.slice (some ad247) l0_0.length c0_0, .int .i64 a0_1] 26 (0, 0)) (by (with_reducible repeat (first | refine bN ?_ _ | refine bD ?_ | refine bA ?_ _)); exact BK244.out) hb)
                 have n2_ := aM (bB (g := gb245) (o := .cells #[.slice none 0 0, .int .i64 0] 26 (0, 0)) (by (with_reducible repeat (first | refine bN ?_ _ | refine bD ?_ | refine bA ?_ _)); exact BK245.out) hb)
                 have n3_ := aM (below_step (by repeat (first | (with_reducible first | exact HB.out | apply eA | apply eN | apply eD | refine eS ?_ GE244.out | refine eS ?_ GE245.out) | exact HB.out)) hb)
                 have n4_ := aM (hbox)
                 have n5_ := aM ((by rw [hg]; exact (below_size (by repeat (first | (with_reducible first | exact HB.out | apply eA | apply eN | apply eD | refine eS ?_ GE244.out | refine eS ?_ GE245.out) | exact HB.out))) : w.heap.size ≤ gb259))
                 have n6_ := aM ((by rw [hg]; exact (below_size (by repeat (first | (with_reducible first | exact HB.out | apply eA | apply eN | apply eD | refine eS ?_ GE244.out | refine eS ?_ GE245.out) | exact HB.out))) : w.heap.size ≤ gb259))
                 have n7_ := aM ((by rw [hg]; exact Nat.ne_of_lt (blk_lt (g := gb244) (o := .cells #[.slice (some ad247) l0_0.length c0_0, .int .i64 a0_1] 26 (0, 0)) (by (with_reducible repeat (first | refine bN ?_ _ | refine bD ?_ | refine bA ?_ _)); exact BK244.out)) : gb244 ≠ gb259))
                 have n8_ := aM ((by rw [hg]; exact Nat.ne_of_gt (blk_lt (g := gb244) (o := .cells #[.slice (some ad247) l0_0.length c0_0, .int .i64 a0_1] 26 (0, 0)) (by (with_reducible repeat (first | refine bN ?_ _ | refine bD ?_ | refine bA ?_ _)); exact BK244.out)) : gb259 ≠ gb244))
                 have n9_ := aM ((by rw [hg]; exact Nat.ne_of_lt (blk_lt (g := gb245) (o := .cells #[.slice none 0 0, .int .i64 0] 26 (0, 0)) (by (with_reducible repeat (first | refine bN ?_ _ | refine bD ?_ | refine bA ?_ _)); exact BK245.out)) : gb245 ≠ gb259))
                 have n10_ := aM ((by rw [hg]; exact Nat.ne_of_gt (blk_lt (g := gb245) (o := .cells #[.slice none 0 0, .int .i64 0] 26 (0, 0)) (by (with_reducible repeat (first | refine bN ?_ _ | refine bD ?_ | refine bA ?_ _)); exact BK245.out)) : gb259 ≠ gb245))
                 clear HO255 BK244 BK245 HB
                 have HO255 := n0_
                 have BK244 := n1_
                 have BK245 := n2_
                 have HB := n3_
                 have BK259 := n4_
                 have GW259 := n5_
                 have GE259 := n6_
                 have NB244_259 := n7_
                 have NB259_244 := n8_
                 have NB245_259 := n9_
                 have NB259_245 := n10_
                 clear n0_ n1_ n2_ n3_ n4_ n5_ n6_ n7_ n8_ n9_ n10_ hb hbox hg
                 refine hK.out _ _ ⟨(bC BK244.out 0).trans rfl, (bC BK244.out 1).trans rfl, ((HB.out.cell (World.block_lt_of_cell? w _ hw252_0)).trans hw252_0)⟩ (fun hHeld => ?_)
                 clear hK K
                 refine norm_ (a' := ?_) ?_ ?_
                 rotate_left
                 ·
                  show Act.put _ (some 8) _ = _
                  simp only [Act.put, sA, sZ, sU, i64_w, i32_w]
                  rfl
                 exact norm_ (by first | (simp only [putAll, Act.put, sA, sZ, sU]; done) | (simp only [putAll, Act.put, sA, sZ, sU]; rfl)) (hJ10_15 (v254, gb259) _ ⟨hHeld, (by (with_reducible repeat (first | apply rA | apply rN | apply rD)); exact HO255.out), (by (with_reducible repeat (first | refine bN ?_ _ | refine bD ?_ | refine bA ?_ _)); exact BK244.out), (by (with_reducible repeat (first | refine bN ?_ _ | refine bD ?_ | refine bA ?_ _)); exact BK245.out), (by (with_reducible repeat (first | refine bN ?_ _ | refine bD ?_ | refine bA ?_ _)); exact BK259.out), GW259.out, GE259.out, NB244_259.out, NB259_244.out, NB245_259.out, NB259_245.out, (by repeat (first | (with_reducible first | exact HB.out | apply eA | apply eN | apply eD | refine eS ?_ GE244.out | refine eS ?_ GE245.out | refine eS ?_ GE259.out) | exact HB.out))⟩)
              ·
               skip
               rintro v250 w30 ⟨hS_, h0_, h1_, h2_, h3_⟩
               have n0_ : Aside0 (Kd.R (Kd.int .i64) 3 w30 w.heap.size (fun _ => True) v250 t249) := ⟨h0_⟩
               have n1_ : Aside0 (w30.heap[gb244]? = some (.cells #[.slice (some ad247) l0_0.length c0_0, .int .i64 a0_1] 26 (0, 0))) := ⟨h1_⟩
               have n2_ : Aside0 (w30.heap[gb245]? = some (.cells #[.slice none 0 0, .int .i64 0] 26 (0, 0))) := ⟨h2_⟩
               have n3_ : Aside0 (Below w.heap.size w w30) := ⟨h3_⟩
               clear BK244 BK245 HB h0_ h1_ h2_ h3_
               have HO251 := n0_
               have BK244 := n1_
               have BK245 := n2_
               have HB := n3_
               clear n0_ n1_ n2_ n3_
               have hHeld : w30.cell? ⟨gb244, 0, none⟩ = some (.slice (some ad247) l0_0.length c0_0) ∧ w30.cell? ⟨gb244, 1, none⟩ = some (.int .i64 a0_1) ∧ w30.cell? (ad247.add (a1).toNat) = some (.int .i64 (rd l0_0 a1)) := hS_
               refine norm_ (a' := ?_) ?_ ?_
               rotate_left
               ·
                simp only [putAll, Act.put, sA, sZ, sU]
                rfl
               refine two_ (i := 10) (j := 15) (Ni := some 40) (Nj := some 8) #[true, true, true, true, true, true, true, true, true, true, true, false, true, true, false, false, false] #[true, true, true, true, true, true, true, true, true, true, false, false, true, true, false, true, false] rfl rfl rfl rfl (two_of HT_.out (by kernel_rfl)) (by decide) (by decide) (fun K hK => ?_) (fun K hK => ?_)
               ·
                skip
                refine Kd.R_lit_step (Kd.int .i64) _ 3 ?hg (N := 40) ?hd (xs := ([wrap64 ((rd l0_0 a1) - a2)] : List Int)) (inner := [.int .i64 (wrap64 ((rd l0_0 a1) - a2))]) (ok := fun _ => True) (okp := fun _ => True) ?hr ?hp (fun _ hk => hk) trivial (Below.refl _ _) (Nat.le_refl _) (by simp) ?_; (case hd => rfl); (case hg => rfl); (case hr => first | (go_simp; done) | (go_simp; rfl)); (case hp => exact (Reps.one (show Kd.M (Kd.int .i64) _ _ _ (wrap64 ((rd l0_0 a1) - a2)) [.int .i64 (wrap64 ((rd l0_0 a1) - a2))] from rfl) (Reps.none _ _)))
                intro v254 w31 ho32 hb hg_ hnew_
                clear hg_ hnew_
                (first | rw [← Ny253.out] at ho32 | (simp only [Int.reduceToNat] at ho32; rw [← Ny253.out] at ho32))
                have n0_ := aM (Kd.R_elder' (by (with_reducible repeat (first | apply rA | apply rN | apply rD)); exact HO251.out) (Kd.R_base ho32) hb)
                have n1_ := aM (Kd.R_lower (Kd.R_new' ho32 (Kd.R_lt (by (with_reducible repeat (first | apply rA | apply rN | apply rD)); exact HO251.out))) (below_size (by repeat (first | (with_reducible first | exact HB.out | apply eA | apply eN | apply eD | refine eS ?_ GE244.out | refine eS ?_ GE245.out) | exact HB.out))))
                have n2_ := aM (bB (g := gb244) (o := .cells #[.slice (some ad247) l0_0.length c0_0, .int .i64 a0_1] 26 (0, 0)) (by (with_reducible repeat (first | refine bN ?_ _ | refine bD ?_ | refine bA ?_ _)); exact BK244.out) hb)
                have n3_ := aM (bB (g := gb245) (o := .cells #[.slice none 0 0, .int .i64 0] 26 (0, 0)) (by (with_reducible repeat (first | refine bN ?_ _ | refine bD ?_ | refine bA ?_ _)); exact BK245.out) hb)
                have n4_ := aM (below_step (by repeat (first | (with_reducible first | exact HB.out | apply eA | apply eN | apply eD | refine eS ?_ GE244.out | refine eS ?_ GE245.out) | exact HB.out)) hb)
                clear HO251 BK244 BK245 HB
                have HO251 := n0_
                have HO255 := n1_
                have BK244 := n2_
                have BK245 := n3_
                have HB := n4_
                clear n0_ n1_ n2_ n3_ n4_ hb ho32
                refine hK.out _ _ ⟨(bC BK244.out 0).trans rfl, (bC BK244.out 1).trans rfl, ((HB.out.cell (World.block_lt_of_cell? w _ hw252_0)).trans hw252_0)⟩ (fun hHeld => ?_)
                clear hK K
                refine norm_ (a' := ?_) ?_ ?_
                rotate_left
                ·
                 show Act.put _ (some 40) _ = _
                 simp only [Act.put, sA, sZ, sU, i64_w, i32_w]
                 rfl
                exact norm_ (by first | (simp only [putAll, Act.put, sA, sZ, sU]; done) | (simp only [putAll, Act.put, sA, sZ, sU]; rfl)) (hJ2_10 (v250, v254) _ ⟨hHeld, (by (with_reducible repeat (first | apply rA | apply rN | apply rD)); exact rM HO251.out (fun _ hk => by first | exact hk.2 | exact trivial)), (by (with_reducible repeat (first | apply rA | apply rN | apply rD)); exact rM HO255.out (fun _ hk => by first | exact hk.2 | exact trivial)), (by (with_reducible repeat (first | refine bN ?_ _ | refine bD ?_ | refine bA ?_ _)); exact BK244.out), (by (with_reducible repeat (first | refine bN ?_ _ | refine bD ?_ | refine bA ?_ _)); exact BK245.out), (by repeat (first | (with_reducible first | exact HB.out | apply eA | apply eN | apply eD | refine eS ?_ GE244.out | refine eS ?_ GE245.out) | exact HB.out))⟩)
               ·
                skip
                refine box_step ?hg (N := 8) ?hd (cs := #[.slice none 0 0, .int .i64 0]) (t := 26) ?hr ?_; (case hd => rfl); (case hg => rfl); (case hr => first | (go_simp; done) | (go_simp; rfl))
                intro gb259 hg w31 hbox hb
                have n0_ := aM (Kd.R_below (by (with_reducible repeat (first | apply rA | apply rN | apply rD)); exact HO251.out) hb)
                have n1_ := aM (bB (g := gb244) (o := .cells #[.slice (some ad247) l0_0.length c0_0, .int .i64 a0_1] 26 (0, 0)) (by (with_reducible repeat (first | refine bN ?_ _ | refine bD ?_ | refine bA ?_ _)); exact BK244.out) hb)
                have n2_ := aM (bB (g := gb245) (o := .cells #[.slice none 0 0, .int .i64 0] 26 (0, 0)) (by (with_reducible repeat (first | refine bN ?_ _ | refine bD ?_ | refine bA ?_ _)); exact BK245.out) hb)
                have n3_ := aM (below_step (by repeat (first | (with_reducible first | exact HB.out | apply eA | apply eN | apply eD | refine eS ?_ GE244.out | refine eS ?_ GE245.out) | exact HB.out)) hb)
                have n4_ := aM (hbox)
                have n5_ := aM ((by rw [hg]; exact (below_size (by repeat (first | (with_reducible first | exact HB.out | apply eA | apply eN | apply eD | refine eS ?_ GE244.out | refine eS ?_ GE245.out) | exact HB.out))) : w.heap.size ≤ gb259))
                have n6_ := aM ((by rw [hg]; exact (below_size (by repeat (first | (with_reducible first | exact HB.out | apply eA | apply eN | apply eD | refine eS ?_ GE244.out | refine eS ?_ GE245.out) | exact HB.out))) : w.heap.size ≤ gb259))
                have n7_ := aM ((by rw [hg]; exact Nat.ne_of_lt (blk_lt (g := gb244) (o := .cells #[.slice (some ad247) l0_0.length c0_0, .int .i64 a0_1] 26 (0, 0)) (by (with_reducible repeat (first | refine bN ?_ _ | refine bD ?_ | refine bA ?_ _)); exact BK244.out)) : gb244 ≠ gb259))
                have n8_ := aM ((by rw [hg]; exact Nat.ne_of_gt (blk_lt (g := gb244) (o := .cells #[.slice (some ad247) l0_0.length c0_0, .int .i64 a0_1] 26 (0, 0)) (by (with_reducible repeat (first | refine bN ?_ _ | refine bD ?_ | refine bA ?_ _)); exact BK244.out)) : gb259 ≠ gb244))
                have n9_ := aM ((by rw [hg]; exact Nat.ne_of_lt (blk_lt (g := gb245) (o := .cells #[.slice none 0 0, .int .i64 0] 26 (0, 0)) (by (with_reducible repeat (first | refine bN ?_ _ | refine bD ?_ | refine bA ?_ _)); exact BK245.out)) : gb245 ≠ gb259))
                have n10_ := aM ((by rw [hg]; exact Nat.ne_of_gt (blk_lt (g := gb245) (o := .cells #[.slice none 0 0, .int .i64 0] 26 (0, 0)) (by (with_reducible repeat (first | refine bN ?_ _ | refine bD ?_ | refine bA ?_ _)); exact BK245.out)) : gb259 ≠ gb245))
                clear HO251 BK244 BK245 HB
                have HO251 := n0_
                have BK244 := n1_
                have BK245 := n2_
                have HB := n3_
                have BK259 := n4_
                have GW259 := n5_
                have GE259 := n6_
                have NB244_259 := n7_
                have NB259_244 := n8_
                have NB245_259 := n9_
                have NB259_245 := n10_
                clear n0_ n1_ n2_ n3_ n4_ n5_ n6_ n7_ n8_ n9_ n10_ hb hbox hg
                refine hK.out _ _ ⟨(bC BK244.out 0).trans rfl, (bC BK244.out 1).trans rfl, ((HB.out.cell (World.block_lt_of_cell? w _ hw252_0)).trans hw252_0)⟩ (fun hHeld => ?_)
                clear hK K
                refine norm_ (a' := ?_) ?_ ?_
                rotate_left
                ·
                 show Act.put _ (some 8) _ = _
                 simp only [Act.put, sA, sZ, sU, i64_w, i32_w]
                 rfl
                exact norm_ (by first | (simp only [putAll, Act.put, sA, sZ, sU]; done) | (simp only [putAll, Act.put, sA, sZ, sU]; rfl)) (hJ2_15 (v250, gb259) _ ⟨hHeld, (by (with_reducible repeat (first | apply rA | apply rN | apply rD)); exact HO251.out), (by (with_reducible repeat (first | refine bN ?_ _ | refine bD ?_ | refine bA ?_ _)); exact BK244.out), (by (with_reducible repeat (first | refine bN ?_ _ | refine bD ?_ | refine bA ?_ _)); exact BK245.out), (by (with_reducible repeat (first | refine bN ?_ _ | refine bD ?_ | refine bA ?_ _)); exact BK259.out), GW259.out, GE259.out, NB244_259.out, NB259_244.out, NB245_259.out, NB259_245.out, (by repeat (first | (with_reducible first | exact HB.out | apply eA | apply eN | apply eD | refine eS ?_ GE244.out | refine eS ?_ GE245.out | refine eS ?_ GE259.out) | exact HB.out))⟩)
             ·
              skip
              rintro ⟨v254, gb259⟩ w32 ⟨hS_, h0_, h1_, h2_, h3_, h4_, h5_, h6_, h7_, h8_, h9_, h10_⟩
              have n0_ : Aside0 (Kd.R (Kd.int .i64) 3 w32 w.heap.size (fun _ => True) v254 y253) := ⟨h0_⟩
              have n1_ : Aside0 (w32.heap[gb244]? = some (.cells #[.slice (some ad247) l0_0.length c0_0, .int .i64 a0_1] 26 (0, 0))) := ⟨h1_⟩
              have n2_ : Aside0 (w32.heap[gb245]? = some (.cells #[.slice none 0 0, .int .i64 0] 26 (0, 0))) := ⟨h2_⟩
              have n3_ : Aside0 (w32.heap[gb259]? = some (.cells #[.slice none 0 0, .int .i64 0] 26 (0, 0))) := ⟨h3_⟩
              have n4_ : Aside0 (w.heap.size ≤ gb259) := ⟨h4_⟩
              have n5_ : Aside0 (w.heap.size ≤ gb259) := ⟨h5_⟩
              have n6_ : Aside0 (gb244 ≠ gb259) := ⟨h6_⟩
              have n7_ : Aside0 (gb259 ≠ gb244) := ⟨h7_⟩
              have n8_ : Aside0 (gb245 ≠ gb259) := ⟨h8_⟩
              have n9_ : Aside0 (gb259 ≠ gb245) := ⟨h9_⟩
              have n10_ : Aside0 (Below w.heap.size w w32) := ⟨h10_⟩
              clear BK244 BK245 HB h0_ h1_ h2_ h3_ h4_ h5_ h6_ h7_ h8_ h9_ h10_
              have HO255 := n0_
              have BK244 := n1_
              have BK245 := n2_
              have BK259 := n3_
              have GW259 := n4_
              have GE259 := n5_
              have NB244_259 := n6_
              have NB259_244 := n7_
              have NB245_259 := n8_
              have NB259_245 := n9_
              have HB := n10_
              clear n0_ n1_ n2_ n3_ n4_ n5_ n6_ n7_ n8_ n9_ n10_
              have hHeld : w32.cell? ⟨gb244, 0, none⟩ = some (.slice (some ad247) l0_0.length c0_0) ∧ w32.cell? ⟨gb244, 1, none⟩ = some (.int .i64 a0_1) ∧ w32.cell? (ad247.add (a1).toNat) = some (.int .i64 (rd l0_0 a1)) := hS_
              refine norm_ (a' := ?_) ?_ ?_
              rotate_left
              ·
               simp only [putAll, Act.put, sA, sZ, sU]
               rfl
              refine one_ (i := 2) (N := some 32) #[true, true, true, true, true, true, true, true, true, true, true, false, true, true, false, true, false] rfl rfl (one_of HT_.out (by kernel_rfl)) (by decide) (fun K hK => ?_)
              refine goes_ Try.func54 (by kernel_rfl) rfl #[.slice (some ad247) l0_0.length c0_0] (by rfl) rfl rfl (by (try simp only [List.map_toArray, List.map_cons, List.map_nil]); first | done | rfl | (simp only [List.length_drop, List.length_take]; rfl)) ?_
              with_reducible refine (spec_l1Own.calls _ _ l0_0 t249 _ ?side1 ?side2 A18.out).mono ?_
              (case side1 => repeat (first | exact (Kd.C_below HR0_0.out HB.out) | (with_reducible refine Kd.C_alloc ?_ _) | (with_reducible refine Kd.C_drewN ?_ _) | (with_reducible refine Kd.C_drew ?_)))
              (case side2 => exact HC0_0.out)
              rintro e w33 ⟨v250, rfl, ho0, hb⟩
              refine ⟨_, rfl, ?_⟩
              have n0_ := aM (Kd.R_elder' (by (with_reducible repeat (first | apply rA | apply rN | apply rD)); exact HO255.out) (Kd.R_base ho0) hb)
              have n1_ := aM (Kd.R_lower (Kd.R_new' ho0 (Kd.R_lt (by (with_reducible repeat (first | apply rA | apply rN | apply rD)); exact HO255.out))) (below_size (by repeat (first | (with_reducible first | exact HB.out | apply eA | apply eN | apply eD | refine eS ?_ GE244.out | refine eS ?_ GE245.out | refine eS ?_ GE259.out) | exact HB.out))))
              have n2_ := aM (bB (g := gb244) (o := .cells #[.slice (some ad247) l0_0.length c0_0, .int .i64 a0_1] 26 (0, 0)) (by (with_reducible repeat (first | refine bN ?_ _ | refine bD ?_ | refine bA ?_ _)); exact BK244.out) hb)
              have n3_ := aM (bB (g := gb245) (o := .cells #[.slice none 0 0, .int .i64 0] 26 (0, 0)) (by (with_reducible repeat (first | refine bN ?_ _ | refine bD ?_ | refine bA ?_ _)); exact BK245.out) hb)
              have n4_ := aM (bB (g := gb259) (o := .cells #[.slice none 0 0, .int .i64 0] 26 (0, 0)) (by (with_reducible repeat (first | refine bN ?_ _ | refine bD ?_ | refine bA ?_ _)); exact BK259.out) hb)
              have n5_ := aM (below_step (by repeat (first | (with_reducible first | exact HB.out | apply eA | apply eN | apply eD | refine eS ?_ GE244.out | refine eS ?_ GE245.out | refine eS ?_ GE259.out) | exact HB.out)) hb)
              clear HO255 BK244 BK245 BK259 HB
              have HO255 := n0_
              have HO251 := n1_
              have BK244 := n2_
              have BK245 := n3_
              have BK259 := n4_
              have HB := n5_
              clear n0_ n1_ n2_ n3_ n4_ n5_
              (try clear hb)
              (try clear hb2)
              (try clear hk)
              (try clear hi)
              (try clear ho0)
              refine hK.out _ _ ⟨(bC BK244.out 0).trans rfl, (bC BK244.out 1).trans rfl, ((HB.out.cell (World.block_lt_of_cell? w _ hw252_0)).trans hw252_0)⟩ (fun hHeld => ?_)
              clear hK K
              refine norm_ (a' := ?_) ?_ ?_
              rotate_left
              ·
               show Act.put _ (some 32) _ = _
               simp only [Act.put, sA, sZ, sU, i64_w, i32_w]
               rfl
              exact norm_ (by first | (simp only [putAll, Act.put, sA, sZ, sU]; done) | (simp only [putAll, Act.put, sA, sZ, sU]; rfl)) (hJ2_10_15 (v250, v254, gb259) _ ⟨hHeld, (by (with_reducible repeat (first | apply rA | apply rN | apply rD)); exact rM HO251.out (fun _ hk => by first | exact hk.2 | exact trivial)), (by (with_reducible repeat (first | apply rA | apply rN | apply rD)); exact rM HO255.out (fun _ hk => by first | exact hk.2 | exact trivial)), (by (with_reducible repeat (first | refine bN ?_ _ | refine bD ?_ | refine bA ?_ _)); exact BK244.out), (by (with_reducible repeat (first | refine bN ?_ _ | refine bD ?_ | refine bA ?_ _)); exact BK245.out), (by (with_reducible repeat (first | refine bN ?_ _ | refine bD ?_ | refine bA ?_ _)); exact BK259.out), GW259.out, GE259.out, NB244_259.out, NB259_244.out, NB245_259.out, NB259_245.out, (by repeat (first | (with_reducible first | exact HB.out | apply eA | apply eN | apply eD | refine eS ?_ GE244.out | refine eS ?_ GE245.out | refine eS ?_ GE259.out) | exact HB.out))⟩)
            ·
             skip
             rintro ⟨v250, gb259⟩ w31 ⟨hS_, h0_, h1_, h2_, h3_, h4_, h5_, h6_, h7_, h8_, h9_, h10_⟩
             have n0_ : Aside0 (Kd.R (Kd.int .i64) 3 w31 w.heap.size (fun _ => True) v250 t249) := ⟨h0_⟩
             have n1_ : Aside0 (w31.heap[gb244]? = some (.cells #[.slice (some ad247) l0_0.length c0_0, .int .i64 a0_1] 26 (0, 0))) := ⟨h1_⟩
             have n2_ : Aside0 (w31.heap[gb245]? = some (.cells #[.slice none 0 0, .int .i64 0] 26 (0, 0))) := ⟨h2_⟩
             have n3_ : Aside0 (w31.heap[gb259]? = some (.cells #[.slice none 0 0, .int .i64 0] 26 (0, 0))) := ⟨h3_⟩
             have n4_ : Aside0 (w.heap.size ≤ gb259) := ⟨h4_⟩
             have n5_ : Aside0 (w.heap.size ≤ gb259) := ⟨h5_⟩
             have n6_ : Aside0 (gb244 ≠ gb259) := ⟨h6_⟩
             have n7_ : Aside0 (gb259 ≠ gb244) := ⟨h7_⟩
             have n8_ : Aside0 (gb245 ≠ gb259) := ⟨h8_⟩
             have n9_ : Aside0 (gb259 ≠ gb245) := ⟨h9_⟩
             have n10_ : Aside0 (Below w.heap.size w w31) := ⟨h10_⟩
             clear BK244 BK245 HB h0_ h1_ h2_ h3_ h4_ h5_ h6_ h7_ h8_ h9_ h10_
             have HO251 := n0_
             have BK244 := n1_
             have BK245 := n2_
             have BK259 := n3_
             have GW259 := n4_
             have GE259 := n5_
             have NB244_259 := n6_
             have NB259_244 := n7_
             have NB245_259 := n8_
             have NB259_245 := n9_
             have HB := n10_
             clear n0_ n1_ n2_ n3_ n4_ n5_ n6_ n7_ n8_ n9_ n10_
             have hHeld : w31.cell? ⟨gb244, 0, none⟩ = some (.slice (some ad247) l0_0.length c0_0) ∧ w31.cell? ⟨gb244, 1, none⟩ = some (.int .i64 a0_1) ∧ w31.cell? (ad247.add (a1).toNat) = some (.int .i64 (rd l0_0 a1)) := hS_
             refine norm_ (a' := ?_) ?_ ?_
             rotate_left
             ·
              simp only [putAll, Act.put, sA, sZ, sU]
              rfl
             refine one_ (i := 10) (N := some 40) #[true, true, true, true, true, true, true, true, true, true, true, false, true, true, false, true, false] rfl rfl (one_of HT_.out (by kernel_rfl)) (by decide) (fun K hK => ?_)
             refine Kd.R_lit_step (Kd.int .i64) _ 3 ?hg (N := 40) ?hd (xs := ([wrap64 ((rd l0_0 a1) - a2)] : List Int)) (inner := [.int .i64 (wrap64 ((rd l0_0 a1) - a2))]) (ok := fun _ => True) (okp := fun _ => True) ?hr ?hp (fun _ hk => hk) trivial (Below.refl _ _) (Nat.le_refl _) (by simp) ?_; (case hd => rfl); (case hg => rfl); (case hr => first | (go_simp; done) | (go_simp; rfl)); (case hp => exact (Reps.one (show Kd.M (Kd.int .i64) _ _ _ (wrap64 ((rd l0_0 a1) - a2)) [.int .i64 (wrap64 ((rd l0_0 a1) - a2))] from rfl) (Reps.none _ _)))
             intro v254 w32 ho33 hb hg_ hnew_
             clear hg_ hnew_
             (first | rw [← Ny253.out] at ho33 | (simp only [Int.reduceToNat] at ho33; rw [← Ny253.out] at ho33))
             have n0_ := aM (Kd.R_elder' (by (with_reducible repeat (first | apply rA | apply rN | apply rD)); exact HO251.out) (Kd.R_base ho33) hb)
             have n1_ := aM (Kd.R_lower (Kd.R_new' ho33 (Kd.R_lt (by (with_reducible repeat (first | apply rA | apply rN | apply rD)); exact HO251.out))) (below_size (by repeat (first | (with_reducible first | exact HB.out | apply eA | apply eN | apply eD | refine eS ?_ GE244.out | refine eS ?_ GE245.out | refine eS ?_ GE259.out) | exact HB.out))))
             have n2_ := aM (bB (g := gb244) (o := .cells #[.slice (some ad247) l0_0.length c0_0, .int .i64 a0_1] 26 (0, 0)) (by (with_reducible repeat (first | refine bN ?_ _ | refine bD ?_ | refine bA ?_ _)); exact BK244.out) hb)
             have n3_ := aM (bB (g := gb245) (o := .cells #[.slice none 0 0, .int .i64 0] 26 (0, 0)) (by (with_reducible repeat (first | refine bN ?_ _ | refine bD ?_ | refine bA ?_ _)); exact BK245.out) hb)
             have n4_ := aM (bB (g := gb259) (o := .cells #[.slice none 0 0, .int .i64 0] 26 (0, 0)) (by (with_reducible repeat (first | refine bN ?_ _ | refine bD ?_ | refine bA ?_ _)); exact BK259.out) hb)
             have n5_ := aM (below_step (by repeat (first | (with_reducible first | exact HB.out | apply eA | apply eN | apply eD | refine eS ?_ GE244.out | refine eS ?_ GE245.out | refine eS ?_ GE259.out) | exact HB.out)) hb)
             clear HO251 BK244 BK245 BK259 HB
             have HO251 := n0_
             have HO255 := n1_
             have BK244 := n2_
             have BK245 := n3_
             have BK259 := n4_
             have HB := n5_
             clear n0_ n1_ n2_ n3_ n4_ n5_ hb ho33
             refine hK.out _ _ ⟨(bC BK244.out 0).trans rfl, (bC BK244.out 1).trans rfl, ((HB.out.cell (World.block_lt_of_cell? w _ hw252_0)).trans hw252_0)⟩ (fun hHeld => ?_)
             clear hK K
             refine norm_ (a' := ?_) ?_ ?_
             rotate_left
             ·
              show Act.put _ (some 40) _ = _
              simp only [Act.put, sA, sZ, sU, i64_w, i32_w]
              rfl
             exact norm_ (by first | (simp only [putAll, Act.put, sA, sZ, sU]; done) | (simp only [putAll, Act.put, sA, sZ, sU]; rfl)) (hJ2_10_15 (v250, v254, gb259) _ ⟨hHeld, (by (with_reducible repeat (first | apply rA | apply rN | apply rD)); exact rM HO251.out (fun _ hk => by first | exact hk.2 | exact trivial)), (by (with_reducible repeat (first | apply rA | apply rN | apply rD)); exact rM HO255.out (fun _ hk => by first | exact hk.2 | exact trivial)), (by (with_reducible repeat (first | refine bN ?_ _ | refine bD ?_ | refine bA ?_ _)); exact BK244.out), (by (with_reducible repeat (first | refine bN ?_ _ | refine bD ?_ | refine bA ?_ _)); exact BK245.out), (by (with_reducible repeat (first | refine bN ?_ _ | refine bD ?_ | refine bA ?_ _)); exact BK259.out), GW259.out, GE259.out, NB244_259.out, NB259_244.out, NB245_259.out, NB259_245.out, (by repeat (first | (with_reducible first | exact HB.out | apply eA | apply eN | apply eD | refine eS ?_ GE244.out | refine eS ?_ GE245.out | refine eS ?_ GE259.out) | exact HB.out))⟩)
           ·
            skip
            rintro ⟨v250, v254⟩ w32 ⟨hS_, h0_, h1_, h2_, h3_, h4_⟩
            have n0_ : Aside0 (Kd.R (Kd.int .i64) 3 w32 w.heap.size (fun k_ => some k_ ≠ (v254 : Value).ownBlock) v250 t249) := ⟨h0_⟩
            have n1_ : Aside0 (Kd.R (Kd.int .i64) 3 w32 w.heap.size (fun k_ => some k_ ≠ (v250 : Value).ownBlock) v254 y253) := ⟨h1_⟩
            have n2_ : Aside0 (w32.heap[gb244]? = some (.cells #[.slice (some ad247) l0_0.length c0_0, .int .i64 a0_1] 26 (0, 0))) := ⟨h2_⟩
            have n3_ : Aside0 (w32.heap[gb245]? = some (.cells #[.slice none 0 0, .int .i64 0] 26 (0, 0))) := ⟨h3_⟩
            have n4_ : Aside0 (Below w.heap.size w w32) := ⟨h4_⟩
            clear BK244 BK245 HB h0_ h1_ h2_ h3_ h4_
            have HO251 := n0_
            have HO255 := n1_
            have BK244 := n2_
            have BK245 := n3_
            have HB := n4_
            clear n0_ n1_ n2_ n3_ n4_
            have hHeld : w32.cell? ⟨gb244, 0, none⟩ = some (.slice (some ad247) l0_0.length c0_0) ∧ w32.cell? ⟨gb244, 1, none⟩ = some (.int .i64 a0_1) ∧ w32.cell? (ad247.add (a1).toNat) = some (.int .i64 (rd l0_0 a1)) := hS_
            obtain ⟨Ao34, co34, eo34⟩ := Kd.R_slice HO255.out
            (first | subst eo34 | (injection eo34 with f1_ f2_ f3_; have f4_ := f1_.symm; have f5_ := f3_.symm; clear f1_ f2_ f3_; subst f4_; subst f5_))
            refine norm_ (a' := ?_) ?_ ?_
            rotate_left
            ·
             simp only [putAll, Act.put, sA, sZ, sU]
             rfl
            refine two_ (i := 11) (j := 15) (Ni := some 41) (Nj := some 8) #[true, true, true, true, true, true, true, true, true, true, true, true, true, true, false, false, false] #[true, true, true, true, true, true, true, true, true, true, true, false, true, true, false, true, false] rfl rfl rfl rfl (two_of HT_.out (by kernel_rfl)) (by decide) (by decide) (fun K hK => ?_) (fun K hK => ?_)
            ·
             skip
             refine Kd.R_append_rows_step (Kd.int .i64) (w0 := w) w.heap.size (by rfl) (.tmp 32) (.tmp 40) 24 3 (.int .i64 0) 8 rfl Try.underlying24 info3 rfl (by decide) (by omega) v250 t249 y253 _ _ _ (fun k_ => some k_ ≠ (.slice Ao34 y253.length co34 : Value).ownBlock) (fun _ => False) rfl rfl ?aO ?aR (fun _ _ h => h) (fun _ h => h.elim) ?aF ?aB ?aS ?aL ?_
             (case aR => repeat (first | exact (Kd.R_reads' HO255.out).2.2 | (with_reducible refine Kd.C_alloc ?_ _) | (with_reducible refine Kd.C_drewN ?_ _) | (with_reducible refine Kd.C_drew ?_)))
             (case aB => exact (by repeat (first | (with_reducible first | exact HB.out | apply eA | apply eN | apply eD | refine eS ?_ GE244.out | refine eS ?_ GE245.out) | exact HB.out)))
             (case aF => exact (fun k_ hk => Kd.fresh' (Kd.R_lt (by (with_reducible repeat (first | apply rA | apply rN | apply rD)); exact HO255.out)) k_ hk))
             (case aO => exact (by (with_reducible repeat (first | apply rA | apply rN | apply rD)); exact HO251.out))
             (case aS => exact (below_size (by repeat (first | (with_reducible first | exact HB.out | apply eA | apply eN | apply eD | refine eS ?_ GE244.out | refine eS ?_ GE245.out) | exact HB.out))))
             (case aL => have := LMc19.out; omega)
             intro v257 w33 ho hb hg hat
             rw [← Ny256.out] at ho
             have n0_ := aM (blk_grown (g := gb244) (o := .cells #[.slice (some ad247) l0_0.length c0_0, .int .i64 a0_1] 26 (0, 0)) (by (with_reducible repeat (first | refine bN ?_ _ | refine bD ?_ | refine bA ?_ _)); exact BK244.out) hg (Kd.R_ne HO251.out BK244.out (by decide)))
             have n1_ := aM (blk_grown (g := gb245) (o := .cells #[.slice none 0 0, .int .i64 0] 26 (0, 0)) (by (with_reducible repeat (first | refine bN ?_ _ | refine bD ?_ | refine bA ?_ _)); exact BK245.out) hg (Kd.R_ne HO251.out BK245.out (by decide)))
             have n2_ := aM (Kd.R_after (ok := (fun _ => True)) (by (with_reducible repeat (first | apply rA | apply rN | apply rD)); exact rM HO255.out (fun _ hk => ⟨trivial, hk⟩)) hg hat)
             have n3_ := aM (hb)
             have n4_ := aM (ho)
             clear BK244 BK245 HO255 HB HO251
             have BK244 := n0_
             have BK245 := n1_
             have HO255 := n2_
             have HB := n3_
             have HO258 := n4_
             clear n0_ n1_ n2_ n3_ n4_ ho hb hg hat
             obtain ⟨Ao35, co35, eo35⟩ := Kd.R_slice HO258.out
             (first | subst eo35 | (injection eo35 with f1_ f2_ f3_; have f4_ := f1_.symm; have f5_ := f3_.symm; clear f1_ f2_ f3_; subst f4_; subst f5_))
             refine hK.out _ _ ⟨(bC BK244.out 0).trans rfl, (bC BK244.out 1).trans rfl, ((HB.out.cell (World.block_lt_of_cell? w _ hw252_0)).trans hw252_0)⟩ (fun hHeld => ?_)
             clear hK K
             refine norm_ (a' := ?_) ?_ ?_
             rotate_left
             ·
              show Act.put _ (some 41) _ = _
              simp only [Act.put, sA, sZ, sU, i64_w, i32_w]
              rfl
             refine pure_ (i := 14) (N := some 44) (v := ?_) (a' := ?_) #[true, true, true, true, true, true, true, true, true, true, true, true, true, true, true, false, false] rfl rfl (any_of HT_.out (by kernel_rfl)) (fun _ _ _ h => h) (Or.inl ⟨by rfl, ?_⟩) ?_ ?_
             rotate_left
             ·
              intro w'
              go_simp
              with_reducible rfl
             rotate_left
             ·
              simp only [Act.put, sA, sZ, sU, i64_w, i32_w]
              rfl
             exact norm_ (by first | (simp only [putAll, Act.put, sA, sZ, sU]; done) | (simp only [putAll, Act.put, sA, sZ, sU]; rfl)) (hJ2_10_11 (_, .slice Ao34 y253.length co34, .slice Ao35 y256.length co35) _ ⟨hHeld, (by (with_reducible repeat (first | apply rA | apply rN | apply rD)); exact rM HO255.out (fun _ hk => by first | exact hk.2 | exact trivial)), (by (with_reducible repeat (first | apply rA | apply rN | apply rD)); exact HO258.out), (by (with_reducible repeat (first | refine bN ?_ _ | refine bD ?_ | refine bA ?_ _)); exact BK244.out), (by (with_reducible repeat (first | refine bN ?_ _ | refine bD ?_ | refine bA ?_ _)); exact BK245.out), (by repeat (first | (with_reducible first | exact HB.out | apply eA | apply eN | apply eD | refine eS ?_ GE244.out | refine eS ?_ GE245.out) | exact HB.out))⟩)
            ·
             skip
             refine box_step ?hg (N := 8) ?hd (cs := #[.slice none 0 0, .int .i64 0]) (t := 26) ?hr ?_; (case hd => rfl); (case hg => rfl); (case hr => first | (go_simp; done) | (go_simp; rfl))
             intro gb259 hg w33 hbox hb
             have n0_ := aM (Kd.R_below (by (with_reducible repeat (first | apply rA | apply rN | apply rD)); exact HO251.out) hb)
             have n1_ := aM (Kd.R_below (by (with_reducible repeat (first | apply rA | apply rN | apply rD)); exact HO255.out) hb)
             have n2_ := aM (bB (g := gb244) (o := .cells #[.slice (some ad247) l0_0.length c0_0, .int .i64 a0_1] 26 (0, 0)) (by (with_reducible repeat (first | refine bN ?_ _ | refine bD ?_ | refine bA ?_ _)); exact BK244.out) hb)
             have n3_ := aM (bB (g := gb245) (o := .cells #[.slice none 0 0, .int .i64 0] 26 (0, 0)) (by (with_reducible repeat (first | refine bN ?_ _ | refine bD ?_ | refine bA ?_ _)); exact BK245.out) hb)
             have n4_ := aM (below_step (by repeat (first | (with_reducible first | exact HB.out | apply eA | apply eN | apply eD | refine eS ?_ GE244.out | refine eS ?_ GE245.out) | exact HB.out)) hb)
             have n5_ := aM (hbox)
             have n6_ := aM ((by rw [hg]; exact (below_size (by repeat (first | (with_reducible first | exact HB.out | apply eA | apply eN | apply eD | refine eS ?_ GE244.out | refine eS ?_ GE245.out) | exact HB.out))) : w.heap.size ≤ gb259))
             have n7_ := aM ((by rw [hg]; exact (below_size (by repeat (first | (with_reducible first | exact HB.out | apply eA | apply eN | apply eD | refine eS ?_ GE244.out | refine eS ?_ GE245.out) | exact HB.out))) : w.heap.size ≤ gb259))
             have n8_ := aM ((by rw [hg]; exact Nat.ne_of_lt (blk_lt (g := gb244) (o := .cells #[.slice (some ad247) l0_0.length c0_0, .int .i64 a0_1] 26 (0, 0)) (by (with_reducible repeat (first | refine bN ?_ _ | refine bD ?_ | refine bA ?_ _)); exact BK244.out)) : gb244 ≠ gb259))
             have n9_ := aM ((by rw [hg]; exact Nat.ne_of_gt (blk_lt (g := gb244) (o := .cells #[.slice (some ad247) l0_0.length c0_0, .int .i64 a0_1] 26 (0, 0)) (by (with_reducible repeat (first | refine bN ?_ _ | refine bD ?_ | refine bA ?_ _)); exact BK244.out)) : gb259 ≠ gb244))
             have n10_ := aM ((by rw [hg]; exact Nat.ne_of_lt (blk_lt (g := gb245) (o := .cells #[.slice none 0 0, .int .i64 0] 26 (0, 0)) (by (with_reducible repeat (first | refine bN ?_ _ | refine bD ?_ | refine bA ?_ _)); exact BK245.out)) : gb245 ≠ gb259))
             have n11_ := aM ((by rw [hg]; exact Nat.ne_of_gt (blk_lt (g := gb245) (o := .cells #[.slice none 0 0, .int .i64 0] 26 (0, 0)) (by (with_reducible repeat (first | refine bN ?_ _ | refine bD ?_ | refine bA ?_ _)); exact BK245.out)) : gb259 ≠ gb245))
             clear HO251 HO255 BK244 BK245 HB
             have HO251 := n0_
             have HO255 := n1_
             have BK244 := n2_
             have BK245 := n3_
             have HB := n4_
             have BK259 := n5_
             have GW259 := n6_
             have GE259 := n7_
             have NB244_259 := n8_
             have NB259_244 := n9_
             have NB245_259 := n10_
             have NB259_245 := n11_
             clear n0_ n1_ n2_ n3_ n4_ n5_ n6_ n7_ n8_ n9_ n10_ n11_ hb hbox hg
             refine hK.out _ _ ⟨(bC BK244.out 0).trans rfl, (bC BK244.out 1).trans rfl, ((HB.out.cell (World.block_lt_of_cell? w _ hw252_0)).trans hw252_0)⟩ (fun hHeld => ?_)
             clear hK K
             refine norm_ (a' := ?_) ?_ ?_
             rotate_left
             ·
              show Act.put _ (some 8) _ = _
              simp only [Act.put, sA, sZ, sU, i64_w, i32_w]
              rfl
             exact norm_ (by first | (simp only [putAll, Act.put, sA, sZ, sU]; done) | (simp only [putAll, Act.put, sA, sZ, sU]; rfl)) (hJ2_10_15 (_, _, gb259) _ ⟨hHeld, (by (with_reducible repeat (first | apply rA | apply rN | apply rD)); exact HO251.out), (by (with_reducible repeat (first | apply rA | apply rN | apply rD)); exact HO255.out), (by (with_reducible repeat (first | refine bN ?_ _ | refine bD ?_ | refine bA ?_ _)); exact BK244.out), (by (with_reducible repeat (first | refine bN ?_ _ | refine bD ?_ | refine bA ?_ _)); exact BK245.out), (by (with_reducible repeat (first | refine bN ?_ _ | refine bD ?_ | refine bA ?_ _)); exact BK259.out), GW259.out, GE259.out, NB244_259.out, NB259_244.out, NB245_259.out, NB259_245.out, (by repeat (first | (with_reducible first | exact HB.out | apply eA | apply eN | apply eD | refine eS ?_ GE244.out | refine eS ?_ GE245.out | refine eS ?_ GE259.out) | exact HB.out))⟩)
          ·
           skip
           rintro ⟨v250, v254, gb259⟩ w33 ⟨hS_, h0_, h1_, h2_, h3_, h4_, h5_, h6_, h7_, h8_, h9_, h10_, h11_⟩
           have n0_ : Aside0 (Kd.R (Kd.int .i64) 3 w33 w.heap.size (fun k_ => some k_ ≠ (v254 : Value).ownBlock) v250 t249) := ⟨h0_⟩
           have n1_ : Aside0 (Kd.R (Kd.int .i64) 3 w33 w.heap.size (fun k_ => some k_ ≠ (v250 : Value).ownBlock) v254 y253) := ⟨h1_⟩
           have n2_ : Aside0 (w33.heap[gb244]? = some (.cells #[.slice (some ad247) l0_0.length c0_0, .int .i64 a0_1] 26 (0, 0))) := ⟨h2_⟩
           have n3_ : Aside0 (w33.heap[gb245]? = some (.cells #[.slice none 0 0, .int .i64 0] 26 (0, 0))) := ⟨h3_⟩
           have n4_ : Aside0 (w33.heap[gb259]? = some (.cells #[.slice none 0 0, .int .i64 0] 26 (0, 0))) := ⟨h4_⟩
           have n5_ : Aside0 (w.heap.size ≤ gb259) := ⟨h5_⟩
           have n6_ : Aside0 (w.heap.size ≤ gb259) := ⟨h6_⟩
           have n7_ : Aside0 (gb244 ≠ gb259) := ⟨h7_⟩
           have n8_ : Aside0 (gb259 ≠ gb244) := ⟨h8_⟩
           have n9_ : Aside0 (gb245 ≠ gb259) := ⟨h9_⟩
           have n10_ : Aside0 (gb259 ≠ gb245) := ⟨h10_⟩
           have n11_ : Aside0 (Below w.heap.size w w33) := ⟨h11_⟩
           clear BK244 BK245 HB h0_ h1_ h2_ h3_ h4_ h5_ h6_ h7_ h8_ h9_ h10_ h11_
           have HO251 := n0_
           have HO255 := n1_
           have BK244 := n2_
           have BK245 := n3_
           have BK259 := n4_
           have GW259 := n5_
           have GE259 := n6_
           have NB244_259 := n7_
           have NB259_244 := n8_
           have NB245_259 := n9_
           have NB259_245 := n10_
           have HB := n11_
           clear n0_ n1_ n2_ n3_ n4_ n5_ n6_ n7_ n8_ n9_ n10_ n11_
           have hHeld : w33.cell? ⟨gb244, 0, none⟩ = some (.slice (some ad247) l0_0.length c0_0) ∧ w33.cell? ⟨gb244, 1, none⟩ = some (.int .i64 a0_1) ∧ w33.cell? (ad247.add (a1).toNat) = some (.int .i64 (rd l0_0 a1)) := hS_
           obtain ⟨Ao35, co35, eo35⟩ := Kd.R_slice HO255.out
           (first | subst eo35 | (injection eo35 with f1_ f2_ f3_; have f4_ := f1_.symm; have f5_ := f3_.symm; clear f1_ f2_ f3_; subst f4_; subst f5_))
           refine norm_ (a' := ?_) ?_ ?_
           rotate_left
           ·
            simp only [putAll, Act.put, sA, sZ, sU]
            rfl
           refine one_ (i := 11) (N := some 41) #[true, true, true, true, true, true, true, true, true, true, true, true, true, true, false, true, false] rfl rfl (one_of HT_.out (by kernel_rfl)) (by decide) (fun K hK => ?_)
           refine Kd.R_append_rows_step (Kd.int .i64) (w0 := w) w.heap.size (by rfl) (.tmp 32) (.tmp 40) 24 3 (.int .i64 0) 8 rfl Try.underlying24 info3 rfl (by decide) (by omega) v250 t249 y253 _ _ _ (fun k_ => some k_ ≠ (.slice Ao35 y253.length co35 : Value).ownBlock) (fun _ => False) rfl rfl ?aO ?aR (fun _ _ h => h) (fun _ h => h.elim) ?aF ?aB ?aS ?aL ?_
           (case aR => repeat (first | exact (Kd.R_reads' HO255.out).2.2 | (with_reducible refine Kd.C_alloc ?_ _) | (with_reducible refine Kd.C_drewN ?_ _) | (with_reducible refine Kd.C_drew ?_)))
           (case aB => exact (by repeat (first | (with_reducible first | exact HB.out | apply eA | apply eN | apply eD | refine eS ?_ GE244.out | refine eS ?_ GE245.out | refine eS ?_ GE259.out) | exact HB.out)))
           (case aF => exact (fun k_ hk => Kd.fresh' (Kd.R_lt (by (with_reducible repeat (first | apply rA | apply rN | apply rD)); exact HO255.out)) k_ hk))
           (case aO => exact (by (with_reducible repeat (first | apply rA | apply rN | apply rD)); exact HO251.out))
           (case aS => exact (below_size (by repeat (first | (with_reducible first | exact HB.out | apply eA | apply eN | apply eD | refine eS ?_ GE244.out | refine eS ?_ GE245.out | refine eS ?_ GE259.out) | exact HB.out))))
           (case aL => have := LMc19.out; omega)
           intro v257 w34 ho hb hg hat
           rw [← Ny256.out] at ho
           have n0_ := aM (blk_grown (g := gb244) (o := .cells #[.slice (some ad247) l0_0.length c0_0, .int .i64 a0_1] 26 (0, 0)) (by (with_reducible repeat (first | refine bN ?_ _ | refine bD ?_ | refine bA ?_ _)); exact BK244.out) hg (Kd.R_ne HO251.out BK244.out (by decide)))
           have n1_ := aM (blk_grown (g := gb245) (o := .cells #[.slice none 0 0, .int .i64 0] 26 (0, 0)) (by (with_reducible repeat (first | refine bN ?_ _ | refine bD ?_ | refine bA ?_ _)); exact BK245.out) hg (Kd.R_ne HO251.out BK245.out (by decide)))
           have n2_ := aM (Kd.R_after (ok := (fun _ => True)) (by (with_reducible repeat (first | apply rA | apply rN | apply rD)); exact rM HO255.out (fun _ hk => ⟨trivial, hk⟩)) hg hat)
           have n3_ := aM (blk_grown (g := gb259) (o := .cells #[.slice none 0 0, .int .i64 0] 26 (0, 0)) (by (with_reducible repeat (first | refine bN ?_ _ | refine bD ?_ | refine bA ?_ _)); exact BK259.out) hg (Kd.R_ne HO251.out BK259.out (by decide)))
           have n4_ := aM (hb)
           have n5_ := aM (ho)
           clear BK244 BK245 HO255 BK259 HB HO251
           have BK244 := n0_
           have BK245 := n1_
           have HO255 := n2_
           have BK259 := n3_
           have HB := n4_
           have HO258 := n5_
           clear n0_ n1_ n2_ n3_ n4_ n5_ ho hb hg hat
           obtain ⟨Ao36, co36, eo36⟩ := Kd.R_slice HO258.out
           (first | subst eo36 | (injection eo36 with f1_ f2_ f3_; have f4_ := f1_.symm; have f5_ := f3_.symm; clear f1_ f2_ f3_; subst f4_; subst f5_))
           refine hK.out _ _ ⟨(bC BK244.out 0).trans rfl, (bC BK244.out 1).trans rfl, ((HB.out.cell (World.block_lt_of_cell? w _ hw252_0)).trans hw252_0)⟩ (fun hHeld => ?_)
           clear hK K
           refine norm_ (a' := ?_) ?_ ?_
           rotate_left
           ·
            show Act.put _ (some 41) _ = _
            simp only [Act.put, sA, sZ, sU, i64_w, i32_w]
            rfl
           refine pure_ (i := 14) (N := some 44) (v := ?_) (a' := ?_) #[true, true, true, true, true, true, true, true, true, true, true, true, true, true, true, true, false] rfl rfl (any_of HT_.out (by kernel_rfl)) (fun _ _ _ h => h) (Or.inl ⟨by rfl, ?_⟩) ?_ ?_
           rotate_left
           ·
            intro w'
            go_simp
            with_reducible rfl
           rotate_left
           ·
            simp only [Act.put, sA, sZ, sU, i64_w, i32_w]
            rfl
           exact norm_ (by first | (simp only [putAll, Act.put, sA, sZ, sU]; done) | (simp only [putAll, Act.put, sA, sZ, sU]; rfl)) (hJ2_10_11_15 (_, .slice Ao35 y253.length co35, .slice Ao36 y256.length co36, gb259) _ ⟨hHeld, (by (with_reducible repeat (first | apply rA | apply rN | apply rD)); exact rM HO255.out (fun _ hk => by first | exact hk.2 | exact trivial)), (by (with_reducible repeat (first | apply rA | apply rN | apply rD)); exact HO258.out), (by (with_reducible repeat (first | refine bN ?_ _ | refine bD ?_ | refine bA ?_ _)); exact BK244.out), (by (with_reducible repeat (first | refine bN ?_ _ | refine bD ?_ | refine bA ?_ _)); exact BK245.out), (by (with_reducible repeat (first | refine bN ?_ _ | refine bD ?_ | refine bA ?_ _)); exact BK259.out), GW259.out, GE259.out, NB244_259.out, NB259_244.out, NB245_259.out, NB259_245.out, (by repeat (first | (with_reducible first | exact HB.out | apply eA | apply eN | apply eD | refine eS ?_ GE244.out | refine eS ?_ GE245.out | refine eS ?_ GE259.out) | exact HB.out))⟩)
         ·
          skip
          rintro ⟨v250, v254, v257⟩ w35 ⟨hS_, h0_, h1_, h2_, h3_, h4_⟩
          have n0_ : Aside0 (Kd.R (Kd.int .i64) 3 w35 w.heap.size (fun k_ => some k_ ≠ (v257 : Value).ownBlock) v254 y253) := ⟨h0_⟩
          have n1_ : Aside0 (Kd.R (Kd.int .i64) 3 w35 w.heap.size (fun k_ => some k_ ≠ (v254 : Value).ownBlock) v257 y256) := ⟨h1_⟩
          have n2_ : Aside0 (w35.heap[gb244]? = some (.cells #[.slice (some ad247) l0_0.length c0_0, .int .i64 a0_1] 26 (0, 0))) := ⟨h2_⟩
          have n3_ : Aside0 (w35.heap[gb245]? = some (.cells #[.slice none 0 0, .int .i64 0] 26 (0, 0))) := ⟨h3_⟩
          have n4_ : Aside0 (Below w.heap.size w w35) := ⟨h4_⟩
          clear BK244 BK245 HB h0_ h1_ h2_ h3_ h4_
          have HO255 := n0_
          have HO258 := n1_
          have BK244 := n2_
          have BK245 := n3_
          have HB := n4_
          clear n0_ n1_ n2_ n3_ n4_
          have hHeld : w35.cell? ⟨gb244, 0, none⟩ = some (.slice (some ad247) l0_0.length c0_0) ∧ w35.cell? ⟨gb244, 1, none⟩ = some (.int .i64 a0_1) ∧ w35.cell? (ad247.add (a1).toNat) = some (.int .i64 (rd l0_0 a1)) := hS_
          obtain ⟨Ao36, co36, eo36⟩ := Kd.R_slice HO258.out
          (first | subst eo36 | (injection eo36 with f1_ f2_ f3_; have f4_ := f1_.symm; have f5_ := f3_.symm; clear f1_ f2_ f3_; subst f4_; subst f5_))
          refine norm_ (a' := ?_) ?_ ?_
          rotate_left
          ·
           simp only [putAll, Act.put, sA, sZ, sU]
           rfl
          refine one_ (i := 15) (N := some 8) #[true, true, true, true, true, true, true, true, true, true, true, true, true, true, true, true, false] rfl rfl (one_of HT_.out (by kernel_rfl)) (by decide) (fun K hK => ?_)
          refine box_step ?hg (N := 8) ?hd (cs := #[.slice none 0 0, .int .i64 0]) (t := 26) ?hr ?_; (case hd => rfl); (case hg => rfl); (case hr => first | (go_simp; done) | (go_simp; rfl))
          intro gb259 hg w37 hbox hb
          have n0_ := aM (Kd.R_below (by (with_reducible repeat (first | apply rA | apply rN | apply rD)); exact HO255.out) hb)
          have n1_ := aM (Kd.R_below (by (with_reducible repeat (first | apply rA | apply rN | apply rD)); exact HO258.out) hb)
          have n2_ := aM (bB (g := gb244) (o := .cells #[.slice (some ad247) l0_0.length c0_0, .int .i64 a0_1] 26 (0, 0)) (by (with_reducible repeat (first | refine bN ?_ _ | refine bD ?_ | refine bA ?_ _)); exact BK244.out) hb)
          have n3_ := aM (bB (g := gb245) (o := .cells #[.slice none 0 0, .int .i64 0] 26 (0, 0)) (by (with_reducible repeat (first | refine bN ?_ _ | refine bD ?_ | refine bA ?_ _)); exact BK245.out) hb)
          have n4_ := aM (below_step (by repeat (first | (with_reducible first | exact HB.out | apply eA | apply eN | apply eD | refine eS ?_ GE244.out | refine eS ?_ GE245.out) | exact HB.out)) hb)
          have n5_ := aM (hbox)
          have n6_ := aM ((by rw [hg]; exact (below_size (by repeat (first | (with_reducible first | exact HB.out | apply eA | apply eN | apply eD | refine eS ?_ GE244.out | refine eS ?_ GE245.out) | exact HB.out))) : w.heap.size ≤ gb259))
          have n7_ := aM ((by rw [hg]; exact (below_size (by repeat (first | (with_reducible first | exact HB.out | apply eA | apply eN | apply eD | refine eS ?_ GE244.out | refine eS ?_ GE245.out) | exact HB.out))) : w.heap.size ≤ gb259))
          have n8_ := aM ((by rw [hg]; exact Nat.ne_of_lt (blk_lt (g := gb244) (o := .cells #[.slice (some ad247) l0_0.length c0_0, .int .i64 a0_1] 26 (0, 0)) (by (with_reducible repeat (first | refine bN ?_ _ | refine bD ?_ | refine bA ?_ _)); exact BK244.out)) : gb244 ≠ gb259))
          have n9_ := aM ((by rw [hg]; exact Nat.ne_of_gt (blk_lt (g := gb244) (o := .cells #[.slice (some ad247) l0_0.length c0_0, .int .i64 a0_1] 26 (0, 0)) (by (with_reducible repeat (first | refine bN ?_ _ | refine bD ?_ | refine bA ?_ _)); exact BK244.out)) : gb259 ≠ gb244))
          have n10_ := aM ((by rw [hg]; exact Nat.ne_of_lt (blk_lt (g := gb245) (o := .cells #[.slice none 0 0, .int .i64 0] 26 (0, 0)) (by (with_reducible repeat (first | refine bN ?_ _ | refine bD ?_ | refine bA ?_ _)); exact BK245.out)) : gb245 ≠ gb259))
          have n11_ := aM ((by rw [hg]; exact Nat.ne_of_gt (blk_lt (g := gb245) (o := .cells #[.slice none 0 0, .int .i64 0] 26 (0, 0)) (by (with_reducible repeat (first | refine bN ?_ _ | refine bD ?_ | refine bA ?_ _)); exact BK245.out)) : gb259 ≠ gb245))
          clear HO255 HO258 BK244 BK245 HB
          have HO255 := n0_
          have HO258 := n1_
          have BK244 := n2_
          have BK245 := n3_
          have HB := n4_
          have BK259 := n5_
          have GW259 := n6_
          have GE259 := n7_
          have NB244_259 := n8_
          have NB259_244 := n9_
          have NB245_259 := n10_
          have NB259_245 := n11_
          clear n0_ n1_ n2_ n3_ n4_ n5_ n6_ n7_ n8_ n9_ n10_ n11_ hb hbox hg
          refine hK.out _ _ ⟨(bC BK244.out 0).trans rfl, (bC BK244.out 1).trans rfl, ((HB.out.cell (World.block_lt_of_cell? w _ hw252_0)).trans hw252_0)⟩ (fun hHeld => ?_)
          clear hK K
          refine norm_ (a' := ?_) ?_ ?_
          rotate_left
          ·
           show Act.put _ (some 8) _ = _
           simp only [Act.put, sA, sZ, sU, i64_w, i32_w]
           rfl
          exact norm_ (by first | (simp only [putAll, Act.put, sA, sZ, sU]; done) | (simp only [putAll, Act.put, sA, sZ, sU]; rfl)) (hJ2_10_11_15 (_, _, .slice Ao36 y256.length co36, gb259) _ ⟨hHeld, (by (with_reducible repeat (first | apply rA | apply rN | apply rD)); exact HO255.out), (by (with_reducible repeat (first | apply rA | apply rN | apply rD)); exact HO258.out), (by (with_reducible repeat (first | refine bN ?_ _ | refine bD ?_ | refine bA ?_ _)); exact BK244.out), (by (with_reducible repeat (first | refine bN ?_ _ | refine bD ?_ | refine bA ?_ _)); exact BK245.out), (by (with_reducible repeat (first | refine bN ?_ _ | refine bD ?_ | refine bA ?_ _)); exact BK259.out), GW259.out, GE259.out, NB244_259.out, NB259_244.out, NB245_259.out, NB259_245.out, (by repeat (first | (with_reducible first | exact HB.out | apply eA | apply eN | apply eD | refine eS ?_ GE244.out | refine eS ?_ GE245.out | refine eS ?_ GE259.out) | exact HB.out))⟩)
        rintro ⟨v250, v254, v257, gb259⟩ w36 ⟨hS_, h0_, h1_, h2_, h3_, h4_, h5_, h6_, h7_, h8_, h9_, h10_, h11_⟩
        have n0_ : Aside0 (Kd.R (Kd.int .i64) 3 w36 w.heap.size (fun k_ => some k_ ≠ (v257 : Value).ownBlock) v254 y253) := ⟨h0_⟩
        have n1_ : Aside0 (Kd.R (Kd.int .i64) 3 w36 w.heap.size (fun k_ => some k_ ≠ (v254 : Value).ownBlock) v257 y256) := ⟨h1_⟩
        have n2_ : Aside0 (w36.heap[gb244]? = some (.cells #[.slice (some ad247) l0_0.length c0_0, .int .i64 a0_1] 26 (0, 0))) := ⟨h2_⟩
        have n3_ : Aside0 (w36.heap[gb245]? = some (.cells #[.slice none 0 0, .int .i64 0] 26 (0, 0))) := ⟨h3_⟩
        have n4_ : Aside0 (w36.heap[gb259]? = some (.cells #[.slice none 0 0, .int .i64 0] 26 (0, 0))) := ⟨h4_⟩
        have n5_ : Aside0 (w.heap.size ≤ gb259) := ⟨h5_⟩
        have n6_ : Aside0 (w.heap.size ≤ gb259) := ⟨h6_⟩
        have n7_ : Aside0 (gb244 ≠ gb259) := ⟨h7_⟩
        have n8_ : Aside0 (gb259 ≠ gb244) := ⟨h8_⟩
        have n9_ : Aside0 (gb245 ≠ gb259) := ⟨h9_⟩
        have n10_ : Aside0 (gb259 ≠ gb245) := ⟨h10_⟩
        have n11_ : Aside0 (Below w.heap.size w w36) := ⟨h11_⟩
        clear BK244 BK245 HB h0_ h1_ h2_ h3_ h4_ h5_ h6_ h7_ h8_ h9_ h10_ h11_
        have HO255 := n0_
        have HO258 := n1_
        have BK244 := n2_
        have BK245 := n3_
        have BK259 := n4_
        have GW259 := n5_
        have GE259 := n6_
        have NB244_259 := n7_
        have NB259_244 := n8_
        have NB245_259 := n9_
        have NB259_245 := n10_
        have HB := n11_
        clear n0_ n1_ n2_ n3_ n4_ n5_ n6_ n7_ n8_ n9_ n10_ n11_
        have hHeld : w36.cell? ⟨gb244, 0, none⟩ = some (.slice (some ad247) l0_0.length c0_0) ∧ w36.cell? ⟨gb244, 1, none⟩ = some (.int .i64 a0_1) ∧ w36.cell? (ad247.add (a1).toNat) = some (.int .i64 (rd l0_0 a1)) := hS_
        obtain ⟨Ao37, co37, eo37⟩ := Kd.R_slice HO258.out
        (first | subst eo37 | (injection eo37 with f1_ f2_ f3_; have f4_ := f1_.symm; have f5_ := f3_.symm; clear f1_ f2_ f3_; subst f4_; subst f5_))
        refine norm_ (a' := ?_) ?_ ?_
        rotate_left
        ·
         simp only [putAll, Act.put, sA, sZ, sU]
         rfl
        refine one_ (i := 16) (N := none) #[true, true, true, true, true, true, true, true, true, true, true, true, true, true, true, true, true] rfl rfl (one_of HT_.out (by kernel_rfl)) (by decide) (fun K hK => ?_)
        have hs38 : w36.cell? ⟨gb259, 0, none⟩ = some (.slice none 0 0) := (bC BK259.out 0).trans rfl
        have hfs38 := bF BK259.out 0
        have hns38_0 := NB244_259.out
        have hns38_1 := NB245_259.out
        have hms38_0 := NB259_244.out
        have hms38_1 := NB259_245.out
        have hs39 : w36.cell? ⟨gb259, 1, none⟩ = some (.int .i64 0) := (bC BK259.out 1).trans rfl
        have hfs39 := bF BK259.out 1
        have hns39_0 := NB244_259.out
        have hns39_1 := NB245_259.out
        have hms39_0 := NB259_244.out
        have hms39_1 := NB259_245.out
        refine skip_ (w1 := ?_) (by rfl) rfl ?_ ?_
        rotate_left
        ·
         go_simp
         rfl
        refine hK.out _ _ ⟨((cell_far (p := ⟨gb259, _, none⟩) NB244_259.out _).trans (((cell_far (p := ⟨gb259, _, none⟩) NB244_259.out _).trans (hHeld.1)))), ((cell_far (p := ⟨gb259, _, none⟩) NB244_259.out _).trans (((cell_far (p := ⟨gb259, _, none⟩) NB244_259.out _).trans (hHeld.2.1)))), ((cell_far (p := ⟨gb259, _, none⟩) (by first | exact Nat.ne_of_lt (Nat.lt_of_lt_of_le (by have := World.block_lt_of_cell? _ _ hw252_0; first | rwa [add_block] at this | exact this) GW259.out) | (rw [add_block]; exact Nat.ne_of_lt (Nat.lt_of_lt_of_le (by have := World.block_lt_of_cell? _ _ hw252_0; first | rwa [add_block] at this | exact this) GW259.out)) | (show (Addr.add _ _).block ≠ _; rw [add_block]; exact Nat.ne_of_lt (Nat.lt_of_lt_of_le (by have := World.block_lt_of_cell? _ _ hw252_0; first | rwa [add_block] at this | exact this) GW259.out)) | (dsimp only; exact Nat.ne_of_lt (Nat.lt_of_lt_of_le (by have := World.block_lt_of_cell? _ _ hw252_0; first | rwa [add_block] at this | exact this) GW259.out))) _).trans (((cell_far (p := ⟨gb259, _, none⟩) (by first | exact Nat.ne_of_lt (Nat.lt_of_lt_of_le (by have := World.block_lt_of_cell? _ _ hw252_0; first | rwa [add_block] at this | exact this) GW259.out) | (rw [add_block]; exact Nat.ne_of_lt (Nat.lt_of_lt_of_le (by have := World.block_lt_of_cell? _ _ hw252_0; first | rwa [add_block] at this | exact this) GW259.out)) | (show (Addr.add _ _).block ≠ _; rw [add_block]; exact Nat.ne_of_lt (Nat.lt_of_lt_of_le (by have := World.block_lt_of_cell? _ _ hw252_0; first | rwa [add_block] at this | exact this) GW259.out)) | (dsimp only; exact Nat.ne_of_lt (Nat.lt_of_lt_of_le (by have := World.block_lt_of_cell? _ _ hw252_0; first | rwa [add_block] at this | exact this) GW259.out))) _).trans (hHeld.2.2))))⟩ (fun hHeld => ?_)
        clear hK K
        refine done_ (done_of HT_.out (by kernel_rfl)) ?_
        have n0_ : Aside0 (Kd.R (Kd.int .i64) 3 ((w36.setCell ⟨gb259, 0, none⟩ (.slice Ao37 y256.length co37)).setCell ⟨gb259, 1, none⟩ (.int .i64 a0_1)) w.heap.size (fun k_ => some k_ ≠ (.slice Ao37 y256.length co37 : Value).ownBlock) v254 y253) := ⟨by (with_reducible repeat (first | apply rA | apply rN | apply rD)); exact rM (Kd.R_far (p := ⟨gb259, 1, none⟩) (Kd.R_far (p := ⟨gb259, 0, none⟩) (Kd.R_types HO255.out BK259.out (by decide)) (fun _ hk => hk.2) (.slice Ao37 y256.length co37)) (fun _ hk => hk.2) (.int .i64 a0_1)) (fun _ hk => hk.1)⟩
        have n1_ : Aside0 (Kd.R (Kd.int .i64) 3 ((w36.setCell ⟨gb259, 0, none⟩ (.slice Ao37 y256.length co37)).setCell ⟨gb259, 1, none⟩ (.int .i64 a0_1)) w.heap.size (fun k_ => some k_ ≠ (v254 : Value).ownBlock) (.slice Ao37 y256.length co37) y256) := ⟨by (with_reducible repeat (first | apply rA | apply rN | apply rD)); exact rM (Kd.R_far (p := ⟨gb259, 1, none⟩) (Kd.R_far (p := ⟨gb259, 0, none⟩) (Kd.R_types HO258.out BK259.out (by decide)) (fun _ hk => hk.2) (.slice Ao37 y256.length co37)) (fun _ hk => hk.2) (.int .i64 a0_1)) (fun _ hk => hk.1)⟩
        have n2_ : Aside0 (((w36.setCell ⟨gb259, 0, none⟩ (.slice Ao37 y256.length co37)).setCell ⟨gb259, 1, none⟩ (.int .i64 a0_1)).heap[gb244]? = some (.cells #[.slice (some ad247) l0_0.length c0_0, .int .i64 a0_1] 26 (0, 0))) := ⟨by (with_reducible repeat (first | refine bN ?_ _ | refine bD ?_ | refine bA ?_ _)); refine blk_far ?_ NB244_259.out _; (with_reducible repeat (first | refine bN ?_ _ | refine bD ?_ | refine bA ?_ _)); refine blk_far ?_ NB244_259.out _; (with_reducible repeat (first | refine bN ?_ _ | refine bD ?_ | refine bA ?_ _)); exact BK244.out⟩
        have n3_ : Aside0 (((w36.setCell ⟨gb259, 0, none⟩ (.slice Ao37 y256.length co37)).setCell ⟨gb259, 1, none⟩ (.int .i64 a0_1)).heap[gb245]? = some (.cells #[.slice none 0 0, .int .i64 0] 26 (0, 0))) := ⟨by (with_reducible repeat (first | refine bN ?_ _ | refine bD ?_ | refine bA ?_ _)); refine blk_far ?_ NB245_259.out _; (with_reducible repeat (first | refine bN ?_ _ | refine bD ?_ | refine bA ?_ _)); refine blk_far ?_ NB245_259.out _; (with_reducible repeat (first | refine bN ?_ _ | refine bD ?_ | refine bA ?_ _)); exact BK245.out⟩
        have n4_ : Aside0 (((w36.setCell ⟨gb259, 0, none⟩ (.slice Ao37 y256.length co37)).setCell ⟨gb259, 1, none⟩ (.int .i64 a0_1)).heap[gb259]? = some (.cells #[.slice Ao37 y256.length co37, .int .i64 a0_1] 26 (0, 0))) := ⟨by (with_reducible repeat (first | refine bN ?_ _ | refine bD ?_ | refine bA ?_ _)); refine blk_put (cs := #[.slice Ao37 y256.length co37, .int .i64 0]) ?_ 1 _ rfl; (with_reducible repeat (first | refine bN ?_ _ | refine bD ?_ | refine bA ?_ _)); refine blk_put (cs := #[.slice none 0 0, .int .i64 0]) ?_ 0 _ rfl; (with_reducible repeat (first | refine bN ?_ _ | refine bD ?_ | refine bA ?_ _)); exact BK259.out⟩
        have n5_ : Aside0 (Below w.heap.size w ((w36.setCell ⟨gb259, 0, none⟩ (.slice Ao37 y256.length co37)).setCell ⟨gb259, 1, none⟩ (.int .i64 a0_1))) := ⟨by repeat (first | (with_reducible first | exact HB.out | apply eA | apply eN | apply eD | refine eS ?_ GE244.out | refine eS ?_ GE245.out | refine eS ?_ GE259.out) | exact HB.out)⟩
        (try clear HO255)
        (try clear HO258)
        (try clear BK244)
        (try clear BK245)
        (try clear BK259)
        (try clear HB)
        generalize ((w36.setCell ⟨gb259, 0, none⟩ (.slice Ao37 y256.length co37)).setCell ⟨gb259, 1, none⟩ (.int .i64 a0_1)) = w40 at n0_ n1_ n2_ n3_ n4_ n5_ ⊢
        have HO255 := n0_
        have HO258 := n1_
        have BK244 := n2_
        have BK245 := n3_
        have BK259 := n4_
        have HB := n5_
        clear n0_ n1_ n2_ n3_ n4_ n5_
        have hnb41 := NB259_244.out
        have hnc41 := NB244_259.out
        have hnb42 := NB259_245.out
        have hnc42 := NB245_259.out
        have hcz43_0 : w40.cell? ⟨gb259, 0, none⟩ = some (.slice Ao37 y256.length co37) := (bC BK259.out 0).trans rfl
        have hcz43_1 : w40.cell? ⟨gb259, 1, none⟩ = some (.int .i64 a0_1) := (bC BK259.out 1).trans rfl
        have hfz43_0 := bF BK259.out 0
        have hfz43_1 := bF BK259.out 1
        have p21 : 0 ≤ (a1 : Int) := of_decide_eq_true (by first | (with_reducible assumption) | assumption)
        have q21 : (a1 : Int) < ((y256.length : Int) : Int) := of_decide_eq_true (by first | (with_reducible assumption) | assumption)
        obtain ⟨go21, co21, eo21, gb21, gl21, cl21, HG21⟩ := Kd.R_form HO258.out (by omega)
        (first | cases eo21 | (injection eo21 with ea_ en_ ec_; (first | subst ea_ | (injection ea_ with ea_; subst ea_)); subst ec_; clear en_))
        have GB21 := aM gb21
        have GG21 := aM HG21
        clear gb21 gl21 HG21
        obtain ⟨hx21_0, hf21_0⟩ := Kd.R_celln 0 HO258.out (a1 : Int) p21 q21
        replace p21 := eq_true p21
        replace q21 := eq_true q21
        obtain ⟨hy44_, hz44_⟩ := Kd.R_celln 0 HO258.out (a1 : Int) (of_decide_eq_true (by first | (with_reducible assumption) | assumption)) (of_decide_eq_true (by first | (with_reducible assumption) | assumption))
        have HP44 := Kd.R_putg HO258.out (a1 : Int) a2
        try go_wp2_with (first | ((with_reducible refine gate_store (t := 3) (p := 49) rfl ?_); refine store_event (t := 3) (p := 49) (v := ?vo_w45) (w1 := (w40.setCell ⟨go21, (a1 : Int).toNat, none⟩ (.int .i64 a2))) ?hg ?ho ?hn ?hr ?_; (case ho => rfl); (case hg => rfl); (case hn => rfl); (case hr => first | (go_simp; done) | (go_simp; rfl)); intro w45 hw; have hg : w40.grownBy w45 (some go21) := (by rw [hw]; exact HP44.2); have hp_ : Kd.R (Kd.int .i64) 3 w45 w.heap.size (fun k_ => some k_ ≠ (v254 : Value).ownBlock) (.slice (some ⟨go21, 0, none⟩) y256.length co37) y260 := (by rw [hw, Ny260.out]; exact HP44.1); clear HP44; have n0_ := aM (blk_grown (g := gb244) (o := .cells #[.slice (some ad247) l0_0.length c0_0, .int .i64 a0_1] 26 (0, 0)) (by (with_reducible repeat (first | refine bN ?_ _ | refine bD ?_ | refine bA ?_ _)); exact BK244.out) hg (Kd.R_ne HO258.out BK244.out (by decide))); have n1_ := aM (blk_grown (g := gb245) (o := .cells #[.slice none 0 0, .int .i64 0] 26 (0, 0)) (by (with_reducible repeat (first | refine bN ?_ _ | refine bD ?_ | refine bA ?_ _)); exact BK245.out) hg (Kd.R_ne HO258.out BK245.out (by decide))); have n2_ := aM (Kd.R_after (v := (.slice (some ⟨go21, 0, none⟩) y256.length co37)) (v1 := (.slice (some ⟨go21, 0, none⟩) y256.length co37)) (ok := (fun _ => True)) (by (with_reducible repeat (first | apply rA | apply rN | apply rD)); exact rM HO255.out (fun _ hk => ⟨trivial, hk⟩)) hg (.inl rfl)); have n3_ := aM (hp_); have n4_ := aM (blk_grown (g := gb259) (o := .cells #[.slice (some ⟨go21, 0, none⟩) y256.length co37, .int .i64 a0_1] 26 (0, 0)) (by (with_reducible repeat (first | refine bN ?_ _ | refine bD ?_ | refine bA ?_ _)); exact BK259.out) hg (Kd.R_ne HO258.out BK259.out (by decide))); have n5_ := aM ((by rw [hw]; exact eS (HB.out) GB21.out : Below w.heap.size w w45)); clear BK244; clear BK245; clear HO255; clear HO258; clear BK259; clear HB; have BK244 := n0_; have BK245 := n1_; have HO255 := n2_; have HO258 := n3_; have BK259 := n4_; have HB := n5_; clear n0_ n1_ n2_ n3_ n4_ n5_; clear hg hw hp_; have hcz46_0 : w45.cell? ⟨gb259, 0, none⟩ = some (.slice (some ⟨go21, 0, none⟩) y256.length co37) := (bC BK259.out 0).trans rfl; have hcz46_1 : w45.cell? ⟨gb259, 1, none⟩ = some (.int .i64 a0_1) := (bC BK259.out 1).trans rfl; have hfz46_0 := bF BK259.out 0; have hfz46_1 := bF BK259.out 1; have hcz47_0 : w45.cell? ⟨gb245, 0, none⟩ = some (.slice none 0 0) := (bC BK245.out 0).trans rfl; have hcz47_1 : w45.cell? ⟨gb245, 1, none⟩ = some (.int .i64 0) := (bC BK245.out 1).trans rfl; have hfz47_0 := bF BK245.out 0; have hfz47_1 := bF BK245.out 1))
        refine bodyPost_ret (results_ct rfl _ _ gb245 26 #[.slice (some ⟨go21, 0, none⟩) y256.length co37, .int .i64 a0_1] (0, 0) _ rfl (by (with_reducible repeat (first | refine bN ?_ _ | refine bD ?_ | refine bA ?_ _)); refine blk_put (cs := #[.slice (some ⟨go21, 0, none⟩) y256.length co37, .int .i64 0]) ?_ 1 _ rfl; (with_reducible repeat (first | refine bN ?_ _ | refine bD ?_ | refine bA ?_ _)); refine blk_put (cs := #[.slice none 0 0, .int .i64 0]) ?_ 0 _ rfl; (with_reducible repeat (first | refine bN ?_ _ | refine bD ?_ | refine bA ?_ _)); exact BK245.out) Try.underlying26 rfl (by kernel_rfl)) rfl ?_
        exact ⟨_, by first | rfl | (simp [errW_none, errW_some] <;> rfl) | (simp [*, errW_none, errW_some] <;> rfl), by (with_reducible repeat (first | apply rA | apply rN | apply rD)); exact rM (Kd.R_far (p := ⟨gb245, 1, none⟩) (Kd.R_far (p := ⟨gb245, 0, none⟩) (Kd.R_types HO258.out BK245.out (by decide)) (fun _ hk => hk.2) (.slice (some ⟨go21, 0, none⟩) y256.length co37)) (fun _ hk => hk.2) (.int .i64 a0_1)) (fun _ hk => trivial), by repeat (first | (with_reducible first | exact HB.out | apply eA | apply eN | apply eD | refine eS ?_ GE244.out | refine eS ?_ GE245.out | refine eS ?_ GE259.out) | exact HB.out)⟩
       ·
        rw [if_neg c20] at H
        exact absurd H (by simp)
      ·
       rw [if_neg c19] at H
       exact absurd H (by simp)
    ·
     replace c9 := Bool.eq_false_iff.mpr c9
     subst c9
     have H1 : (some (([] : List Int), 0, false)) = some (r1, r2, r3) := by rw [if_neg (show ¬ (false = true) by decide)] at H; exact H
     clear H
     have H := H1
     clear H1
     simp only [Option.some.injEq, Prod.mk.injEq] at H
     obtain ⟨rfl, rfl, rfl⟩ := H
     go_enter Try.func10, Try.ntmps10
     go_wp2_with (first | ((with_reducible refine gate_dst (N := 3) rfl ?_); (try (refine gate_guard (by rfl) ?_; dsimp only)); refine box_event ?hg (N := 3) ?hd (cs := #[.slice A0_0 l0_0.length c0_0, .int .i64 a0_1]) (t := 26) ?hr ?_; (case hd => rfl); (case hg => rfl); (case hr => first | (go_simp; done) | (go_simp; rfl)); intro gb244 hg w48 hbox hb; have n0_ := aM (below_step (by repeat (first | (with_reducible first | exact HB.out | apply eA | apply eN | apply eD) | exact HB.out)) hb); have n1_ := aM (hbox); have n2_ := aM ((by rw [hg]; exact (below_size (by repeat (first | (with_reducible first | exact HB.out | apply eA | apply eN | apply eD) | exact HB.out))) : w.heap.size ≤ gb244)); have n3_ := aM ((by rw [hg]; exact (below_size (by repeat (first | (with_reducible first | exact HB.out | apply eA | apply eN | apply eD) | exact HB.out))) : w.heap.size ≤ gb244)); clear HB; have HB := n0_; have BK244 := n1_; have GW244 := n2_; have GE244 := n3_; clear n0_ n1_ n2_ n3_; clear hb hbox hg) | ((with_reducible refine gate_dst (N := 6) rfl ?_); (try (refine gate_guard (by rfl) ?_; dsimp only)); refine box_event ?hg (N := 6) ?hd (cs := #[.slice none 0 0, .int .i64 0]) (t := 26) ?hr ?_; (case hd => rfl); (case hg => rfl); (case hr => first | (go_simp; done) | (go_simp; rfl)); intro gb245 hg w49 hbox hb; have n0_ := aM (bB (g := gb244) (o := .cells #[.slice A0_0 l0_0.length c0_0, .int .i64 a0_1] 26 (0, 0)) (by (with_reducible repeat (first | refine bN ?_ _ | refine bD ?_ | refine bA ?_ _)); exact BK244.out) hb); have n1_ := aM (below_step (by repeat (first | (with_reducible first | exact HB.out | apply eA | apply eN | apply eD | refine eS ?_ GE244.out) | exact HB.out)) hb); have n2_ := aM (hbox); have n3_ := aM ((by rw [hg]; exact (below_size (by repeat (first | (with_reducible first | exact HB.out | apply eA | apply eN | apply eD | refine eS ?_ GE244.out) | exact HB.out))) : w.heap.size ≤ gb245)); have n4_ := aM ((by rw [hg]; exact (below_size (by repeat (first | (with_reducible first | exact HB.out | apply eA | apply eN | apply eD | refine eS ?_ GE244.out) | exact HB.out))) : w.heap.size ≤ gb245)); have n5_ := aM ((by rw [hg]; exact Nat.ne_of_lt (blk_lt (g := gb244) (o := .cells #[.slice A0_0 l0_0.length c0_0, .int .i64 a0_1] 26 (0, 0)) (by (with_reducible repeat (first | refine bN ?_ _ | refine bD ?_ | refine bA ?_ _)); exact BK244.out)) : gb244 ≠ gb245)); have n6_ := aM ((by rw [hg]; exact Nat.ne_of_gt (blk_lt (g := gb244) (o := .cells #[.slice A0_0 l0_0.length c0_0, .int .i64 a0_1] 26 (0, 0)) (by (with_reducible repeat (first | refine bN ?_ _ | refine bD ?_ | refine bA ?_ _)); exact BK244.out)) : gb245 ≠ gb244)); clear BK244; clear HB; have BK244 := n0_; have HB := n1_; have BK245 := n2_; have GW245 := n3_; have GE245 := n4_; have NB244_245 := n5_; have NB245_244 := n6_; clear n0_ n1_ n2_ n3_ n4_ n5_ n6_; clear hb hbox hg; have hnb50 := NB244_245.out; have hnc50 := NB245_244.out; have hcz51_0 : w49.cell? ⟨gb244, 0, none⟩ = some (.slice A0_0 l0_0.length c0_0) := (bC BK244.out 0).trans rfl; have hcz51_1 : w49.cell? ⟨gb244, 1, none⟩ = some (.int .i64 a0_1) := (bC BK244.out 1).trans rfl; have hfz51_0 := bF BK244.out 0; have hfz51_1 := bF BK244.out 1) | ((with_reducible refine gate_callee (f := 52) rfl ?_); refine goesL_ (some 11) rfl rfl Try.func52 (by kernel_rfl) rfl #[.agg #[.slice A0_0 l0_0.length c0_0, .int .i64 a0_1], .int .i64 a1] rfl (by (try simp only [List.map_toArray, List.map_cons, List.map_nil]); first | done | rfl | (simp only [List.length_drop, List.length_take]; rfl)) ?_; (with_reducible refine (spec_l6Voter.calls k _ _ l0_0 a0_1 a1 true _ ?side1 ?side2 A4.out).mono ?_); (case side1 => repeat (first | exact (Kd.C_below HR0_0.out HB.out) | (with_reducible refine Kd.C_alloc ?_ _) | (with_reducible refine Kd.C_drewN ?_ _) | (with_reducible refine Kd.C_drew ?_))); (case side2 => exact HC0_0.out); rintro e w52 ⟨rfl, hb⟩; refine ⟨_, rfl, ?_⟩; have n0_ := aM (bB (g := gb244) (o := .cells #[.slice A0_0 l0_0.length c0_0, .int .i64 a0_1] 26 (0, 0)) (by (with_reducible repeat (first | refine bN ?_ _ | refine bD ?_ | refine bA ?_ _)); exact BK244.out) hb); have n1_ := aM (bB (g := gb245) (o := .cells #[.slice none 0 0, .int .i64 0] 26 (0, 0)) (by (with_reducible repeat (first | refine bN ?_ _ | refine bD ?_ | refine bA ?_ _)); exact BK245.out) hb); have n2_ := aM (below_step (by repeat (first | (with_reducible first | exact HB.out | apply eA | apply eN | apply eD | refine eS ?_ GE244.out | refine eS ?_ GE245.out) | exact HB.out)) hb); clear BK244; clear BK245; clear HB; have BK244 := n0_; have BK245 := n1_; have HB := n2_; clear n0_ n1_ n2_; (try clear hb); (try clear hb2); (try clear hk); (try clear hi); have hcz53_0 : w52.cell? ⟨gb244, 0, none⟩ = some (.slice A0_0 l0_0.length c0_0) := (bC BK244.out 0).trans rfl; have hcz53_1 : w52.cell? ⟨gb244, 1, none⟩ = some (.int .i64 a0_1) := (bC BK244.out 1).trans rfl; have hfz53_0 := bF BK244.out 0; have hfz53_1 := bF BK244.out 1; have p247 : 0 ≤ (a1 : Int) := of_decide_eq_true (by first | (with_reducible assumption) | assumption); have q247 : a1 < (l0_0.length : Int) := of_decide_eq_true (by first | (with_reducible assumption) | assumption); obtain ⟨ad247, e247, hx247_0⟩ := Kd.at_int HR0_0.out a1 p247 q247; cases e247; replace hx247_0 := (HB.out.cell (World.block_lt_of_cell? w _ hx247_0)).trans hx247_0; replace p247 := eq_true p247; replace q247 := eq_true q247) | (go_at_call 53; (with_reducible refine (spec_l1In.calls a2 0 (rd l0_0 a1) false _ A8.out).mono ?_); rintro e w' ⟨rfl, ⟨nd, rfl⟩⟩; (try (rw [drewN_self w52]; generalize hq_ : World.drewN w52 _ = w52; have n0_ : Aside0 (w52.heap[gb244]? = some (.cells #[.slice (some ad247) l0_0.length c0_0, .int .i64 a0_1] 26 (0, 0))) := ⟨by rw [← hq_]; exact (by (with_reducible repeat (first | refine bN ?_ _ | refine bD ?_ | refine bA ?_ _)); exact BK244.out)⟩; have n1_ : Aside0 (w52.heap[gb245]? = some (.cells #[.slice none 0 0, .int .i64 0] 26 (0, 0))) := ⟨by rw [← hq_]; exact (by (with_reducible repeat (first | refine bN ?_ _ | refine bD ?_ | refine bA ?_ _)); exact BK245.out)⟩; have n2_ : Aside0 (Below w.heap.size w w52) := ⟨by rw [← hq_]; exact (by repeat (first | (with_reducible first | exact HB.out | apply eA | apply eN | apply eD | refine eS ?_ GE244.out | refine eS ?_ GE245.out) | exact HB.out))⟩; clear BK244 BK245 HB hq_; have BK244 := n0_; have BK245 := n1_; have HB := n2_; clear n0_ n1_ n2_)); (try (have hcy244_0 := (bC BK244.out 0).trans rfl)); (try (have hfy244_0 := bF BK244.out 0)); (try (have hcy244_1 := (bC BK244.out 1).trans rfl)); (try (have hfy244_1 := bF BK244.out 1)); have hcz54_0 : w52.cell? ⟨gb245, 0, none⟩ = some (.slice none 0 0) := (bC BK245.out 0).trans rfl; have hcz54_1 : w52.cell? ⟨gb245, 1, none⟩ = some (.int .i64 0) := (bC BK245.out 1).trans rfl; have hfz54_0 := bF BK245.out 0; have hfz54_1 := bF BK245.out 1))
     refine bodyPost_ret (results_ct rfl _ _ gb245 26 #[.slice none 0 0, .int .i64 0] (0, 0) _ rfl (by (with_reducible repeat (first | refine bN ?_ _ | refine bD ?_ | refine bA ?_ _)); refine blk_put (cs := #[.slice none 0 0, .int .i64 0]) ?_ 1 _ rfl; (with_reducible repeat (first | refine bN ?_ _ | refine bD ?_ | refine bA ?_ _)); refine blk_put (cs := #[.slice none 0 0, .int .i64 0]) ?_ 0 _ rfl; (with_reducible repeat (first | refine bN ?_ _ | refine bD ?_ | refine bA ?_ _)); exact BK245.out) Try.underlying26 rfl (by kernel_rfl)) rfl ?_
     exact ⟨_, by first | rfl | (simp [errW_none, errW_some] <;> rfl) | (simp [*, errW_none, errW_some] <;> rfl), by first | exact Kd.R_nil _ _ _ _ _ | exact Kd.N_nil _ _ _ _ _ | exact Kd.V_nil _ _ _ _ _ | exact Kd.Q_nil _ _ _ _ _ | exact Kd.S_nil _ _ _ _ _, by repeat (first | (with_reducible first | exact HB.out | apply eA | apply eN | apply eD | refine eS ?_ GE244.out | refine eS ?_ GE245.out) | exact HB.out)⟩
   ·
    rw [if_neg c7] at H
    exact absurd H (by simp)
  ·
   rw [if_neg c6] at H
   exact absurd H (by simp)
 ·
  replace c5 := Bool.eq_false_iff.mpr c5
  subst c5
  have H1 : (some (([] : List Int), 0, false)) = some (r1, r2, r3) := by rw [if_neg (show ¬ (false = true) by decide)] at H; exact H
  clear H
  have H := H1
  clear H1
  simp only [Option.some.injEq, Prod.mk.injEq] at H
  obtain ⟨rfl, rfl, rfl⟩ := H
  go_enter Try.func10, Try.ntmps10
  go_wp2_with (first | ((with_reducible refine gate_dst (N := 3) rfl ?_); (try (refine gate_guard (by rfl) ?_; dsimp only)); refine box_event ?hg (N := 3) ?hd (cs := #[.slice A0_0 l0_0.length c0_0, .int .i64 a0_1]) (t := 26) ?hr ?_; (case hd => rfl); (case hg => rfl); (case hr => first | (go_simp; done) | (go_simp; rfl)); intro gb244 hg w55 hbox hb; have n0_ := aM (below_step (by repeat (first | (with_reducible first | exact HB.out | apply eA | apply eN | apply eD) | exact HB.out)) hb); have n1_ := aM (hbox); have n2_ := aM ((by rw [hg]; exact (below_size (by repeat (first | (with_reducible first | exact HB.out | apply eA | apply eN | apply eD) | exact HB.out))) : w.heap.size ≤ gb244)); have n3_ := aM ((by rw [hg]; exact (below_size (by repeat (first | (with_reducible first | exact HB.out | apply eA | apply eN | apply eD) | exact HB.out))) : w.heap.size ≤ gb244)); clear HB; have HB := n0_; have BK244 := n1_; have GW244 := n2_; have GE244 := n3_; clear n0_ n1_ n2_ n3_; clear hb hbox hg) | ((with_reducible refine gate_dst (N := 6) rfl ?_); (try (refine gate_guard (by rfl) ?_; dsimp only)); refine box_event ?hg (N := 6) ?hd (cs := #[.slice none 0 0, .int .i64 0]) (t := 26) ?hr ?_; (case hd => rfl); (case hg => rfl); (case hr => first | (go_simp; done) | (go_simp; rfl)); intro gb245 hg w56 hbox hb; have n0_ := aM (bB (g := gb244) (o := .cells #[.slice A0_0 l0_0.length c0_0, .int .i64 a0_1] 26 (0, 0)) (by (with_reducible repeat (first | refine bN ?_ _ | refine bD ?_ | refine bA ?_ _)); exact BK244.out) hb); have n1_ := aM (below_step (by repeat (first | (with_reducible first | exact HB.out | apply eA | apply eN | apply eD | refine eS ?_ GE244.out) | exact HB.out)) hb); have n2_ := aM (hbox); have n3_ := aM ((by rw [hg]; exact (below_size (by repeat (first | (with_reducible first | exact HB.out | apply eA | apply eN | apply eD | refine eS ?_ GE244.out) | exact HB.out))) : w.heap.size ≤ gb245)); have n4_ := aM ((by rw [hg]; exact (below_size (by repeat (first | (with_reducible first | exact HB.out | apply eA | apply eN | apply eD | refine eS ?_ GE244.out) | exact HB.out))) : w.heap.size ≤ gb245)); have n5_ := aM ((by rw [hg]; exact Nat.ne_of_lt (blk_lt (g := gb244) (o := .cells #[.slice A0_0 l0_0.length c0_0, .int .i64 a0_1] 26 (0, 0)) (by (with_reducible repeat (first | refine bN ?_ _ | refine bD ?_ | refine bA ?_ _)); exact BK244.out)) : gb244 ≠ gb245)); have n6_ := aM ((by rw [hg]; exact Nat.ne_of_gt (blk_lt (g := gb244) (o := .cells #[.slice A0_0 l0_0.length c0_0, .int .i64 a0_1] 26 (0, 0)) (by (with_reducible repeat (first | refine bN ?_ _ | refine bD ?_ | refine bA ?_ _)); exact BK244.out)) : gb245 ≠ gb244)); clear BK244; clear HB; have BK244 := n0_; have HB := n1_; have BK245 := n2_; have GW245 := n3_; have GE245 := n4_; have NB244_245 := n5_; have NB245_244 := n6_; clear n0_ n1_ n2_ n3_ n4_ n5_ n6_; clear hb hbox hg; have hnb57 := NB244_245.out; have hnc57 := NB245_244.out; have hcz58_0 : w56.cell? ⟨gb244, 0, none⟩ = some (.slice A0_0 l0_0.length c0_0) := (bC BK244.out 0).trans rfl; have hcz58_1 : w56.cell? ⟨gb244, 1, none⟩ = some (.int .i64 a0_1) := (bC BK244.out 1).trans rfl; have hfz58_0 := bF BK244.out 0; have hfz58_1 := bF BK244.out 1) | ((with_reducible refine gate_callee (f := 52) rfl ?_); refine goesL_ (some 11) rfl rfl Try.func52 (by kernel_rfl) rfl #[.agg #[.slice A0_0 l0_0.length c0_0, .int .i64 a0_1], .int .i64 a1] rfl (by (try simp only [List.map_toArray, List.map_cons, List.map_nil]); first | done | rfl | (simp only [List.length_drop, List.length_take]; rfl)) ?_; (with_reducible refine (spec_l6Voter.calls k _ _ l0_0 a0_1 a1 false _ ?side1 ?side2 A4.out).mono ?_); (case side1 => repeat (first | exact (Kd.C_below HR0_0.out HB.out) | (with_reducible refine Kd.C_alloc ?_ _) | (with_reducible refine Kd.C_drewN ?_ _) | (with_reducible refine Kd.C_drew ?_))); (case side2 => exact HC0_0.out); rintro e w59 ⟨rfl, hb⟩; refine ⟨_, rfl, ?_⟩; have n0_ := aM (bB (g := gb244) (o := .cells #[.slice A0_0 l0_0.length c0_0, .int .i64 a0_1] 26 (0, 0)) (by (with_reducible repeat (first | refine bN ?_ _ | refine bD ?_ | refine bA ?_ _)); exact BK244.out) hb); have n1_ := aM (bB (g := gb245) (o := .cells #[.slice none 0 0, .int .i64 0] 26 (0, 0)) (by (with_reducible repeat (first | refine bN ?_ _ | refine bD ?_ | refine bA ?_ _)); exact BK245.out) hb); have n2_ := aM (below_step (by repeat (first | (with_reducible first | exact HB.out | apply eA | apply eN | apply eD | refine eS ?_ GE244.out | refine eS ?_ GE245.out) | exact HB.out)) hb); clear BK244; clear BK245; clear HB; have BK244 := n0_; have BK245 := n1_; have HB := n2_; clear n0_ n1_ n2_; (try clear hb); (try clear hb2); (try clear hk); (try clear hi); have hcz60_0 : w59.cell? ⟨gb245, 0, none⟩ = some (.slice none 0 0) := (bC BK245.out 0).trans rfl; have hcz60_1 : w59.cell? ⟨gb245, 1, none⟩ = some (.int .i64 0) := (bC BK245.out 1).trans rfl; have hfz60_0 := bF BK245.out 0; have hfz60_1 := bF BK245.out 1))
  refine bodyPost_ret (results_ct rfl _ _ gb245 26 #[.slice none 0 0, .int .i64 0] (0, 0) _ rfl (by (with_reducible repeat (first | refine bN ?_ _ | refine bD ?_ | refine bA ?_ _)); refine blk_put (cs := #[.slice none 0 0, .int .i64 0]) ?_ 1 _ rfl; (with_reducible repeat (first | refine bN ?_ _ | refine bD ?_ | refine bA ?_ _)); refine blk_put (cs := #[.slice none 0 0, .int .i64 0]) ?_ 0 _ rfl; (with_reducible repeat (first | refine bN ?_ _ | refine bD ?_ | refine bA ?_ _)); exact BK245.out) Try.underlying26 rfl (by kernel_rfl)) rfl ?_
  exact ⟨_, by first | rfl | (simp [errW_none, errW_some] <;> rfl) | (simp [*, errW_none, errW_some] <;> rfl), by first | exact Kd.R_nil _ _ _ _ _ | exact Kd.N_nil _ _ _ _ _ | exact Kd.V_nil _ _ _ _ _ | exact Kd.Q_nil _ _ _ _ _ | exact Kd.S_nil _ _ _ _ _, by repeat (first | (with_reducible first | exact HB.out | apply eA | apply eN | apply eD | refine eS ?_ GE244.out | refine eS ?_ GE245.out) | exact HB.out)⟩
end Go.Proofs.Ytoecohjjbgenbaa.PFnVoters
