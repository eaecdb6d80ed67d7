-- Laid for this claim by a program of the session's own (wip/tool/myprint.py).
import Derived.Test.YtoecohjjbgenbaaMFnVotersx0
import Derived.Test.YtoecohjjbgenbaaMFnVotersx3
namespace Go.Proofs.Ytoecohjjbgenbaa.PFnVoters
open Go.RowKit Go.Proofs.YtoecohjjbgenbaaW.PrintWords Go.Proofs.YtoecohjjbgenbaaW.PrintLast Go.Proofs.YtoecohjjbgenbaaW.PrintMore
attribute [local go_sem] max2_int min2_int max_two min_two max_three min_three max_four min_four
set_option linter.unusedVariables false
set_option linter.unusedSimpArgs false
def impl_SplitVoter.f (k : Nat) (l0_0 : List Int) (a0_1 : Int) (a1 : Int) (a2 : Int) : Option (List Int × Int × Bool) := (impl_IsVote.f k l0_0 a0_1).bind fun t213 => (if t213 = true then ((impl_within.f a1 0 (wrap64 ((l0_0.length : Int) - 1))).bind fun t214 => (if t214 = true then (if (l0_0.length : Int) = 8 then (some (([] : List Int), 0, false)) else (if 0 ≤ a1 then (if a1 < (l0_0.length : Int) then ((impl_within.f a2 0 (rd l0_0 a1)).bind fun t216 => (if t216 = true then ((impl_copied.f l0_0).bind fun t217 => ((some (([wrap64 ((rd l0_0 a1) - a2)] : List Int) : List Int)).bind fun y221 => (if t217.length + y221.length < 17592186044416 then ((some (t217 ++ y221 : List Int)).bind fun y224 => (if a1 < (y224.length : Int) then (some ((y224.set (a1 : Int).toNat a2), a0_1, true)) else (none))) else (none)))) else (some (([] : List Int), 0, false)))) else (none)) else (none))) else (some (([] : List Int), 0, false)))) else (some (([] : List Int), 0, false)))
theorem impl_SplitVoter.mono : ∀ a0 a1 a2 a3 k, LeO (impl_SplitVoter.f k a0 a1 a2 a3) (impl_SplitVoter.f (k + 1) a0 a1 a2 a3) := by
 intro a0 a1 a2 a3 k
 unfold impl_SplitVoter.f
 repeat' first
   | (with_reducible exact impl_IsVote.mono _ _ _)
   | (with_reducible exact LeO.refl _)
   | (with_reducible exact LeO.none _)
   | (with_reducible refine LeO.ite ?_ ?_)
   | (with_reducible refine LeO.bind ?_ (fun _ => ?_))
   | exact impl_IsVote.mono _ _ _
   | exact LeO.none _
   | refine LeO.ite ?_ ?_
   | refine LeO.bind ?_ (fun _ => ?_)
def impl_SplitVoter.T4 : Bool × List (List Nat × List Nat) := (true, [([], []), ([0], [0]), ([1], [1]), ([], []), ([3], [3]), ([], []), ([4, 5], [4, 5]), ([6], [6]), ([], []), ([7, 8], [7, 8]), ([9], [9]), ([2, 10, 2], [2, 10]), ([], []), ([12], [12]), ([11, 13], [11, 13]), ([], []), ([15, 14, 11, 0, 1, 2, 3, 4, 5, 6, 7, 8, 9, 10, 11, 12, 13, 14, 15], [14, 15])])
def impl_SplitVoter.B4 : List Nat := [0, 1, 3, 0, 8, 0, 56, 120, 0, 504, 1016, 2047, 0, 4096, 16383, 0, 65535]
theorem impl_SplitVoter.tab4 : rtab .any (opsOf Try.f9 4) = impl_SplitVoter.T4 := by kernel_rfl
theorem impl_SplitVoter.bits4 : waitsOk impl_SplitVoter.T4.2 impl_SplitVoter.B4 = true := by kernel_rfl
set_option maxHeartbeats 8000000 in
set_option maxRecDepth 100000 in
theorem impl_SplitVoter.calls (k : Nat) (A0_0 : Option Addr) (c0_0 : Nat) (l0_0 : List Int) (a0_1 : Int) (a1 : Int) (a2 : Int) (r1 : List Int) (r2 : Int) (r3 : Bool) (w : World) (hr0_0 : Kd.C (Kd.int .i64) w A0_0 l0_0.length l0_0) (hc0_0 : l0_0.length ≤ c0_0) (h : impl_SplitVoter.f k l0_0 a0_1 a1 a2 = some (r1, r2, r3)) :
  Calls Try.prog 9 #[.agg #[.slice A0_0 l0_0.length c0_0, .int .i64 a0_1], .int .i64 a1, .int .i64 a2] w fun e w' => ∃ v0_ : Value, e = .returned (.tuple #[.agg #[v0_, .int .i64 r2], .bool r3]) ∧ Kd.R (Kd.int .i64) 3 w' w.heap.size (fun _ => True) v0_ r1 ∧ Below w.heap.size w w' := by
 have hu26 := Try.underlying26
 have HR0_0 := aM hr0_0
 have HC0_0 := aM hc0_0
 clear hr0_0 hc0_0
 have HB := aM (Below.refl w.heap.size w)
 have H : ((impl_IsVote.f k l0_0 a0_1).bind fun t213 => (if t213 = true then ((impl_within.f a1 0 (wrap64 ((l0_0.length : Int) - 1))).bind fun t214 => (if t214 = true then (if (l0_0.length : Int) = 8 then (some (([] : List Int), 0, false)) else (if 0 ≤ a1 then (if a1 < (l0_0.length : Int) then ((impl_within.f a2 0 (rd l0_0 a1)).bind fun t216 => (if t216 = true then ((impl_copied.f l0_0).bind fun t217 => ((some (([wrap64 ((rd l0_0 a1) - a2)] : List Int) : List Int)).bind fun y221 => (if t217.length + y221.length < 17592186044416 then ((some (t217 ++ y221 : List Int)).bind fun y224 => (if a1 < (y224.length : Int) then (some ((y224.set (a1 : Int).toNat a2), a0_1, true)) else (none))) else (none)))) else (some (([] : List Int), 0, false)))) else (none)) else (none))) else (some (([] : List Int), 0, false)))) else (some (([] : List Int), 0, false)))) = some (r1, r2, r3) := h
 clear h
 replace H := oB.mp H
 obtain ⟨t213, A40, H⟩ := H
 replace H : (if t213 = true then ((impl_within.f a1 0 (wrap64 ((l0_0.length : Int) - 1))).bind fun t214 => (if t214 = true then (if (l0_0.length : Int) = 8 then (some (([] : List Int), 0, false)) else (if 0 ≤ a1 then (if a1 < (l0_0.length : Int) then ((impl_within.f a2 0 (rd l0_0 a1)).bind fun t216 => (if t216 = true then ((impl_copied.f l0_0).bind fun t217 => ((some (([wrap64 ((rd l0_0 a1) - a2)] : List Int) : List Int)).bind fun y221 => (if t217.length + y221.length < 17592186044416 then ((some (t217 ++ y221 : List Int)).bind fun y224 => (if a1 < (y224.length : Int) then (some ((y224.set (a1 : Int).toNat a2), a0_1, true)) else (none))) else (none)))) else (some (([] : List Int), 0, false)))) else (none)) else (none))) else (some (([] : List Int), 0, false)))) else (some (([] : List Int), 0, false))) = some (r1, r2, r3) := H
 have A4 := aM A40
 clear A40
 by_cases c5 : t213 = true
 ·
  subst c5
  have H1 : ((impl_within.f a1 0 (wrap64 ((l0_0.length : Int) - 1))).bind fun t214 => (if t214 = true then (if (l0_0.length : Int) = 8 then (some (([] : List Int), 0, false)) else (if 0 ≤ a1 then (if a1 < (l0_0.length : Int) then ((impl_within.f a2 0 (rd l0_0 a1)).bind fun t216 => (if t216 = true then ((impl_copied.f l0_0).bind fun t217 => ((some (([wrap64 ((rd l0_0 a1) - a2)] : List Int) : List Int)).bind fun y221 => (if t217.length + y221.length < 17592186044416 then ((some (t217 ++ y221 : List Int)).bind fun y224 => (if a1 < (y224.length : Int) then (some ((y224.set (a1 : Int).toNat a2), a0_1, true)) else (none))) else (none)))) else (some (([] : List Int), 0, false)))) else (none)) else (none))) else (some (([] : List Int), 0, false)))) = some (r1, r2, r3) := by rw [if_pos rfl] at H; exact H
  clear H
  have H := H1
  clear H1
  replace H := oB.mp H
  obtain ⟨t214, A60, H⟩ := H
  replace H : (if t214 = true then (if (l0_0.length : Int) = 8 then (some (([] : List Int), 0, false)) else (if 0 ≤ a1 then (if a1 < (l0_0.length : Int) then ((impl_within.f a2 0 (rd l0_0 a1)).bind fun t216 => (if t216 = true then ((impl_copied.f l0_0).bind fun t217 => ((some (([wrap64 ((rd l0_0 a1) - a2)] : List Int) : List Int)).bind fun y221 => (if t217.length + y221.length < 17592186044416 then ((some (t217 ++ y221 : List Int)).bind fun y224 => (if a1 < (y224.length : Int) then (some ((y224.set (a1 : Int).toNat a2), a0_1, true)) else (none))) else (none)))) else (some (([] : List Int), 0, false)))) else (none)) else (none))) else (some (([] : List Int), 0, false))) = some (r1, r2, r3) := H
  have A6 := aM A60
  clear A60
  by_cases c7 : t214 = true
  ·
   subst c7
   have H1 : (if (l0_0.length : Int) = 8 then (some (([] : List Int), 0, false)) else (if 0 ≤ a1 then (if a1 < (l0_0.length : Int) then ((impl_within.f a2 0 (rd l0_0 a1)).bind fun t216 => (if t216 = true then ((impl_copied.f l0_0).bind fun t217 => ((some (([wrap64 ((rd l0_0 a1) - a2)] : List Int) : List Int)).bind fun y221 => (if t217.length + y221.length < 17592186044416 then ((some (t217 ++ y221 : List Int)).bind fun y224 => (if a1 < (y224.length : Int) then (some ((y224.set (a1 : Int).toNat a2), a0_1, true)) else (none))) else (none)))) else (some (([] : List Int), 0, false)))) else (none)) else (none))) = some (r1, r2, r3) := by rw [if_pos rfl] at H; exact H
   clear H
   have H := H1
   clear H1
   by_cases c8 : (l0_0.length : Int) = 8
   ·
    rw [if_pos c8] at H
    have c8b0 : ((l0_0.length : Int) == 8) = true := beq_iff_eq.mpr c8
    have c8b1 : ((l0_0.length : Int) != 8) = false := bne_eq_false_iff_eq.mpr c8
    clear c8
    simp only [Option.some.injEq, Prod.mk.injEq] at H
    obtain ⟨rfl, rfl, rfl⟩ := H
    go_enter Try.func9, Try.ntmps9
    go_wp2_with (first | ((with_reducible refine gate_dst (N := 3) rfl ?_); refine box_event ?hg (N := 3) ?hd (cs := #[.slice A0_0 l0_0.length c0_0, .int .i64 a0_1]) (t := 26) ?hr ?_; (case hd => rfl); (case hg => rfl); (case hr => first | (go_simp; done) | (go_simp; rfl)); intro gb211 hg w9 hbox hb; have n0_ := aM (below_step (by repeat (first | (with_reducible first | exact HB.out | apply eA | apply eN | apply eD) | exact HB.out)) hb); have n1_ := aM (hbox); have n2_ := aM ((by rw [hg]; exact (below_size (by repeat (first | (with_reducible first | exact HB.out | apply eA | apply eN | apply eD) | exact HB.out))) : w.heap.size ≤ gb211)); have n3_ := aM ((by rw [hg]; exact (below_size (by repeat (first | (with_reducible first | exact HB.out | apply eA | apply eN | apply eD) | exact HB.out))) : w.heap.size ≤ gb211)); clear HB; have HB := n0_; have BK211 := n1_; have GW211 := n2_; have GE211 := n3_; clear n0_ n1_ n2_ n3_; clear hb hbox hg) | ((with_reducible refine gate_dst (N := 6) rfl ?_); refine box_event ?hg (N := 6) ?hd (cs := #[.slice none 0 0, .int .i64 0]) (t := 26) ?hr ?_; (case hd => rfl); (case hg => rfl); (case hr => first | (go_simp; done) | (go_simp; rfl)); intro gb212 hg w10 hbox hb; have n0_ := aM (bB (g := gb211) (o := .cells #[.slice A0_0 l0_0.length c0_0, .int .i64 a0_1] 26 (0, 0)) (by (with_reducible repeat (first | refine bN ?_ _ | refine bD ?_ | refine bA ?_ _)); exact BK211.out) hb); have n1_ := aM (below_step (by repeat (first | (with_reducible first | exact HB.out | apply eA | apply eN | apply eD | refine eS ?_ GE211.out) | exact HB.out)) hb); have n2_ := aM (hbox); have n3_ := aM ((by rw [hg]; exact (below_size (by repeat (first | (with_reducible first | exact HB.out | apply eA | apply eN | apply eD | refine eS ?_ GE211.out) | exact HB.out))) : w.heap.size ≤ gb212)); have n4_ := aM ((by rw [hg]; exact (below_size (by repeat (first | (with_reducible first | exact HB.out | apply eA | apply eN | apply eD | refine eS ?_ GE211.out) | exact HB.out))) : w.heap.size ≤ gb212)); have n5_ := aM ((by rw [hg]; exact Nat.ne_of_lt (blk_lt (g := gb211) (o := .cells #[.slice A0_0 l0_0.length c0_0, .int .i64 a0_1] 26 (0, 0)) (by (with_reducible repeat (first | refine bN ?_ _ | refine bD ?_ | refine bA ?_ _)); exact BK211.out)) : gb211 ≠ gb212)); have n6_ := aM ((by rw [hg]; exact Nat.ne_of_gt (blk_lt (g := gb211) (o := .cells #[.slice A0_0 l0_0.length c0_0, .int .i64 a0_1] 26 (0, 0)) (by (with_reducible repeat (first | refine bN ?_ _ | refine bD ?_ | refine bA ?_ _)); exact BK211.out)) : gb212 ≠ gb211)); clear BK211; clear HB; have BK211 := n0_; have HB := n1_; have BK212 := n2_; have GW212 := n3_; have GE212 := n4_; have NB211_212 := n5_; have NB212_211 := n6_; clear n0_ n1_ n2_ n3_ n4_ n5_ n6_; clear hb hbox hg; have hnb11 := NB211_212.out; have hnc11 := NB212_211.out; have hcz12_0 : w10.cell? ⟨gb211, 0, none⟩ = some (.slice A0_0 l0_0.length c0_0) := (bC BK211.out 0).trans rfl; have hcz12_1 : w10.cell? ⟨gb211, 1, none⟩ = some (.int .i64 a0_1) := (bC BK211.out 1).trans rfl; have hfz12_0 := bF BK211.out 0; have hfz12_1 := bF BK211.out 1) | ((with_reducible refine gate_callee (f := 30) rfl ?_); refine goesL_ (some 14) rfl rfl Try.func30 (by kernel_rfl) rfl #[.agg #[.slice A0_0 l0_0.length c0_0, .int .i64 a0_1]] rfl (by (try simp only [List.map_toArray, List.map_cons, List.map_nil]); first | done | rfl | (simp only [List.length_drop, List.length_take]; rfl)) ?_; (with_reducible refine (impl_IsVote.calls k _ _ l0_0 a0_1 true _ ?side1 ?side2 A4.out).mono ?_); (case side1 => repeat (first | exact (Kd.C_below HR0_0.out HB.out) | (with_reducible refine Kd.C_alloc ?_ _) | (with_reducible refine Kd.C_drewN ?_ _) | (with_reducible refine Kd.C_drew ?_))); (case side2 => exact HC0_0.out); rintro e w13 ⟨rfl, hb⟩; refine ⟨_, rfl, ?_⟩; have n0_ := aM (bB (g := gb211) (o := .cells #[.slice A0_0 l0_0.length c0_0, .int .i64 a0_1] 26 (0, 0)) (by (with_reducible repeat (first | refine bN ?_ _ | refine bD ?_ | refine bA ?_ _)); exact BK211.out) hb); have n1_ := aM (bB (g := gb212) (o := .cells #[.slice none 0 0, .int .i64 0] 26 (0, 0)) (by (with_reducible repeat (first | refine bN ?_ _ | refine bD ?_ | refine bA ?_ _)); exact BK212.out) hb); have n2_ := aM (below_step (by repeat (first | (with_reducible first | exact HB.out | apply eA | apply eN | apply eD | refine eS ?_ GE211.out | refine eS ?_ GE212.out) | exact HB.out)) hb); clear BK211; clear BK212; clear HB; have BK211 := n0_; have BK212 := n1_; have HB := n2_; clear n0_ n1_ n2_; (try clear hb); (try clear hb2); (try clear hk); (try clear hi)) | (go_at_call 50; (with_reducible refine (impl_within.calls a1 0 (wrap64 ((l0_0.length : Int) - 1)) true _ A6.out).mono ?_); rintro e w' ⟨rfl, ⟨nd, rfl⟩⟩; (try (rw [drewN_self w13]; generalize hq_ : World.drewN w13 _ = w13; have n0_ : Aside0 (w13.heap[gb211]? = some (.cells #[.slice A0_0 l0_0.length c0_0, .int .i64 a0_1] 26 (0, 0))) := ⟨by rw [← hq_]; exact (by (with_reducible repeat (first | refine bN ?_ _ | refine bD ?_ | refine bA ?_ _)); exact BK211.out)⟩; have n1_ : Aside0 (w13.heap[gb212]? = some (.cells #[.slice none 0 0, .int .i64 0] 26 (0, 0))) := ⟨by rw [← hq_]; exact (by (with_reducible repeat (first | refine bN ?_ _ | refine bD ?_ | refine bA ?_ _)); exact BK212.out)⟩; have n2_ : Aside0 (Below w.heap.size w w13) := ⟨by rw [← hq_]; exact (by repeat (first | (with_reducible first | exact HB.out | apply eA | apply eN | apply eD | refine eS ?_ GE211.out | refine eS ?_ GE212.out) | exact HB.out))⟩; clear BK211 BK212 HB hq_; have BK211 := n0_; have BK212 := n1_; have HB := n2_; clear n0_ n1_ n2_)); (try (have hcy211_0 := (bC BK211.out 0).trans rfl)); (try (have hfy211_0 := bF BK211.out 0)); (try (have hcy211_1 := (bC BK211.out 1).trans rfl)); (try (have hfy211_1 := bF BK211.out 1)); have hcz14_0 : w13.cell? ⟨gb212, 0, none⟩ = some (.slice none 0 0) := (bC BK212.out 0).trans rfl; have hcz14_1 : w13.cell? ⟨gb212, 1, none⟩ = some (.int .i64 0) := (bC BK212.out 1).trans rfl; have hfz14_0 := bF BK212.out 0; have hfz14_1 := bF BK212.out 1))
    refine bodyPost_ret (results_ct rfl _ _ gb212 26 #[.slice none 0 0, .int .i64 0] (0, 0) _ rfl (by (with_reducible repeat (first | refine bN ?_ _ | refine bD ?_ | refine bA ?_ _)); refine blk_put (cs := #[.slice none 0 0, .int .i64 0]) ?_ 1 _ rfl; (with_reducible repeat (first | refine bN ?_ _ | refine bD ?_ | refine bA ?_ _)); refine blk_put (cs := #[.slice none 0 0, .int .i64 0]) ?_ 0 _ rfl; (with_reducible repeat (first | refine bN ?_ _ | refine bD ?_ | refine bA ?_ _)); exact BK212.out) Try.underlying26 rfl (by kernel_rfl)) rfl ?_
    exact ⟨_, by first | rfl | (simp [errW_none, errW_some] <;> rfl) | (simp [*, errW_none, errW_some] <;> rfl), by first | exact Kd.R_nil _ _ _ _ _ | exact Kd.N_nil _ _ _ _ _ | exact Kd.V_nil _ _ _ _ _ | exact Kd.Q_nil _ _ _ _ _ | exact Kd.S_nil _ _ _ _ _, by repeat (first | (with_reducible first | exact HB.out | apply eA | apply eN | apply eD | refine eS ?_ GE211.out | refine eS ?_ GE212.out) | exact HB.out)⟩
   ·
    rw [if_neg c8] at H
    have c8b0 : ((l0_0.length : Int) == 8) = false := beq_eq_false_iff_ne.mpr c8
    have c8b1 : ((l0_0.length : Int) != 8) = true := bne_iff_ne.mpr c8
    by_cases c15 : 0 ≤ a1
    ·
     rw [if_pos c15] at H
     have c15b0 : decide (0 ≤ a1) = true := decide_eq_true c15
     clear c15
     by_cases c16 : a1 < (l0_0.length : Int)
     ·
      rw [if_pos c16] at H
      have c16b0 : decide (a1 < (l0_0.length : Int)) = true := decide_eq_true c16
      clear c16
      replace H := oB.mp H
      obtain ⟨t216, A170, H⟩ := H
      replace H : (if t216 = true then ((impl_copied.f l0_0).bind fun t217 => ((some (([wrap64 ((rd l0_0 a1) - a2)] : List Int) : List Int)).bind fun y221 => (if t217.length + y221.length < 17592186044416 then ((some (t217 ++ y221 : List Int)).bind fun y224 => (if a1 < (y224.length : Int) then (some ((y224.set (a1 : Int).toNat a2), a0_1, true)) else (none))) else (none)))) else (some (([] : List Int), 0, false))) = some (r1, r2, r3) := H
      have A17 := aM A170
      clear A170
      by_cases c18 : t216 = true
      ·
       subst c18
       have H1 : ((impl_copied.f l0_0).bind fun t217 => ((some (([wrap64 ((rd l0_0 a1) - a2)] : List Int) : List Int)).bind fun y221 => (if t217.length + y221.length < 17592186044416 then ((some (t217 ++ y221 : List Int)).bind fun y224 => (if a1 < (y224.length : Int) then (some ((y224.set (a1 : Int).toNat a2), a0_1, true)) else (none))) else (none)))) = some (r1, r2, r3) := by rw [if_pos rfl] at H; exact H
       clear H
       have H := H1
       clear H1
       replace H := oB.mp H
       obtain ⟨t217, A190, H⟩ := H
       replace H : ((some (([wrap64 ((rd l0_0 a1) - a2)] : List Int) : List Int)).bind fun y221 => (if t217.length + y221.length < 17592186044416 then ((some (t217 ++ y221 : List Int)).bind fun y224 => (if a1 < (y224.length : Int) then (some ((y224.set (a1 : Int).toNat a2), a0_1, true)) else (none))) else (none))) = some (r1, r2, r3) := H
       have A19 := aM A190
       clear A190
       obtain ⟨y221, hy221⟩ : ∃ y_ : List Int, y_ = (([wrap64 ((rd l0_0 a1) - a2)] : List Int)) := ⟨_, rfl⟩
       replace H : (if t217.length + y221.length < 17592186044416 then ((some (t217 ++ y221 : List Int)).bind fun y224 => (if a1 < (y224.length : Int) then (some ((y224.set (a1 : Int).toNat a2), a0_1, true)) else (none))) else (none)) = some (r1, r2, r3) := by first | (rw [hy221]; with_reducible exact H) | (have H2_ := (Option.bind_some _ _).symm.trans H; rw [hy221]; with_reducible exact H2_) | (have H2_ := (Option.bind_some _ _).symm.trans H; with_reducible exact H2_) | with_reducible exact H | (rw [hy221]; exact H) | exact H
       have Ny221 := aM hy221
       clear hy221
       by_cases c20 : t217.length + y221.length < 17592186044416
       ·
        rw [if_pos c20] at H
        have LMc20 := aM c20
        clear c20
        obtain ⟨y224, hy224⟩ : ∃ y_ : List Int, y_ = (t217 ++ y221) := ⟨_, rfl⟩
        replace H : (if a1 < (y224.length : Int) then (some ((y224.set (a1 : Int).toNat a2), a0_1, true)) else (none)) = some (r1, r2, r3) := by first | (rw [hy224]; with_reducible exact H) | (have H2_ := (Option.bind_some _ _).symm.trans H; rw [hy224]; with_reducible exact H2_) | (have H2_ := (Option.bind_some _ _).symm.trans H; with_reducible exact H2_) | with_reducible exact H | (rw [hy224]; exact H) | exact H
        have Ny224 := aM hy224
        clear hy224
        by_cases c21 : a1 < (y224.length : Int)
        ·
         rw [if_pos c21] at H
         have c21b0 : decide (a1 < (y224.length : Int)) = true := decide_eq_true c21
         clear c21
         obtain ⟨y228, hy228⟩ : ∃ y_ : List Int, y_ = (y224.set (a1 : Int).toNat a2) := ⟨_, rfl⟩
         replace H : (some (y228, a0_1, true)) = some (r1, r2, r3) := by first | (rw [hy228]; with_reducible exact H) | (have H2_ := (Option.bind_some _ _).symm.trans H; rw [hy228]; with_reducible exact H2_) | (have H2_ := (Option.bind_some _ _).symm.trans H; with_reducible exact H2_) | with_reducible exact H | (rw [hy228]; exact H) | exact H
         have Ny228 := aM hy228
         clear hy228
         simp only [Option.some.injEq, Prod.mk.injEq] at H
         obtain ⟨rfl, rfl, rfl⟩ := H
         go_enter Try.func9, Try.ntmps9
         try go_wp2_with (first | ((with_reducible refine gate_dst (N := 3) rfl ?_); refine box_event ?hg (N := 3) ?hd (cs := #[.slice A0_0 l0_0.length c0_0, .int .i64 a0_1]) (t := 26) ?hr ?_; (case hd => rfl); (case hg => rfl); (case hr => first | (go_simp; done) | (go_simp; rfl)); intro gb211 hg w23 hbox hb; have n0_ := aM (below_step (by repeat (first | (with_reducible first | exact HB.out | apply eA | apply eN | apply eD) | exact HB.out)) hb); have n1_ := aM (hbox); have n2_ := aM ((by rw [hg]; exact (below_size (by repeat (first | (with_reducible first | exact HB.out | apply eA | apply eN | apply eD) | exact HB.out))) : w.heap.size ≤ gb211)); have n3_ := aM ((by rw [hg]; exact (below_size (by repeat (first | (with_reducible first | exact HB.out | apply eA | apply eN | apply eD) | exact HB.out))) : w.heap.size ≤ gb211)); clear HB; have HB := n0_; have BK211 := n1_; have GW211 := n2_; have GE211 := n3_; clear n0_ n1_ n2_ n3_; clear hb hbox hg) | ((with_reducible refine gate_dst (N := 6) rfl ?_); refine box_event ?hg (N := 6) ?hd (cs := #[.slice none 0 0, .int .i64 0]) (t := 26) ?hr ?_; (case hd => rfl); (case hg => rfl); (case hr => first | (go_simp; done) | (go_simp; rfl)); intro gb212 hg w24 hbox hb; have n0_ := aM (bB (g := gb211) (o := .cells #[.slice A0_0 l0_0.length c0_0, .int .i64 a0_1] 26 (0, 0)) (by (with_reducible repeat (first | refine bN ?_ _ | refine bD ?_ | refine bA ?_ _)); exact BK211.out) hb); have n1_ := aM (below_step (by repeat (first | (with_reducible first | exact HB.out | apply eA | apply eN | apply eD | refine eS ?_ GE211.out) | exact HB.out)) hb); have n2_ := aM (hbox); have n3_ := aM ((by rw [hg]; exact (below_size (by repeat (first | (with_reducible first | exact HB.out | apply eA | apply eN | apply eD | refine eS ?_ GE211.out) | exact HB.out))) : w.heap.size ≤ gb212)); have n4_ := aM ((by rw [hg]; exact (below_size (by repeat (first | (with_reducible first | exact HB.out | apply eA | apply eN | apply eD | refine eS ?_ GE211.out) | exact HB.out))) : w.heap.size ≤ gb212)); have n5_ := aM ((by rw [hg]; exact Nat.ne_of_lt (blk_lt (g := gb211) (o := .cells #[.slice A0_0 l0_0.length c0_0, .int .i64 a0_1] 26 (0, 0)) (by (with_reducible repeat (first | refine bN ?_ _ | refine bD ?_ | refine bA ?_ _)); exact BK211.out)) : gb211 ≠ gb212)); have n6_ := aM ((by rw [hg]; exact Nat.ne_of_gt (blk_lt (g := gb211) (o := .cells #[.slice A0_0 l0_0.length c0_0, .int .i64 a0_1] 26 (0, 0)) (by (with_reducible repeat (first | refine bN ?_ _ | refine bD ?_ | refine bA ?_ _)); exact BK211.out)) : gb212 ≠ gb211)); clear BK211; clear HB; have BK211 := n0_; have HB := n1_; have BK212 := n2_; have GW212 := n3_; have GE212 := n4_; have NB211_212 := n5_; have NB212_211 := n6_; clear n0_ n1_ n2_ n3_ n4_ n5_ n6_; clear hb hbox hg; have hnb25 := NB211_212.out; have hnc25 := NB212_211.out; have hcz26_0 : w24.cell? ⟨gb211, 0, none⟩ = some (.slice A0_0 l0_0.length c0_0) := (bC BK211.out 0).trans rfl; have hcz26_1 : w24.cell? ⟨gb211, 1, none⟩ = some (.int .i64 a0_1) := (bC BK211.out 1).trans rfl; have hfz26_0 := bF BK211.out 0; have hfz26_1 := bF BK211.out 1) | ((with_reducible refine gate_callee (f := 30) rfl ?_); refine goesL_ (some 14) rfl rfl Try.func30 (by kernel_rfl) rfl #[.agg #[.slice A0_0 l0_0.length c0_0, .int .i64 a0_1]] rfl (by (try simp only [List.map_toArray, List.map_cons, List.map_nil]); first | done | rfl | (simp only [List.length_drop, List.length_take]; rfl)) ?_; (with_reducible refine (impl_IsVote.calls k _ _ l0_0 a0_1 true _ ?side1 ?side2 A4.out).mono ?_); (case side1 => repeat (first | exact (Kd.C_below HR0_0.out HB.out) | (with_reducible refine Kd.C_alloc ?_ _) | (with_reducible refine Kd.C_drewN ?_ _) | (with_reducible refine Kd.C_drew ?_))); (case side2 => exact HC0_0.out); rintro e w27 ⟨rfl, hb⟩; refine ⟨_, rfl, ?_⟩; have n0_ := aM (bB (g := gb211) (o := .cells #[.slice A0_0 l0_0.length c0_0, .int .i64 a0_1] 26 (0, 0)) (by (with_reducible repeat (first | refine bN ?_ _ | refine bD ?_ | refine bA ?_ _)); exact BK211.out) hb); have n1_ := aM (bB (g := gb212) (o := .cells #[.slice none 0 0, .int .i64 0] 26 (0, 0)) (by (with_reducible repeat (first | refine bN ?_ _ | refine bD ?_ | refine bA ?_ _)); exact BK212.out) hb); have n2_ := aM (below_step (by repeat (first | (with_reducible first | exact HB.out | apply eA | apply eN | apply eD | refine eS ?_ GE211.out | refine eS ?_ GE212.out) | exact HB.out)) hb); clear BK211; clear BK212; clear HB; have BK211 := n0_; have BK212 := n1_; have HB := n2_; clear n0_ n1_ n2_; (try clear hb); (try clear hb2); (try clear hk); (try clear hi)) | (go_at_call 50; (with_reducible refine (impl_within.calls a1 0 (wrap64 ((l0_0.length : Int) - 1)) true _ A6.out).mono ?_); rintro e w' ⟨rfl, ⟨nd, rfl⟩⟩; (try (rw [drewN_self w27]; generalize hq_ : World.drewN w27 _ = w27; have n0_ : Aside0 (w27.heap[gb211]? = some (.cells #[.slice A0_0 l0_0.length c0_0, .int .i64 a0_1] 26 (0, 0))) := ⟨by rw [← hq_]; exact (by (with_reducible repeat (first | refine bN ?_ _ | refine bD ?_ | refine bA ?_ _)); exact BK211.out)⟩; have n1_ : Aside0 (w27.heap[gb212]? = some (.cells #[.slice none 0 0, .int .i64 0] 26 (0, 0))) := ⟨by rw [← hq_]; exact (by (with_reducible repeat (first | refine bN ?_ _ | refine bD ?_ | refine bA ?_ _)); exact BK212.out)⟩; have n2_ : Aside0 (Below w.heap.size w w27) := ⟨by rw [← hq_]; exact (by repeat (first | (with_reducible first | exact HB.out | apply eA | apply eN | apply eD | refine eS ?_ GE211.out | refine eS ?_ GE212.out) | exact HB.out))⟩; clear BK211 BK212 HB hq_; have BK211 := n0_; have BK212 := n1_; have HB := n2_; clear n0_ n1_ n2_)); (try (have hcy212_0 := (bC BK212.out 0).trans rfl)); (try (have hfy212_0 := bF BK212.out 0)); (try (have hcy212_1 := (bC BK212.out 1).trans rfl)); (try (have hfy212_1 := bF BK212.out 1)); have hcz28_0 : w27.cell? ⟨gb211, 0, none⟩ = some (.slice A0_0 l0_0.length c0_0) := (bC BK211.out 0).trans rfl; have hcz28_1 : w27.cell? ⟨gb211, 1, none⟩ = some (.int .i64 a0_1) := (bC BK211.out 1).trans rfl; have hfz28_0 := bF BK211.out 0; have hfz28_1 := bF BK211.out 1; have p215 : 0 ≤ (a1 : Int) := of_decide_eq_true (by first | (with_reducible assumption) | assumption); have q215 : a1 < (l0_0.length : Int) := of_decide_eq_true (by first | (with_reducible assumption) | assumption); obtain ⟨ad215, e215, hx215_0⟩ := Kd.at_int HR0_0.out a1 p215 q215; cases e215; replace hx215_0 := (HB.out.cell (World.block_lt_of_cell? w _ hx215_0)).trans hx215_0; replace p215 := eq_true p215; replace q215 := eq_true q215) | (go_at_call 50; (with_reducible refine (impl_within.calls a2 0 (rd l0_0 a1) true _ A17.out).mono ?_); rintro e w' ⟨rfl, ⟨nd, rfl⟩⟩; (try (rw [drewN_self w27]; generalize hq_ : World.drewN w27 _ = w27; have n0_ : Aside0 (w27.heap[gb211]? = some (.cells #[.slice (some ad215) l0_0.length c0_0, .int .i64 a0_1] 26 (0, 0))) := ⟨by rw [← hq_]; exact (by (with_reducible repeat (first | refine bN ?_ _ | refine bD ?_ | refine bA ?_ _)); exact BK211.out)⟩; have n1_ : Aside0 (w27.heap[gb212]? = some (.cells #[.slice none 0 0, .int .i64 0] 26 (0, 0))) := ⟨by rw [← hq_]; exact (by (with_reducible repeat (first | refine bN ?_ _ | refine bD ?_ | refine bA ?_ _)); exact BK212.out)⟩; have n2_ : Aside0 (Below w.heap.size w w27) := ⟨by rw [← hq_]; exact (by repeat (first | (with_reducible first | exact HB.out | apply eA | apply eN | apply eD | refine eS ?_ GE211.out | refine eS ?_ GE212.out) | exact HB.out))⟩; clear BK211 BK212 HB hq_; have BK211 := n0_; have BK212 := n1_; have HB := n2_; clear n0_ n1_ n2_)); (try (have hcy211_0 := (bC BK211.out 0).trans rfl)); (try (have hfy211_0 := bF BK211.out 0)); (try (have hcy211_1 := (bC BK211.out 1).trans rfl)); (try (have hfy211_1 := bF BK211.out 1)); (try (have hcy212_0 := (bC BK212.out 0).trans rfl)); (try (have hfy212_0 := bF BK212.out 0)); (try (have hcy212_1 := (bC BK212.out 1).trans rfl)); (try (have hfy212_1 := bF BK212.out 1))))
         have n0_ := aM (bD BK211.out)
         have n1_ := aM (bD BK212.out)
         have n2_ := aM (eD HB.out)
         clear BK211 BK212 HB
         have BK211 := n0_
         have BK212 := n1_
         have HB := n2_
         clear n0_ n1_ n2_
         have p220 : 0 ≤ (a1 : Int) := of_decide_eq_true (by first | (with_reducible assumption) | assumption)
         have q220 : a1 < (l0_0.length : Int) := of_decide_eq_true (by first | (with_reducible assumption) | assumption)
         obtain ⟨ad220, e220, hx220_0⟩ := Kd.at_int HR0_0.out a1 p220 q220
         have hw220_0 := hx220_0
         obtain rfl : ad215 = ad220 := (by injection e220)
         replace hx220_0 := (HB.out.cell (World.block_lt_of_cell? w _ hx220_0)).trans hx220_0
         replace p220 := eq_true p220
         replace q220 := eq_true q220
         refine start_ (n := 17) (S := fun w' => w'.cell? ⟨gb211, 0, none⟩ = some (.slice (some ad215) l0_0.length c0_0) ∧ w'.cell? ⟨gb211, 1, none⟩ = some (.int .i64 a0_1) ∧ w'.cell? (ad215.add (a1).toNat) = some (.int .i64 (rd l0_0 a1))) (ds := []) #[false, false, false, false, false, false, false, false, false, false, false, false, false, false, false, false, false] (by kernel_rfl) rfl rfl ⟨(bC BK211.out 0).trans rfl, (bC BK211.out 1).trans rfl, ((HB.out.cell (World.block_lt_of_cell? w _ hw220_0)).trans hw220_0)⟩ (fun hHeld => ?_); refine with_tabW impl_SplitVoter.tab4 impl_SplitVoter.bits4 (fun HT_ HW_ => ?_)
         generalize w27.drew = w29 at BK211 BK212 HB hx220_0 hHeld ⊢
         refine pure_ (i := 0) (N := some 38) (v := ?_) (a' := ?_) #[true, false, false, false, false, false, false, false, false, false, false, false, false, false, false, false, false] rfl rfl (any_of HT_.out (by kernel_rfl)) (fun _ _ _ h => h) (Or.inl ⟨by rfl, ?_⟩) ?_ ?_
         rotate_left
         ·
          intro w'
          go_simp
          with_reducible rfl
         rotate_left
         ·
          simp only [Act.put, sA, sZ, sU, i64_w, i32_w]
          rfl
         refine pure_ (i := 3) (N := some 41) (v := ?_) (a' := ?_) #[true, false, false, true, false, false, false, false, false, false, false, false, false, false, false, false, false] rfl rfl (any_of HT_.out (by kernel_rfl)) (fun _ _ _ h => h) (Or.inl ⟨by rfl, ?_⟩) ?_ ?_
         rotate_left
         ·
          intro w'
          go_simp
          with_reducible rfl
         rotate_left
         ·
          simp only [Act.put, sA, sZ, sU, i64_w, i32_w]
          rfl
         refine pure_ (i := 5) (N := some 43) (v := ?_) (a' := ?_) #[true, false, false, true, false, true, false, false, false, false, false, false, false, false, false, false, false] rfl rfl (any_of HT_.out (by kernel_rfl)) (fun _ _ _ h => h) (Or.inl ⟨by rfl, ?_⟩) ?_ ?_
         rotate_left
         ·
          intro w'
          go_simp
          with_reducible rfl
         rotate_left
         ·
          simp only [Act.put, sA, sZ, sU, i64_w, i32_w]
          rfl
         refine pure_ (i := 8) (N := some 46) (v := ?_) (a' := ?_) #[true, false, false, true, false, true, false, false, true, false, false, false, false, false, false, false, false] rfl rfl (any_of HT_.out (by kernel_rfl)) (fun _ _ _ h => h) (Or.inl ⟨by rfl, ?_⟩) ?_ ?_
         rotate_left
         ·
          intro w'
          go_simp
          with_reducible rfl
         rotate_left
         ·
          simp only [Act.put, sA, sZ, sU, i64_w, i32_w]
          rfl
         refine pure_ (i := 12) (N := some 50) (v := ?_) (a' := ?_) #[true, false, false, true, false, true, false, false, true, false, false, false, true, false, false, false, false] rfl rfl (any_of HT_.out (by kernel_rfl)) (fun _ _ _ h => h) (Or.inl ⟨by rfl, ?_⟩) ?_ ?_
         rotate_left
         ·
          intro w'
          go_simp
          with_reducible rfl
         rotate_left
         ·
          simp only [Act.put, sA, sZ, sU, i64_w, i32_w]
          rfl
         refine take_ (i := 1) (N := some 39) (v := ?_) (a' := ?_) #[true, true, false, true, false, true, false, false, true, false, false, false, true, false, false, false, false] rfl rfl (take_ofW HT_.out HW_.out (by kernel_rfl)) (fun _ _ _ h => h) (Or.inl ⟨by rfl, ?_⟩) hHeld ?_ ?_
         rotate_left
         ·
          rintro w' ⟨s0, s1, s2⟩
          first | (go_simp; with_reducible rfl) | (simp only [add_plain] at s0 s1 s2; go_simp; with_reducible rfl)
         rotate_left
         ·
          simp only [Act.put, sA, sZ, sU, i64_w, i32_w]
          rfl
         refine take_ (i := 4) (N := some 42) (v := ?_) (a' := ?_) #[true, true, false, true, true, true, false, false, true, false, false, false, true, false, false, false, false] rfl rfl (take_ofW HT_.out HW_.out (by kernel_rfl)) (fun _ _ _ h => h) (Or.inl ⟨by rfl, ?_⟩) hHeld ?_ ?_
         rotate_left
         ·
          rintro w' ⟨s0, s1, s2⟩
          first | (go_simp; with_reducible rfl) | (simp only [add_plain] at s0 s1 s2; go_simp; with_reducible rfl)
         rotate_left
         ·
          simp only [Act.put, sA, sZ, sU, i64_w, i32_w]
          rfl
         refine pure_ (i := 6) (N := some 44) (v := ?_) (a' := ?_) #[true, true, false, true, true, true, true, false, true, false, false, false, true, false, false, false, false] rfl rfl (any_of HT_.out (by kernel_rfl)) (fun _ _ _ h => h) (Or.inl ⟨by rfl, ?_⟩) ?_ ?_
         rotate_left
         ·
          intro w'
          go_simp
          with_reducible rfl
         rotate_left
         ·
          simp only [Act.put, sA, sZ, sU, i64_w, i32_w]
          rfl
         refine take_ (i := 7) (N := some 45) (v := ?_) (a' := ?_) #[true, true, false, true, true, true, true, true, true, false, false, false, true, false, false, false, false] rfl rfl (take_ofW HT_.out HW_.out (by kernel_rfl)) (fun _ _ _ h => h) (Or.inl ⟨by rfl, ?_⟩) hHeld ?_ ?_
         rotate_left
         ·
          rintro w' ⟨s0, s1, s2⟩
          first | (go_simp; with_reducible rfl) | (simp only [add_plain] at s0 s1 s2; go_simp; with_reducible rfl)
         rotate_left
         ·
          simp only [Act.put, sA, sZ, sU, i64_w, i32_w]
          rfl
         refine pure_ (i := 9) (N := some 47) (v := ?_) (a' := ?_) #[true, true, false, true, true, true, true, true, true, true, false, false, true, false, false, false, false] rfl rfl (any_of HT_.out (by kernel_rfl)) (fun _ _ _ h => h) (Or.inl ⟨by rfl, ?_⟩) ?_ ?_
         rotate_left
         ·
          intro w'
          go_simp
          with_reducible rfl
         rotate_left
         ·
          simp only [Act.put, sA, sZ, sU, i64_w, i32_w]
          rfl
         refine take_ (i := 13) (N := some 51) (v := ?_) (a' := ?_) #[true, true, false, true, true, true, true, true, true, true, false, false, true, true, false, false, false] rfl rfl (take_ofW HT_.out HW_.out (by kernel_rfl)) (fun _ _ _ h => h) (Or.inl ⟨by rfl, ?_⟩) hHeld ?_ ?_
         rotate_left
         ·
          rintro w' ⟨s0, s1, s2⟩
          first | (go_simp; with_reducible rfl) | (simp only [add_plain] at s0 s1 s2; go_simp; with_reducible rfl)
         rotate_left
         ·
          simp only [Act.put, sA, sZ, sU, i64_w, i32_w]
          rfl
         refine join_ (σ := Value × Value × Value × Nat) 1 #[true, true, true, true, true, true, true, true, true, true, true, true, true, true, true, true, false] (fun s_ => [(40, s_.1), (48, s_.2.1), (49, s_.2.2.1), (9, .pointer (some ⟨s_.2.2.2, 0, none⟩)), (52, .agg #[s_.2.2.1, .int .i64 a0_1])]) (fun s_ w' => (w'.cell? ⟨gb211, 0, none⟩ = some (.slice (some ad215) l0_0.length c0_0) ∧ w'.cell? ⟨gb211, 1, none⟩ = some (.int .i64 a0_1) ∧ w'.cell? (ad215.add (a1).toNat) = some (.int .i64 (rd l0_0 a1))) ∧ (Kd.R (Kd.int .i64) 3 w' w.heap.size (fun k_ => some k_ ≠ (s_.2.2.1 : Value).ownBlock) s_.2.1 y221) ∧ (Kd.R (Kd.int .i64) 3 w' w.heap.size (fun k_ => some k_ ≠ (s_.2.1 : Value).ownBlock) s_.2.2.1 y224) ∧ (w'.heap[gb211]? = some (.cells #[.slice (some ad215) l0_0.length c0_0, .int .i64 a0_1] 26 (0, 0))) ∧ (w'.heap[gb212]? = some (.cells #[.slice none 0 0, .int .i64 0] 26 (0, 0))) ∧ (w'.heap[s_.2.2.2]? = some (.cells #[.slice none 0 0, .int .i64 0] 26 (0, 0))) ∧ (w.heap.size ≤ s_.2.2.2) ∧ (w.heap.size ≤ s_.2.2.2) ∧ (gb211 ≠ s_.2.2.2) ∧ (s_.2.2.2 ≠ gb211) ∧ (gb212 ≠ s_.2.2.2) ∧ (s_.2.2.2 ≠ gb212) ∧ (Below w.heap.size w w')) ?_ ?_
         rotate_left
         ·
          intro hJ2_10_11_15
          refine join_ (σ := Value × Value × Value) 2 #[true, true, true, true, true, true, true, true, true, true, true, true, true, true, true, false, false] (fun s_ => [(40, s_.1), (48, s_.2.1), (49, s_.2.2), (52, .agg #[s_.2.2, .int .i64 a0_1])]) (fun s_ w' => (w'.cell? ⟨gb211, 0, none⟩ = some (.slice (some ad215) l0_0.length c0_0) ∧ w'.cell? ⟨gb211, 1, none⟩ = some (.int .i64 a0_1) ∧ w'.cell? (ad215.add (a1).toNat) = some (.int .i64 (rd l0_0 a1))) ∧ (Kd.R (Kd.int .i64) 3 w' w.heap.size (fun k_ => some k_ ≠ (s_.2.2 : Value).ownBlock) s_.2.1 y221) ∧ (Kd.R (Kd.int .i64) 3 w' w.heap.size (fun k_ => some k_ ≠ (s_.2.1 : Value).ownBlock) s_.2.2 y224) ∧ (w'.heap[gb211]? = some (.cells #[.slice (some ad215) l0_0.length c0_0, .int .i64 a0_1] 26 (0, 0))) ∧ (w'.heap[gb212]? = some (.cells #[.slice none 0 0, .int .i64 0] 26 (0, 0))) ∧ (Below w.heap.size w w')) ?_ ?_
          rotate_left
          ·
           intro hJ2_10_11
           refine join_ (σ := Value × Value × Nat) 3 #[true, true, true, true, true, true, true, true, true, true, true, false, true, true, false, true, false] (fun s_ => [(40, s_.1), (48, s_.2.1), (9, .pointer (some ⟨s_.2.2, 0, none⟩))]) (fun s_ w' => (w'.cell? ⟨gb211, 0, none⟩ = some (.slice (some ad215) l0_0.length c0_0) ∧ w'.cell? ⟨gb211, 1, none⟩ = some (.int .i64 a0_1) ∧ w'.cell? (ad215.add (a1).toNat) = some (.int .i64 (rd l0_0 a1))) ∧ (Kd.R (Kd.int .i64) 3 w' w.heap.size (fun k_ => some k_ ≠ (s_.2.1 : Value).ownBlock) s_.1 t217) ∧ (Kd.R (Kd.int .i64) 3 w' w.heap.size (fun k_ => some k_ ≠ (s_.1 : Value).ownBlock) s_.2.1 y221) ∧ (w'.heap[gb211]? = some (.cells #[.slice (some ad215) l0_0.length c0_0, .int .i64 a0_1] 26 (0, 0))) ∧ (w'.heap[gb212]? = some (.cells #[.slice none 0 0, .int .i64 0] 26 (0, 0))) ∧ (w'.heap[s_.2.2]? = some (.cells #[.slice none 0 0, .int .i64 0] 26 (0, 0))) ∧ (w.heap.size ≤ s_.2.2) ∧ (w.heap.size ≤ s_.2.2) ∧ (gb211 ≠ s_.2.2) ∧ (s_.2.2 ≠ gb211) ∧ (gb212 ≠ s_.2.2) ∧ (s_.2.2 ≠ gb212) ∧ (Below w.heap.size w w')) ?_ ?_
           rotate_left
           ·
            intro hJ2_10_15
            refine join_ (σ := Value × Value) 4 #[true, true, true, true, true, true, true, true, true, true, true, false, true, true, false, false, false] (fun s_ => [(40, s_.1), (48, s_.2)]) (fun s_ w' => (w'.cell? ⟨gb211, 0, none⟩ = some (.slice (some ad215) l0_0.length c0_0) ∧ w'.cell? ⟨gb211, 1, none⟩ = some (.int .i64 a0_1) ∧ w'.cell? (ad215.add (a1).toNat) = some (.int .i64 (rd l0_0 a1))) ∧ (Kd.R (Kd.int .i64) 3 w' w.heap.size (fun k_ => some k_ ≠ (s_.2 : Value).ownBlock) s_.1 t217) ∧ (Kd.R (Kd.int .i64) 3 w' w.heap.size (fun k_ => some k_ ≠ (s_.1 : Value).ownBlock) s_.2 y221) ∧ (w'.heap[gb211]? = some (.cells #[.slice (some ad215) l0_0.length c0_0, .int .i64 a0_1] 26 (0, 0))) ∧ (w'.heap[gb212]? = some (.cells #[.slice none 0 0, .int .i64 0] 26 (0, 0))) ∧ (Below w.heap.size w w')) ?_ ?_
            rotate_left
            ·
             intro hJ2_10
             refine join_ (σ := Value × Nat) 4 #[true, true, true, true, true, true, true, true, true, true, false, false, true, true, false, true, false] (fun s_ => [(40, s_.1), (9, .pointer (some ⟨s_.2, 0, none⟩))]) (fun s_ w' => (w'.cell? ⟨gb211, 0, none⟩ = some (.slice (some ad215) l0_0.length c0_0) ∧ w'.cell? ⟨gb211, 1, none⟩ = some (.int .i64 a0_1) ∧ w'.cell? (ad215.add (a1).toNat) = some (.int .i64 (rd l0_0 a1))) ∧ (Kd.R (Kd.int .i64) 3 w' w.heap.size (fun _ => True) s_.1 t217) ∧ (w'.heap[gb211]? = some (.cells #[.slice (some ad215) l0_0.length c0_0, .int .i64 a0_1] 26 (0, 0))) ∧ (w'.heap[gb212]? = some (.cells #[.slice none 0 0, .int .i64 0] 26 (0, 0))) ∧ (w'.heap[s_.2]? = some (.cells #[.slice none 0 0, .int .i64 0] 26 (0, 0))) ∧ (w.heap.size ≤ s_.2) ∧ (w.heap.size ≤ s_.2) ∧ (gb211 ≠ s_.2) ∧ (s_.2 ≠ gb211) ∧ (gb212 ≠ s_.2) ∧ (s_.2 ≠ gb212) ∧ (Below w.heap.size w w')) ?_ ?_
             rotate_left
             ·
              intro hJ2_15
              refine join_ (σ := Value × Nat) 4 #[true, true, false, true, true, true, true, true, true, true, true, false, true, true, false, true, false] (fun s_ => [(48, s_.1), (9, .pointer (some ⟨s_.2, 0, none⟩))]) (fun s_ w' => (w'.cell? ⟨gb211, 0, none⟩ = some (.slice (some ad215) l0_0.length c0_0) ∧ w'.cell? ⟨gb211, 1, none⟩ = some (.int .i64 a0_1) ∧ w'.cell? (ad215.add (a1).toNat) = some (.int .i64 (rd l0_0 a1))) ∧ (Kd.R (Kd.int .i64) 3 w' w.heap.size (fun _ => True) s_.1 y221) ∧ (w'.heap[gb211]? = some (.cells #[.slice (some ad215) l0_0.length c0_0, .int .i64 a0_1] 26 (0, 0))) ∧ (w'.heap[gb212]? = some (.cells #[.slice none 0 0, .int .i64 0] 26 (0, 0))) ∧ (w'.heap[s_.2]? = some (.cells #[.slice none 0 0, .int .i64 0] 26 (0, 0))) ∧ (w.heap.size ≤ s_.2) ∧ (w.heap.size ≤ s_.2) ∧ (gb211 ≠ s_.2) ∧ (s_.2 ≠ gb211) ∧ (gb212 ≠ s_.2) ∧ (s_.2 ≠ gb212) ∧ (Below w.heap.size w w')) ?_ ?_
              rotate_left
              ·
               intro hJ10_15
               refine join_ (σ := Value) 5 #[true, true, true, true, true, true, true, true, true, true, false, false, true, true, false, false, false] (fun s_ => [(40, s_)]) (fun s_ w' => (w'.cell? ⟨gb211, 0, none⟩ = some (.slice (some ad215) l0_0.length c0_0) ∧ w'.cell? ⟨gb211, 1, none⟩ = some (.int .i64 a0_1) ∧ w'.cell? (ad215.add (a1).toNat) = some (.int .i64 (rd l0_0 a1))) ∧ (Kd.R (Kd.int .i64) 3 w' w.heap.size (fun _ => True) s_ t217) ∧ (w'.heap[gb211]? = some (.cells #[.slice (some ad215) l0_0.length c0_0, .int .i64 a0_1] 26 (0, 0))) ∧ (w'.heap[gb212]? = some (.cells #[.slice none 0 0, .int .i64 0] 26 (0, 0))) ∧ (Below w.heap.size w w')) ?_ ?_
               rotate_left
               ·
                intro hJ2
                refine join_ (σ := Value) 5 #[true, true, false, true, true, true, true, true, true, true, true, false, true, true, false, false, false] (fun s_ => [(48, s_)]) (fun s_ w' => (w'.cell? ⟨gb211, 0, none⟩ = some (.slice (some ad215) l0_0.length c0_0) ∧ w'.cell? ⟨gb211, 1, none⟩ = some (.int .i64 a0_1) ∧ w'.cell? (ad215.add (a1).toNat) = some (.int .i64 (rd l0_0 a1))) ∧ (Kd.R (Kd.int .i64) 3 w' w.heap.size (fun _ => True) s_ y221) ∧ (w'.heap[gb211]? = some (.cells #[.slice (some ad215) l0_0.length c0_0, .int .i64 a0_1] 26 (0, 0))) ∧ (w'.heap[gb212]? = some (.cells #[.slice none 0 0, .int .i64 0] 26 (0, 0))) ∧ (Below w.heap.size w w')) ?_ ?_
                rotate_left
                ·
                 intro hJ10
                 refine join_ (σ := Nat) 5 #[true, true, false, true, true, true, true, true, true, true, false, false, true, true, false, true, false] (fun s_ => [(9, .pointer (some ⟨s_, 0, none⟩))]) (fun s_ w' => (w'.cell? ⟨gb211, 0, none⟩ = some (.slice (some ad215) l0_0.length c0_0) ∧ w'.cell? ⟨gb211, 1, none⟩ = some (.int .i64 a0_1) ∧ w'.cell? (ad215.add (a1).toNat) = some (.int .i64 (rd l0_0 a1))) ∧ (w'.heap[gb211]? = some (.cells #[.slice (some ad215) l0_0.length c0_0, .int .i64 a0_1] 26 (0, 0))) ∧ (w'.heap[gb212]? = some (.cells #[.slice none 0 0, .int .i64 0] 26 (0, 0))) ∧ (w'.heap[s_]? = some (.cells #[.slice none 0 0, .int .i64 0] 26 (0, 0))) ∧ (w.heap.size ≤ s_) ∧ (w.heap.size ≤ s_) ∧ (gb211 ≠ s_) ∧ (s_ ≠ gb211) ∧ (gb212 ≠ s_) ∧ (s_ ≠ gb212) ∧ (Below w.heap.size w w')) ?_ ?_
                 rotate_left
                 ·
                  intro hJ15
                  refine three_ (i := 2) (j := 10) (k := 15) (Ni := some 40) (Nj := some 48) (Nk := some 9) #[true, true, true, true, true, true, true, true, true, true, false, false, true, true, false, false, false] #[true, true, false, true, true, true, true, true, true, true, true, false, true, true, false, false, false] #[true, true, false, true, true, true, true, true, true, true, false, false, true, true, false, true, false] rfl rfl rfl rfl rfl rfl (three_of HT_.out (by kernel_rfl)) (by decide) (by decide) (by decide) (fun K hK => ?_) (fun K hK => ?_) (fun K hK => ?_)
                  ·
                   skip
                   refine goes_ Try.func51 (by kernel_rfl) rfl #[.slice (some ad215) l0_0.length c0_0] (by rfl) rfl rfl (by (try simp only [List.map_toArray, List.map_cons, List.map_nil]); first | done | rfl | (simp only [List.length_drop, List.length_take]; rfl)) ?_
                   with_reducible refine (impl_copied.calls _ _ l0_0 t217 _ ?side1 ?side2 A19.out).mono ?_
                   (case side1 => repeat (first | exact (Kd.C_below HR0_0.out HB.out) | (with_reducible refine Kd.C_alloc ?_ _) | (with_reducible refine Kd.C_drewN ?_ _) | (with_reducible refine Kd.C_drew ?_)))
                   (case side2 => exact HC0_0.out)
                   rintro e w30 ⟨v218, rfl, ho0, hb⟩
                   refine ⟨_, rfl, ?_⟩
                   have n0_ := aM (Kd.R_lower ho0 (below_size (by repeat (first | (with_reducible first | exact HB.out | apply eA | apply eN | apply eD | refine eS ?_ GE211.out | refine eS ?_ GE212.out) | exact HB.out))))
                   have n1_ := aM (bB (g := gb211) (o := .cells #[.slice (some ad215) l0_0.length c0_0, .int .i64 a0_1] 26 (0, 0)) (by (with_reducible repeat (first | refine bN ?_ _ | refine bD ?_ | refine bA ?_ _)); exact BK211.out) hb)
                   have n2_ := aM (bB (g := gb212) (o := .cells #[.slice none 0 0, .int .i64 0] 26 (0, 0)) (by (with_reducible repeat (first | refine bN ?_ _ | refine bD ?_ | refine bA ?_ _)); exact BK212.out) hb)
                   have n3_ := aM (below_step (by repeat (first | (with_reducible first | exact HB.out | apply eA | apply eN | apply eD | refine eS ?_ GE211.out | refine eS ?_ GE212.out) | exact HB.out)) hb)
                   clear BK211 BK212 HB
                   have HO219 := n0_
                   have BK211 := n1_
                   have BK212 := n2_
                   have HB := n3_
                   clear n0_ n1_ n2_ n3_
                   (try clear hb)
                   (try clear hb2)
                   (try clear hk)
                   (try clear hi)
                   (try clear ho0)
                   refine hK.out _ _ ⟨(bC BK211.out 0).trans rfl, (bC BK211.out 1).trans rfl, ((HB.out.cell (World.block_lt_of_cell? w _ hw220_0)).trans hw220_0)⟩ (fun hHeld => ?_)
                   clear hK K
                   refine norm_ (a' := ?_) ?_ ?_
                   rotate_left
                   ·
                    show Act.put _ (some 40) _ = _
                    simp only [Act.put, sA, sZ, sU, i64_w, i32_w]
                    rfl
                   exact norm_ (by first | (simp only [putAll, Act.put, sA, sZ, sU]; done) | (simp only [putAll, Act.put, sA, sZ, sU]; rfl)) (hJ2 (v218) _ ⟨hHeld, (by (with_reducible repeat (first | apply rA | apply rN | apply rD)); exact HO219.out), (by (with_reducible repeat (first | refine bN ?_ _ | refine bD ?_ | refine bA ?_ _)); exact BK211.out), (by (with_reducible repeat (first | refine bN ?_ _ | refine bD ?_ | refine bA ?_ _)); exact BK212.out), (by repeat (first | (with_reducible first | exact HB.out | apply eA | apply eN | apply eD | refine eS ?_ GE211.out | refine eS ?_ GE212.out) | exact HB.out))⟩)
                  ·
                   skip
                   refine Kd.R_lit_step (Kd.int .i64) _ 3 ?hg (N := 48) ?hd (xs := ([wrap64 ((rd l0_0 a1) - a2)] : List Int)) (inner := [.int .i64 (wrap64 ((rd l0_0 a1) - a2))]) (ok := fun _ => True) (okp := fun _ => True) ?hr ?hp (fun _ hk => hk) trivial (Below.refl _ _) (Nat.le_refl _) (by simp) ?_; (case hd => rfl); (case hg => rfl); (case hr => first | (go_simp; done) | (go_simp; rfl)); (case hp => exact (Reps.one (show Kd.M (Kd.int .i64) _ _ _ (wrap64 ((rd l0_0 a1) - a2)) [.int .i64 (wrap64 ((rd l0_0 a1) - a2))] from rfl) (Reps.none _ _)))
                   intro v222 w30 ho31 hb hg_ hnew_
                   clear hg_ hnew_
                   (first | rw [← Ny221.out] at ho31 | (simp only [Int.reduceToNat] at ho31; rw [← Ny221.out] at ho31))
                   have n0_ := aM (Kd.R_lower ho31 (below_size (by repeat (first | (with_reducible first | exact HB.out | apply eA | apply eN | apply eD | refine eS ?_ GE211.out | refine eS ?_ GE212.out) | exact HB.out))))
                   have n1_ := aM (bB (g := gb211) (o := .cells #[.slice (some ad215) l0_0.length c0_0, .int .i64 a0_1] 26 (0, 0)) (by (with_reducible repeat (first | refine bN ?_ _ | refine bD ?_ | refine bA ?_ _)); exact BK211.out) hb)
                   have n2_ := aM (bB (g := gb212) (o := .cells #[.slice none 0 0, .int .i64 0] 26 (0, 0)) (by (with_reducible repeat (first | refine bN ?_ _ | refine bD ?_ | refine bA ?_ _)); exact BK212.out) hb)
                   have n3_ := aM (below_step (by repeat (first | (with_reducible first | exact HB.out | apply eA | apply eN | apply eD | refine eS ?_ GE211.out | refine eS ?_ GE212.out) | exact HB.out)) hb)
                   clear BK211 BK212 HB
                   have HO223 := n0_
                   have BK211 := n1_
                   have BK212 := n2_
                   have HB := n3_
                   clear n0_ n1_ n2_ n3_ hb ho31
                   refine hK.out _ _ ⟨(bC BK211.out 0).trans rfl, (bC BK211.out 1).trans rfl, ((HB.out.cell (World.block_lt_of_cell? w _ hw220_0)).trans hw220_0)⟩ (fun hHeld => ?_)
                   clear hK K
                   refine norm_ (a' := ?_) ?_ ?_
                   rotate_left
                   ·
                    show Act.put _ (some 48) _ = _
                    simp only [Act.put, sA, sZ, sU, i64_w, i32_w]
                    rfl
                   exact norm_ (by first | (simp only [putAll, Act.put, sA, sZ, sU]; done) | (simp only [putAll, Act.put, sA, sZ, sU]; rfl)) (hJ10 (v222) _ ⟨hHeld, (by (with_reducible repeat (first | apply rA | apply rN | apply rD)); exact HO223.out), (by (with_reducible repeat (first | refine bN ?_ _ | refine bD ?_ | refine bA ?_ _)); exact BK211.out), (by (with_reducible repeat (first | refine bN ?_ _ | refine bD ?_ | refine bA ?_ _)); exact BK212.out), (by repeat (first | (with_reducible first | exact HB.out | apply eA | apply eN | apply eD | refine eS ?_ GE211.out | refine eS ?_ GE212.out) | exact HB.out))⟩)
                  ·
                   skip
                   refine box_step ?hg (N := 9) ?hd (cs := #[.slice none 0 0, .int .i64 0]) (t := 26) ?hr ?_; (case hd => rfl); (case hg => rfl); (case hr => first | (go_simp; done) | (go_simp; rfl))
                   intro gb227 hg w30 hbox hb
                   have n0_ := aM (bB (g := gb211) (o := .cells #[.slice (some ad215) l0_0.length c0_0, .int .i64 a0_1] 26 (0, 0)) (by (with_reducible repeat (first | refine bN ?_ _ | refine bD ?_ | refine bA ?_ _)); exact BK211.out) hb)
                   have n1_ := aM (bB (g := gb212) (o := .cells #[.slice none 0 0, .int .i64 0] 26 (0, 0)) (by (with_reducible repeat (first | refine bN ?_ _ | refine bD ?_ | refine bA ?_ _)); exact BK212.out) hb)
                   have n2_ := aM (below_step (by repeat (first | (with_reducible first | exact HB.out | apply eA | apply eN | apply eD | refine eS ?_ GE211.out | refine eS ?_ GE212.out) | exact HB.out)) hb)
                   have n3_ := aM (hbox)
                   have n4_ := aM ((by rw [hg]; exact (below_size (by repeat (first | (with_reducible first | exact HB.out | apply eA | apply eN | apply eD | refine eS ?_ GE211.out | refine eS ?_ GE212.out) | exact HB.out))) : w.heap.size ≤ gb227))
                   have n5_ := aM ((by rw [hg]; exact (below_size (by repeat (first | (with_reducible first | exact HB.out | apply eA | apply eN | apply eD | refine eS ?_ GE211.out | refine eS ?_ GE212.out) | exact HB.out))) : w.heap.size ≤ gb227))
                   have n6_ := aM ((by rw [hg]; exact Nat.ne_of_lt (blk_lt (g := gb211) (o := .cells #[.slice (some ad215) l0_0.length c0_0, .int .i64 a0_1] 26 (0, 0)) (by (with_reducible repeat (first | refine bN ?_ _ | refine bD ?_ | refine bA ?_ _)); exact BK211.out)) : gb211 ≠ gb227))
                   have n7_ := aM ((by rw [hg]; exact Nat.ne_of_gt (blk_lt (g := gb211) (o := .cells #[.slice (some ad215) l0_0.length c0_0, .int .i64 a0_1] 26 (0, 0)) (by (with_reducible repeat (first | refine bN ?_ _ | refine bD ?_ | refine bA ?_ _)); exact BK211.out)) : gb227 ≠ gb211))
                   have n8_ := aM ((by rw [hg]; exact Nat.ne_of_lt (blk_lt (g := gb212) (o := .cells #[.slice none 0 0, .int .i64 0] 26 (0, 0)) (by (with_reducible repeat (first | refine bN ?_ _ | refine bD ?_ | refine bA ?_ _)); exact BK212.out)) : gb212 ≠ gb227))
                   have n9_ := aM ((by rw [hg]; exact Nat.ne_of_gt (blk_lt (g := gb212) (o := .cells #[.slice none 0 0, .int .i64 0] 26 (0, 0)) (by (with_reducible repeat (first | refine bN ?_ _ | refine bD ?_ | refine bA ?_ _)); exact BK212.out)) : gb227 ≠ gb212))
                   clear BK211 BK212 HB
                   have BK211 := n0_
                   have BK212 := n1_
                   have HB := n2_
                   have BK227 := n3_
                   have GW227 := n4_
                   have GE227 := n5_
                   have NB211_227 := n6_
                   have NB227_211 := n7_
                   have NB212_227 := n8_
                   have NB227_212 := n9_
                   clear n0_ n1_ n2_ n3_ n4_ n5_ n6_ n7_ n8_ n9_ hb hbox hg
                   refine hK.out _ _ ⟨(bC BK211.out 0).trans rfl, (bC BK211.out 1).trans rfl, ((HB.out.cell (World.block_lt_of_cell? w _ hw220_0)).trans hw220_0)⟩ (fun hHeld => ?_)
                   clear hK K
                   refine norm_ (a' := ?_) ?_ ?_
                   rotate_left
                   ·
                    show Act.put _ (some 9) _ = _
                    simp only [Act.put, sA, sZ, sU, i64_w, i32_w]
                    rfl
                   exact norm_ (by first | (simp only [putAll, Act.put, sA, sZ, sU]; done) | (simp only [putAll, Act.put, sA, sZ, sU]; rfl)) (hJ15 (gb227) _ ⟨hHeld, (by (with_reducible repeat (first | refine bN ?_ _ | refine bD ?_ | refine bA ?_ _)); exact BK211.out), (by (with_reducible repeat (first | refine bN ?_ _ | refine bD ?_ | refine bA ?_ _)); exact BK212.out), (by (with_reducible repeat (first | refine bN ?_ _ | refine bD ?_ | refine bA ?_ _)); exact BK227.out), GW227.out, GE227.out, NB211_227.out, NB227_211.out, NB212_227.out, NB227_212.out, (by repeat (first | (with_reducible first | exact HB.out | apply eA | apply eN | apply eD | refine eS ?_ GE211.out | refine eS ?_ GE212.out | refine eS ?_ GE227.out) | exact HB.out))⟩)
                 ·
                  skip
                  rintro gb227 w31 ⟨hS_, h0_, h1_, h2_, h3_, h4_, h5_, h6_, h7_, h8_, h9_⟩
                  have n0_ : Aside0 (w31.heap[gb211]? = some (.cells #[.slice (some ad215) l0_0.length c0_0, .int .i64 a0_1] 26 (0, 0))) := ⟨h0_⟩
                  have n1_ : Aside0 (w31.heap[gb212]? = some (.cells #[.slice none 0 0, .int .i64 0] 26 (0, 0))) := ⟨h1_⟩
                  have n2_ : Aside0 (w31.heap[gb227]? = some (.cells #[.slice none 0 0, .int .i64 0] 26 (0, 0))) := ⟨h2_⟩
                  have n3_ : Aside0 (w.heap.size ≤ gb227) := ⟨h3_⟩
                  have n4_ : Aside0 (w.heap.size ≤ gb227) := ⟨h4_⟩
                  have n5_ : Aside0 (gb211 ≠ gb227) := ⟨h5_⟩
                  have n6_ : Aside0 (gb227 ≠ gb211) := ⟨h6_⟩
                  have n7_ : Aside0 (gb212 ≠ gb227) := ⟨h7_⟩
                  have n8_ : Aside0 (gb227 ≠ gb212) := ⟨h8_⟩
                  have n9_ : Aside0 (Below w.heap.size w w31) := ⟨h9_⟩
                  clear BK211 BK212 HB h0_ h1_ h2_ h3_ h4_ h5_ h6_ h7_ h8_ h9_
                  have BK211 := n0_
                  have BK212 := n1_
                  have BK227 := n2_
                  have GW227 := n3_
                  have GE227 := n4_
                  have NB211_227 := n5_
                  have NB227_211 := n6_
                  have NB212_227 := n7_
                  have NB227_212 := n8_
                  have HB := n9_
                  clear n0_ n1_ n2_ n3_ n4_ n5_ n6_ n7_ n8_ n9_
                  have hHeld : w31.cell? ⟨gb211, 0, none⟩ = some (.slice (some ad215) l0_0.length c0_0) ∧ w31.cell? ⟨gb211, 1, none⟩ = some (.int .i64 a0_1) ∧ w31.cell? (ad215.add (a1).toNat) = some (.int .i64 (rd l0_0 a1)) := hS_
                  refine norm_ (a' := ?_) ?_ ?_
                  rotate_left
                  ·
                   simp only [putAll, Act.put, sA, sZ, sU]
                   rfl
                  refine two_ (i := 2) (j := 10) (Ni := some 40) (Nj := some 48) #[true, true, true, true, true, true, true, true, true, true, false, false, true, true, false, true, false] #[true, true, false, true, true, true, true, true, true, true, true, false, true, true, false, true, false] rfl rfl rfl rfl (two_of HT_.out (by kernel_rfl)) (by decide) (by decide) (fun K hK => ?_) (fun K hK => ?_)
                  ·
                   skip
                   refine goes_ Try.func51 (by kernel_rfl) rfl #[.slice (some ad215) l0_0.length c0_0] (by rfl) rfl rfl (by (try simp only [List.map_toArray, List.map_cons, List.map_nil]); first | done | rfl | (simp only [List.length_drop, List.length_take]; rfl)) ?_
                   with_reducible refine (impl_copied.calls _ _ l0_0 t217 _ ?side1 ?side2 A19.out).mono ?_
                   (case side1 => repeat (first | exact (Kd.C_below HR0_0.out HB.out) | (with_reducible refine Kd.C_alloc ?_ _) | (with_reducible refine Kd.C_drewN ?_ _) | (with_reducible refine Kd.C_drew ?_)))
                   (case side2 => exact HC0_0.out)
                   rintro e w32 ⟨v218, rfl, ho0, hb⟩
                   refine ⟨_, rfl, ?_⟩
                   have n0_ := aM (Kd.R_lower ho0 (below_size (by repeat (first | (with_reducible first | exact HB.out | apply eA | apply eN | apply eD | refine eS ?_ GE211.out | refine eS ?_ GE212.out | refine eS ?_ GE227.out) | exact HB.out))))
                   have n1_ := aM (bB (g := gb211) (o := .cells #[.slice (some ad215) l0_0.length c0_0, .int .i64 a0_1] 26 (0, 0)) (by (with_reducible repeat (first | refine bN ?_ _ | refine bD ?_ | refine bA ?_ _)); exact BK211.out) hb)
                   have n2_ := aM (bB (g := gb212) (o := .cells #[.slice none 0 0, .int .i64 0] 26 (0, 0)) (by (with_reducible repeat (first | refine bN ?_ _ | refine bD ?_ | refine bA ?_ _)); exact BK212.out) hb)
                   have n3_ := aM (bB (g := gb227) (o := .cells #[.slice none 0 0, .int .i64 0] 26 (0, 0)) (by (with_reducible repeat (first | refine bN ?_ _ | refine bD ?_ | refine bA ?_ _)); exact BK227.out) hb)
                   have n4_ := aM (below_step (by repeat (first | (with_reducible first | exact HB.out | apply eA | apply eN | apply eD | refine eS ?_ GE211.out | refine eS ?_ GE212.out | refine eS ?_ GE227.out) | exact HB.out)) hb)
                   clear BK211 BK212 BK227 HB
                   have HO219 := n0_
                   have BK211 := n1_
                   have BK212 := n2_
                   have BK227 := n3_
                   have HB := n4_
                   clear n0_ n1_ n2_ n3_ n4_
                   (try clear hb)
                   (try clear hb2)
                   (try clear hk)
                   (try clear hi)
                   (try clear ho0)
                   refine hK.out _ _ ⟨(bC BK211.out 0).trans rfl, (bC BK211.out 1).trans rfl, ((HB.out.cell (World.block_lt_of_cell? w _ hw220_0)).trans hw220_0)⟩ (fun hHeld => ?_)
                   clear hK K
                   refine norm_ (a' := ?_) ?_ ?_
                   rotate_left
                   ·
                    show Act.put _ (some 40) _ = _
                    simp only [Act.put, sA, sZ, sU, i64_w, i32_w]
                    rfl
                   exact norm_ (by first | (simp only [putAll, Act.put, sA, sZ, sU]; done) | (simp only [putAll, Act.put, sA, sZ, sU]; rfl)) (hJ2_15 (v218, gb227) _ ⟨hHeld, (by (with_reducible repeat (first | apply rA | apply rN | apply rD)); exact HO219.out), (by (with_reducible repeat (first | refine bN ?_ _ | refine bD ?_ | refine bA ?_ _)); exact BK211.out), (by (with_reducible repeat (first | refine bN ?_ _ | refine bD ?_ | refine bA ?_ _)); exact BK212.out), (by (with_reducible repeat (first | refine bN ?_ _ | refine bD ?_ | refine bA ?_ _)); exact BK227.out), GW227.out, GE227.out, NB211_227.out, NB227_211.out, NB212_227.out, NB227_212.out, (by repeat (first | (with_reducible first | exact HB.out | apply eA | apply eN | apply eD | refine eS ?_ GE211.out | refine eS ?_ GE212.out | refine eS ?_ GE227.out) | exact HB.out))⟩)
                  ·
                   skip
                   refine Kd.R_lit_step (Kd.int .i64) _ 3 ?hg (N := 48) ?hd (xs := ([wrap64 ((rd l0_0 a1) - a2)] : List Int)) (inner := [.int .i64 (wrap64 ((rd l0_0 a1) - a2))]) (ok := fun _ => True) (okp := fun _ => True) ?hr ?hp (fun _ hk => hk) trivial (Below.refl _ _) (Nat.le_refl _) (by simp) ?_; (case hd => rfl); (case hg => rfl); (case hr => first | (go_simp; done) | (go_simp; rfl)); (case hp => exact (Reps.one (show Kd.M (Kd.int .i64) _ _ _ (wrap64 ((rd l0_0 a1) - a2)) [.int .i64 (wrap64 ((rd l0_0 a1) - a2))] from rfl) (Reps.none _ _)))
                   intro v222 w32 ho33 hb hg_ hnew_
                   clear hg_ hnew_
                   (first | rw [← Ny221.out] at ho33 | (simp only [Int.reduceToNat] at ho33; rw [← Ny221.out] at ho33))
                   have n0_ := aM (Kd.R_lower ho33 (below_size (by repeat (first | (with_reducible first | exact HB.out | apply eA | apply eN | apply eD | refine eS ?_ GE211.out | refine eS ?_ GE212.out | refine eS ?_ GE227.out) | exact HB.out))))
                   have n1_ := aM (bB (g := gb211) (o := .cells #[.slice (some ad215) l0_0.length c0_0, .int .i64 a0_1] 26 (0, 0)) (by (with_reducible repeat (first | refine bN ?_ _ | refine bD ?_ | refine bA ?_ _)); exact BK211.out) hb)
                   have n2_ := aM (bB (g := gb212) (o := .cells #[.slice none 0 0, .int .i64 0] 26 (0, 0)) (by (with_reducible repeat (first | refine bN ?_ _ | refine bD ?_ | refine bA ?_ _)); exact BK212.out) hb)
                   have n3_ := aM (bB (g := gb227) (o := .cells #[.slice none 0 0, .int .i64 0] 26 (0, 0)) (by (with_reducible repeat (first | refine bN ?_ _ | refine bD ?_ | refine bA ?_ _)); exact BK227.out) hb)
                   have n4_ := aM (below_step (by repeat (first | (with_reducible first | exact HB.out | apply eA | apply eN | apply eD | refine eS ?_ GE211.out | refine eS ?_ GE212.out | refine eS ?_ GE227.out) | exact HB.out)) hb)
                   clear BK211 BK212 BK227 HB
                   have HO223 := n0_
                   have BK211 := n1_
                   have BK212 := n2_
                   have BK227 := n3_
                   have HB := n4_
                   clear n0_ n1_ n2_ n3_ n4_ hb ho33
                   refine hK.out _ _ ⟨(bC BK211.out 0).trans rfl, (bC BK211.out 1).trans rfl, ((HB.out.cell (World.block_lt_of_cell? w _ hw220_0)).trans hw220_0)⟩ (fun hHeld => ?_)
                   clear hK K
                   refine norm_ (a' := ?_) ?_ ?_
                   rotate_left
                   ·
                    show Act.put _ (some 48) _ = _
                    simp only [Act.put, sA, sZ, sU, i64_w, i32_w]
                    rfl
                   exact norm_ (by first | (simp only [putAll, Act.put, sA, sZ, sU]; done) | (simp only [putAll, Act.put, sA, sZ, sU]; rfl)) (hJ10_15 (v222, gb227) _ ⟨hHeld, (by (with_reducible repeat (first | apply rA | apply rN | apply rD)); exact HO223.out), (by (with_reducible repeat (first | refine bN ?_ _ | refine bD ?_ | refine bA ?_ _)); exact BK211.out), (by (with_reducible repeat (first | refine bN ?_ _ | refine bD ?_ | refine bA ?_ _)); exact BK212.out), (by (with_reducible repeat (first | refine bN ?_ _ | refine bD ?_ | refine bA ?_ _)); exact BK227.out), GW227.out, GE227.out, NB211_227.out, NB227_211.out, NB212_227.out, NB227_212.out, (by repeat (first | (with_reducible first | exact HB.out | apply eA | apply eN | apply eD | refine eS ?_ GE211.out | refine eS ?_ GE212.out | refine eS ?_ GE227.out) | exact HB.out))⟩)
                ·
                 skip
                 rintro v222 w32 ⟨hS_, h0_, h1_, h2_, h3_⟩
                 have n0_ : Aside0 (Kd.R (Kd.int .i64) 3 w32 w.heap.size (fun _ => True) v222 y221) := ⟨h0_⟩
                 have n1_ : Aside0 (w32.heap[gb211]? = some (.cells #[.slice (some ad215) l0_0.length c0_0, .int .i64 a0_1] 26 (0, 0))) := ⟨h1_⟩
                 have n2_ : Aside0 (w32.heap[gb212]? = some (.cells #[.slice none 0 0, .int .i64 0] 26 (0, 0))) := ⟨h2_⟩
                 have n3_ : Aside0 (Below w.heap.size w w32) := ⟨h3_⟩
                 clear BK211 BK212 HB h0_ h1_ h2_ h3_
                 have HO223 := n0_
                 have BK211 := n1_
                 have BK212 := n2_
                 have HB := n3_
                 clear n0_ n1_ n2_ n3_
                 have hHeld : w32.cell? ⟨gb211, 0, none⟩ = some (.slice (some ad215) l0_0.length c0_0) ∧ w32.cell? ⟨gb211, 1, none⟩ = some (.int .i64 a0_1) ∧ w32.cell? (ad215.add (a1).toNat) = some (.int .i64 (rd l0_0 a1)) := hS_
                 refine norm_ (a' := ?_) ?_ ?_
                 rotate_left
                 ·
                  simp only [putAll, Act.put, sA, sZ, sU]
                  rfl
                 refine two_ (i := 2) (j := 15) (Ni := some 40) (Nj := some 9) #[true, true, true, true, true, true, true, true, true, true, true, false, true, true, false, false, false] #[true, true, false, true, true, true, true, true, true, true, true, false, true, true, false, true, false] rfl rfl rfl rfl (two_of HT_.out (by kernel_rfl)) (by decide) (by decide) (fun K hK => ?_) (fun K hK => ?_)
                 ·
                  skip
                  refine goes_ Try.func51 (by kernel_rfl) rfl #[.slice (some ad215) l0_0.length c0_0] (by rfl) rfl rfl (by (try simp only [List.map_toArray, List.map_cons, List.map_nil]); first | done | rfl | (simp only [List.length_drop, List.length_take]; rfl)) ?_
                  with_reducible refine (impl_copied.calls _ _ l0_0 t217 _ ?side1 ?side2 A19.out).mono ?_
                  (case side1 => repeat (first | exact (Kd.C_below HR0_0.out HB.out) | (with_reducible refine Kd.C_alloc ?_ _) | (with_reducible refine Kd.C_drewN ?_ _) | (with_reducible refine Kd.C_drew ?_)))
                  (case side2 => exact HC0_0.out)
                  rintro e w33 ⟨v218, rfl, ho0, hb⟩
                  refine ⟨_, rfl, ?_⟩
                  have n0_ := aM (Kd.R_elder' (by (with_reducible repeat (first | apply rA | apply rN | apply rD)); exact HO223.out) (Kd.R_base ho0) hb)
                  have n1_ := aM (Kd.R_lower (Kd.R_new' ho0 (Kd.R_lt (by (with_reducible repeat (first | apply rA | apply rN | apply rD)); exact HO223.out))) (below_size (by repeat (first | (with_reducible first | exact HB.out | apply eA | apply eN | apply eD | refine eS ?_ GE211.out | refine eS ?_ GE212.out) | exact HB.out))))
                  have n2_ := aM (bB (g := gb211) (o := .cells #[.slice (some ad215) l0_0.length c0_0, .int .i64 a0_1] 26 (0, 0)) (by (with_reducible repeat (first | refine bN ?_ _ | refine bD ?_ | refine bA ?_ _)); exact BK211.out) hb)
                  have n3_ := aM (bB (g := gb212) (o := .cells #[.slice none 0 0, .int .i64 0] 26 (0, 0)) (by (with_reducible repeat (first | refine bN ?_ _ | refine bD ?_ | refine bA ?_ _)); exact BK212.out) hb)
                  have n4_ := aM (below_step (by repeat (first | (with_reducible first | exact HB.out | apply eA | apply eN | apply eD | refine eS ?_ GE211.out | refine eS ?_ GE212.out) | exact HB.out)) hb)
                  clear HO223 BK211 BK212 HB
                  have HO223 := n0_
                  have HO219 := n1_
                  have BK211 := n2_
                  have BK212 := n3_
                  have HB := n4_
                  clear n0_ n1_ n2_ n3_ n4_
                  (try clear hb)
                  (try clear hb2)
                  (try clear hk)
                  (try clear hi)
                  (try clear ho0)
                  refine hK.out _ _ ⟨(bC BK211.out 0).trans rfl, (bC BK211.out 1).trans rfl, ((HB.out.cell (World.block_lt_of_cell? w _ hw220_0)).trans hw220_0)⟩ (fun hHeld => ?_)
                  clear hK K
                  refine norm_ (a' := ?_) ?_ ?_
                  rotate_left
                  ·
                   show Act.put _ (some 40) _ = _
                   simp only [Act.put, sA, sZ, sU, i64_w, i32_w]
                   rfl
                  exact norm_ (by first | (simp only [putAll, Act.put, sA, sZ, sU]; done) | (simp only [putAll, Act.put, sA, sZ, sU]; rfl)) (hJ2_10 (v218, v222) _ ⟨hHeld, (by (with_reducible repeat (first | apply rA | apply rN | apply rD)); exact rM HO219.out (fun _ hk => by first | exact hk.2 | exact trivial)), (by (with_reducible repeat (first | apply rA | apply rN | apply rD)); exact rM HO223.out (fun _ hk => by first | exact hk.2 | exact trivial)), (by (with_reducible repeat (first | refine bN ?_ _ | refine bD ?_ | refine bA ?_ _)); exact BK211.out), (by (with_reducible repeat (first | refine bN ?_ _ | refine bD ?_ | refine bA ?_ _)); exact BK212.out), (by repeat (first | (with_reducible first | exact HB.out | apply eA | apply eN | apply eD | refine eS ?_ GE211.out | refine eS ?_ GE212.out) | exact HB.out))⟩)
                 ·
                  skip
                  refine box_step ?hg (N := 9) ?hd (cs := #[.slice none 0 0, .int .i64 0]) (t := 26) ?hr ?_; (case hd => rfl); (case hg => rfl); (case hr => first | (go_simp; done) | (go_simp; rfl))
                  intro gb227 hg w33 hbox hb
                  have n0_ := aM (Kd.R_below (by (with_reducible repeat (first | apply rA | apply rN | apply rD)); exact HO223.out) hb)
                  have n1_ := aM (bB (g := gb211) (o := .cells #[.slice (some ad215) l0_0.length c0_0, .int .i64 a0_1] 26 (0, 0)) (by (with_reducible repeat (first | refine bN ?_ _ | refine bD ?_ | refine bA ?_ _)); exact BK211.out) hb)
                  have n2_ := aM (bB (g := gb212) (o := .cells #[.slice none 0 0, .int .i64 0] 26 (0, 0)) (by (with_reducible repeat (first | refine bN ?_ _ | refine bD ?_ | refine bA ?_ _)); exact BK212.out) hb)
                  have n3_ := aM (below_step (by repeat (first | (with_reducible first | exact HB.out | apply eA | apply eN | apply eD | refine eS ?_ GE211.out | refine eS ?_ GE212.out) | exact HB.out)) hb)
                  have n4_ := aM (hbox)
                  have n5_ := aM ((by rw [hg]; exact (below_size (by repeat (first | (with_reducible first | exact HB.out | apply eA | apply eN | apply eD | refine eS ?_ GE211.out | refine eS ?_ GE212.out) | exact HB.out))) : w.heap.size ≤ gb227))
                  have n6_ := aM ((by rw [hg]; exact (below_size (by repeat (first | (with_reducible first | exact HB.out | apply eA | apply eN | apply eD | refine eS ?_ GE211.out | refine eS ?_ GE212.out) | exact HB.out))) : w.heap.size ≤ gb227))
                  have n7_ := aM ((by rw [hg]; exact Nat.ne_of_lt (blk_lt (g := gb211) (o := .cells #[.slice (some ad215) l0_0.length c0_0, .int .i64 a0_1] 26 (0, 0)) (by (with_reducible repeat (first | refine bN ?_ _ | refine bD ?_ | refine bA ?_ _)); exact BK211.out)) : gb211 ≠ gb227))
                  have n8_ := aM ((by rw [hg]; exact Nat.ne_of_gt (blk_lt (g := gb211) (o := .cells #[.slice (some ad215) l0_0.length c0_0, .int .i64 a0_1] 26 (0, 0)) (by (with_reducible repeat (first | refine bN ?_ _ | refine bD ?_ | refine bA ?_ _)); exact BK211.out)) : gb227 ≠ gb211))
                  have n9_ := aM ((by rw [hg]; exact Nat.ne_of_lt (blk_lt (g := gb212) (o := .cells #[.slice none 0 0, .int .i64 0] 26 (0, 0)) (by (with_reducible repeat (first | refine bN ?_ _ | refine bD ?_ | refine bA ?_ _)); exact BK212.out)) : gb212 ≠ gb227))
                  have n10_ := aM ((by rw [hg]; exact Nat.ne_of_gt (blk_lt (g := gb212) (o := .cells #[.slice none 0 0, .int .i64 0] 26 (0, 0)) (by (with_reducible repeat (first | refine bN ?_ _ | refine bD ?_ | refine bA ?_ _)); exact BK212.out)) : gb227 ≠ gb212))
                  clear HO223 BK211 BK212 HB
                  have HO223 := n0_
                  have BK211 := n1_
                  have BK212 := n2_
                  have HB := n3_
                  have BK227 := n4_
                  have GW227 := n5_
                  have GE227 := n6_
                  have NB211_227 := n7_
                  have NB227_211 := n8_
                  have NB212_227 := n9_
                  have NB227_212 := n10_
                  clear n0_ n1_ n2_ n3_ n4_ n5_ n6_ n7_ n8_ n9_ n10_ hb hbox hg
                  refine hK.out _ _ ⟨(bC BK211.out 0).trans rfl, (bC BK211.out 1).trans rfl, ((HB.out.cell (World.block_lt_of_cell? w _ hw220_0)).trans hw220_0)⟩ (fun hHeld => ?_)
                  clear hK K
                  refine norm_ (a' := ?_) ?_ ?_
                  rotate_left
                  ·
                   show Act.put _ (some 9) _ = _
                   simp only [Act.put, sA, sZ, sU, i64_w, i32_w]
                   rfl
                  exact norm_ (by first | (simp only [putAll, Act.put, sA, sZ, sU]; done) | (simp only [putAll, Act.put, sA, sZ, sU]; rfl)) (hJ10_15 (v222, gb227) _ ⟨hHeld, (by (with_reducible repeat (first | apply rA | apply rN | apply rD)); exact HO223.out), (by (with_reducible repeat (first | refine bN ?_ _ | refine bD ?_ | refine bA ?_ _)); exact BK211.out), (by (with_reducible repeat (first | refine bN ?_ _ | refine bD ?_ | refine bA ?_ _)); exact BK212.out), (by (with_reducible repeat (first | refine bN ?_ _ | refine bD ?_ | refine bA ?_ _)); exact BK227.out), GW227.out, GE227.out, NB211_227.out, NB227_211.out, NB212_227.out, NB227_212.out, (by repeat (first | (with_reducible first | exact HB.out | apply eA | apply eN | apply eD | refine eS ?_ GE211.out | refine eS ?_ GE212.out | refine eS ?_ GE227.out) | exact HB.out))⟩)
               ·
                skip
                rintro v218 w31 ⟨hS_, h0_, h1_, h2_, h3_⟩
                have n0_ : Aside0 (Kd.R (Kd.int .i64) 3 w31 w.heap.size (fun _ => True) v218 t217) := ⟨h0_⟩
                have n1_ : Aside0 (w31.heap[gb211]? = some (.cells #[.slice (some ad215) l0_0.length c0_0, .int .i64 a0_1] 26 (0, 0))) := ⟨h1_⟩
                have n2_ : Aside0 (w31.heap[gb212]? = some (.cells #[.slice none 0 0, .int .i64 0] 26 (0, 0))) := ⟨h2_⟩
                have n3_ : Aside0 (Below w.heap.size w w31) := ⟨h3_⟩
                clear BK211 BK212 HB h0_ h1_ h2_ h3_
                have HO219 := n0_
                have BK211 := n1_
                have BK212 := n2_
                have HB := n3_
                clear n0_ n1_ n2_ n3_
                have hHeld : w31.cell? ⟨gb211, 0, none⟩ = some (.slice (some ad215) l0_0.length c0_0) ∧ w31.cell? ⟨gb211, 1, none⟩ = some (.int .i64 a0_1) ∧ w31.cell? (ad215.add (a1).toNat) = some (.int .i64 (rd l0_0 a1)) := hS_
                refine norm_ (a' := ?_) ?_ ?_
                rotate_left
                ·
                 simp only [putAll, Act.put, sA, sZ, sU]
                 rfl
                refine two_ (i := 10) (j := 15) (Ni := some 48) (Nj := some 9) #[true, true, true, true, true, true, true, true, true, true, true, false, true, true, false, false, false] #[true, true, true, true, true, true, true, true, true, true, false, false, true, true, false, true, false] rfl rfl rfl rfl (two_of HT_.out (by kernel_rfl)) (by decide) (by decide) (fun K hK => ?_) (fun K hK => ?_)
                ·
                 skip
                 refine Kd.R_lit_step (Kd.int .i64) _ 3 ?hg (N := 48) ?hd (xs := ([wrap64 ((rd l0_0 a1) - a2)] : List Int)) (inner := [.int .i64 (wrap64 ((rd l0_0 a1) - a2))]) (ok := fun _ => True) (okp := fun _ => True) ?hr ?hp (fun _ hk => hk) trivial (Below.refl _ _) (Nat.le_refl _) (by simp) ?_; (case hd => rfl); (case hg => rfl); (case hr => first | (go_simp; done) | (go_simp; rfl)); (case hp => exact (Reps.one (show Kd.M (Kd.int .i64) _ _ _ (wrap64 ((rd l0_0 a1) - a2)) [.int .i64 (wrap64 ((rd l0_0 a1) - a2))] from rfl) (Reps.none _ _)))
                 intro v222 w32 ho33 hb hg_ hnew_
                 clear hg_ hnew_
                 (first | rw [← Ny221.out] at ho33 | (simp only [Int.reduceToNat] at ho33; rw [← Ny221.out] at ho33))
                 have n0_ := aM (Kd.R_elder' (by (with_reducible repeat (first | apply rA | apply rN | apply rD)); exact HO219.out) (Kd.R_base ho33) hb)
                 have n1_ := aM (Kd.R_lower (Kd.R_new' ho33 (Kd.R_lt (by (with_reducible repeat (first | apply rA | apply rN | apply rD)); exact HO219.out))) (below_size (by repeat (first | (with_reducible first | exact HB.out | apply eA | apply eN | apply eD | refine eS ?_ GE211.out | refine eS ?_ GE212.out) | exact HB.out))))
                 have n2_ := aM (bB (g := gb211) (o := .cells #[.slice (some ad215) l0_0.length c0_0, .int .i64 a0_1] 26 (0, 0)) (by (with_reducible repeat (first | refine bN ?_ _ | refine bD ?_ | refine bA ?_ _)); exact BK211.out) hb)
                 have n3_ := aM (bB (g := gb212) (o := .cells #[.slice none 0 0, .int .i64 0] 26 (0, 0)) (by (with_reducible repeat (first | refine bN ?_ _ | refine bD ?_ | refine bA ?_ _)); exact BK212.out) hb)
                 have n4_ := aM (below_step (by repeat (first | (with_reducible first | exact HB.out | apply eA | apply eN | apply eD | refine eS ?_ GE211.out | refine eS ?_ GE212.out) | exact HB.out)) hb)
                 clear HO219 BK211 BK212 HB
                 have HO219 := n0_
                 have HO223 := n1_
                 have BK211 := n2_
                 have BK212 := n3_
                 have HB := n4_
                 clear n0_ n1_ n2_ n3_ n4_ hb ho33
                 refine hK.out _ _ ⟨(bC BK211.out 0).trans rfl, (bC BK211.out 1).trans rfl, ((HB.out.cell (World.block_lt_of_cell? w _ hw220_0)).trans hw220_0)⟩ (fun hHeld => ?_)
                 clear hK K
                 refine norm_ (a' := ?_) ?_ ?_
                 rotate_left
                 ·
                  show Act.put _ (some 48) _ = _
                  simp only [Act.put, sA, sZ, sU, i64_w, i32_w]
                  rfl
                 exact norm_ (by first | (simp only [putAll, Act.put, sA, sZ, sU]; done) | (simp only [putAll, Act.put, sA, sZ, sU]; rfl)) (hJ2_10 (v218, v222) _ ⟨hHeld, (by (with_reducible repeat (first | apply rA | apply rN | apply rD)); exact rM HO219.out (fun _ hk => by first | exact hk.2 | exact trivial)), (by (with_reducible repeat (first | apply rA | apply rN | apply rD)); exact rM HO223.out (fun _ hk => by first | exact hk.2 | exact trivial)), (by (with_reducible repeat (first | refine bN ?_ _ | refine bD ?_ | refine bA ?_ _)); exact BK211.out), (by (with_reducible repeat (first | refine bN ?_ _ | refine bD ?_ | refine bA ?_ _)); exact BK212.out), (by repeat (first | (with_reducible first | exact HB.out | apply eA | apply eN | apply eD | refine eS ?_ GE211.out | refine eS ?_ GE212.out) | exact HB.out))⟩)
                ·
                 skip
                 refine box_step ?hg (N := 9) ?hd (cs := #[.slice none 0 0, .int .i64 0]) (t := 26) ?hr ?_; (case hd => rfl); (case hg => rfl); (case hr => first | (go_simp; done) | (go_simp; rfl))
                 intro gb227 hg w32 hbox hb
                 have n0_ := aM (Kd.R_below (by (with_reducible repeat (first | apply rA | apply rN | apply rD)); exact HO219.out) hb)
                 have n1_ := aM (bB (g := gb211) (o := .cells #[.slice (some ad215) l0_0.length c0_0, .int .i64 a0_1] 26 (0, 0)) (by (with_reducible repeat (first | refine bN ?_ _ | refine bD ?_ | refine bA ?_ _)); exact BK211.out) hb)
                 have n2_ := aM (bB (g := gb212) (o := .cells #[.slice none 0 0, .int .i64 0] 26 (0, 0)) (by (with_reducible repeat (first | refine bN ?_ _ | refine bD ?_ | refine bA ?_ _)); exact BK212.out) hb)
                 have n3_ := aM (below_step (by repeat (first | (with_reducible first | exact HB.out | apply eA | apply eN | apply eD | refine eS ?_ GE211.out | refine eS ?_ GE212.out) | exact HB.out)) hb)
                 have n4_ := aM (hbox)
                 have n5_ := aM ((by rw [hg]; exact (below_size (by repeat (first | (with_reducible first | exact HB.out | apply eA | apply eN | apply eD | refine eS ?_ GE211.out | refine eS ?_ GE212.out) | exact HB.out))) : w.heap.size ≤ gb227))
                 have n6_ := aM ((by rw [hg]; exact (below_size (by repeat (first | (with_reducible first | exact HB.out | apply eA | apply eN | apply eD | refine eS ?_ GE211.out | refine eS ?_ GE212.out) | exact HB.out))) : w.heap.size ≤ gb227))
                 have n7_ := aM ((by rw [hg]; exact Nat.ne_of_lt (blk_lt (g := gb211) (o := .cells #[.slice (some ad215) l0_0.length c0_0, .int .i64 a0_1] 26 (0, 0)) (by (with_reducible repeat (first | refine bN ?_ _ | refine bD ?_ | refine bA ?_ _)); exact BK211.out)) : gb211 ≠ gb227))
                 have n8_ := aM ((by rw [hg]; exact Nat.ne_of_gt (blk_lt (g := gb211) (o := .cells #[.slice (some ad215) l0_0.length c0_0, .int .i64 a0_1] 26 (0, 0)) (by (with_reducible repeat (first | refine bN ?_ _ | refine bD ?_ | refine bA ?_ _)); exact BK211.out)) : gb227 ≠ gb211))
                 have n9_ := aM ((by rw [hg]; exact Nat.ne_of_lt (blk_lt (g := gb212) (o := .cells #[.slice none 0 0, .int .i64 0] 26 (0, 0)) (by (with_reducible repeat (first | refine bN ?_ _ | refine bD ?_ | refine bA ?_ _)); exact BK212.out)) : gb212 ≠ gb227))
                 have n10_ := aM ((by rw [hg]; exact Nat.ne_of_gt (blk_lt (g := gb212) (o := .cells #[.slice none 0 0, .int .i64 0] 26 (0, 0)) (by (with_reducible repeat (first | refine bN ?_ _ | refine bD ?_ | refine bA ?_ _)); exact BK212.out)) : gb227 ≠ gb212))
                 clear HO219 BK211 BK212 HB
                 have HO219 := n0_
                 have BK211 := n1_
                 have BK212 := n2_
                 have HB := n3_
                 have BK227 := n4_
                 have GW227 := n5_
                 have GE227 := n6_
                 have NB211_227 := n7_
                 have NB227_211 := n8_
                 have NB212_227 := n9_
                 have NB227_212 := n10_
                 clear n0_ n1_ n2_ n3_ n4_ n5_ n6_ n7_ n8_ n9_ n10_ hb hbox hg
                 refine hK.out _ _ ⟨(bC BK211.out 0).trans rfl, (bC BK211.out 1).trans rfl, ((HB.out.cell (World.block_lt_of_cell? w _ hw220_0)).trans hw220_0)⟩ (fun hHeld => ?_)
                 clear hK K
                 refine norm_ (a' := ?_) ?_ ?_
                 rotate_left
                 ·
                  show Act.put _ (some 9) _ = _
                  simp only [Act.put, sA, sZ, sU, i64_w, i32_w]
                  rfl
                 exact norm_ (by first | (simp only [putAll, Act.put, sA, sZ, sU]; done) | (simp only [putAll, Act.put, sA, sZ, sU]; rfl)) (hJ2_15 (v218, gb227) _ ⟨hHeld, (by (with_reducible repeat (first | apply rA | apply rN | apply rD)); exact HO219.out), (by (with_reducible repeat (first | refine bN ?_ _ | refine bD ?_ | refine bA ?_ _)); exact BK211.out), (by (with_reducible repeat (first | refine bN ?_ _ | refine bD ?_ | refine bA ?_ _)); exact BK212.out), (by (with_reducible repeat (first | refine bN ?_ _ | refine bD ?_ | refine bA ?_ _)); exact BK227.out), GW227.out, GE227.out, NB211_227.out, NB227_211.out, NB212_227.out, NB227_212.out, (by repeat (first | (with_reducible first | exact HB.out | apply eA | apply eN | apply eD | refine eS ?_ GE211.out | refine eS ?_ GE212.out | refine eS ?_ GE227.out) | exact HB.out))⟩)
              ·
               skip
               rintro ⟨v222, gb227⟩ w33 ⟨hS_, h0_, h1_, h2_, h3_, h4_, h5_, h6_, h7_, h8_, h9_, h10_⟩
               have n0_ : Aside0 (Kd.R (Kd.int .i64) 3 w33 w.heap.size (fun _ => True) v222 y221) := ⟨h0_⟩
               have n1_ : Aside0 (w33.heap[gb211]? = some (.cells #[.slice (some ad215) l0_0.length c0_0, .int .i64 a0_1] 26 (0, 0))) := ⟨h1_⟩
               have n2_ : Aside0 (w33.heap[gb212]? = some (.cells #[.slice none 0 0, .int .i64 0] 26 (0, 0))) := ⟨h2_⟩
               have n3_ : Aside0 (w33.heap[gb227]? = some (.cells #[.slice none 0 0, .int .i64 0] 26 (0, 0))) := ⟨h3_⟩
               have n4_ : Aside0 (w.heap.size ≤ gb227) := ⟨h4_⟩
               have n5_ : Aside0 (w.heap.size ≤ gb227) := ⟨h5_⟩
               have n6_ : Aside0 (gb211 ≠ gb227) := ⟨h6_⟩
               have n7_ : Aside0 (gb227 ≠ gb211) := ⟨h7_⟩
               have n8_ : Aside0 (gb212 ≠ gb227) := ⟨h8_⟩
               have n9_ : Aside0 (gb227 ≠ gb212) := ⟨h9_⟩
               have n10_ : Aside0 (Below w.heap.size w w33) := ⟨h10_⟩
               clear BK211 BK212 HB h0_ h1_ h2_ h3_ h4_ h5_ h6_ h7_ h8_ h9_ h10_
               have HO223 := n0_
               have BK211 := n1_
               have BK212 := n2_
               have BK227 := n3_
               have GW227 := n4_
               have GE227 := n5_
               have NB211_227 := n6_
               have NB227_211 := n7_
               have NB212_227 := n8_
               have NB227_212 := n9_
               have HB := n10_
               clear n0_ n1_ n2_ n3_ n4_ n5_ n6_ n7_ n8_ n9_ n10_
               have hHeld : w33.cell? ⟨gb211, 0, none⟩ = some (.slice (some ad215) l0_0.length c0_0) ∧ w33.cell? ⟨gb211, 1, none⟩ = some (.int .i64 a0_1) ∧ w33.cell? (ad215.add (a1).toNat) = some (.int .i64 (rd l0_0 a1)) := hS_
               refine norm_ (a' := ?_) ?_ ?_
               rotate_left
               ·
                simp only [putAll, Act.put, sA, sZ, sU]
                rfl
               refine one_ (i := 2) (N := some 40) #[true, true, true, true, true, true, true, true, true, true, true, false, true, true, false, true, false] rfl rfl (one_of HT_.out (by kernel_rfl)) (by decide) (fun K hK => ?_)
               refine goes_ Try.func51 (by kernel_rfl) rfl #[.slice (some ad215) l0_0.length c0_0] (by rfl) rfl rfl (by (try simp only [List.map_toArray, List.map_cons, List.map_nil]); first | done | rfl | (simp only [List.length_drop, List.length_take]; rfl)) ?_
               with_reducible refine (impl_copied.calls _ _ l0_0 t217 _ ?side1 ?side2 A19.out).mono ?_
               (case side1 => repeat (first | exact (Kd.C_below HR0_0.out HB.out) | (with_reducible refine Kd.C_alloc ?_ _) | (with_reducible refine Kd.C_drewN ?_ _) | (with_reducible refine Kd.C_drew ?_)))
               (case side2 => exact HC0_0.out)
               rintro e w34 ⟨v218, rfl, ho0, hb⟩
               refine ⟨_, rfl, ?_⟩
               have n0_ := aM (Kd.R_elder' (by (with_reducible repeat (first | apply rA | apply rN | apply rD)); exact HO223.out) (Kd.R_base ho0) hb)
               have n1_ := aM (Kd.R_lower (Kd.R_new' ho0 (Kd.R_lt (by (with_reducible repeat (first | apply rA | apply rN | apply rD)); exact HO223.out))) (below_size (by repeat (first | (with_reducible first | exact HB.out | apply eA | apply eN | apply eD | refine eS ?_ GE211.out | refine eS ?_ GE212.out | refine eS ?_ GE227.out) | exact HB.out))))
               have n2_ := aM (bB (g := gb211) (o := .cells #[.slice (some ad215) l0_0.length c0_0, .int .i64 a0_1] 26 (0, 0)) (by (with_reducible repeat (first | refine bN ?_ _ | refine bD ?_ | refine bA ?_ _)); exact BK211.out) hb)
               have n3_ := aM (bB (g := gb212) (o := .cells #[.slice none 0 0, .int .i64 0] 26 (0, 0)) (by (with_reducible repeat (first | refine bN ?_ _ | refine bD ?_ | refine bA ?_ _)); exact BK212.out) hb)
               have n4_ := aM (bB (g := gb227) (o := .cells #[.slice none 0 0, .int .i64 0] 26 (0, 0)) (by (with_reducible repeat (first | refine bN ?_ _ | refine bD ?_ | refine bA ?_ _)); exact BK227.out) hb)
               have n5_ := aM (below_step (by repeat (first | (with_reducible first | exact HB.out | apply eA | apply eN | apply eD | refine eS ?_ GE211.out | refine eS ?_ GE212.out | refine eS ?_ GE227.out) | exact HB.out)) hb)
               clear HO223 BK211 BK212 BK227 HB
               have HO223 := n0_
               have HO219 := n1_
               have BK211 := n2_
               have BK212 := n3_
               have BK227 := n4_
               have HB := n5_
               clear n0_ n1_ n2_ n3_ n4_ n5_
               (try clear hb)
               (try clear hb2)
               (try clear hk)
               (try clear hi)
               (try clear ho0)
               refine hK.out _ _ ⟨(bC BK211.out 0).trans rfl, (bC BK211.out 1).trans rfl, ((HB.out.cell (World.block_lt_of_cell? w _ hw220_0)).trans hw220_0)⟩ (fun hHeld => ?_)
               clear hK K
               refine norm_ (a' := ?_) ?_ ?_
               rotate_left
               ·
                show Act.put _ (some 40) _ = _
                simp only [Act.put, sA, sZ, sU, i64_w, i32_w]
                rfl
               exact norm_ (by first | (simp only [putAll, Act.put, sA, sZ, sU]; done) | (simp only [putAll, Act.put, sA, sZ, sU]; rfl)) (hJ2_10_15 (v218, v222, gb227) _ ⟨hHeld, (by (with_reducible repeat (first | apply rA | apply rN | apply rD)); exact rM HO219.out (fun _ hk => by first | exact hk.2 | exact trivial)), (by (with_reducible repeat (first | apply rA | apply rN | apply rD)); exact rM HO223.out (fun _ hk => by first | exact hk.2 | exact trivial)), (by (with_reducible repeat (first | refine bN ?_ _ | refine bD ?_ | refine bA ?_ _)); exact BK211.out), (by (with_reducible repeat (first | refine bN ?_ _ | refine bD ?_ | refine bA ?_ _)); exact BK212.out), (by (with_reducible repeat (first | refine bN ?_ _ | refine bD ?_ | refine bA ?_ _)); exact BK227.out), GW227.out, GE227.out, NB211_227.out, NB227_211.out, NB212_227.out, NB227_212.out, (by repeat (first | (with_reducible first | exact HB.out | apply eA | apply eN | apply eD | refine eS ?_ GE211.out | refine eS ?_ GE212.out | refine eS ?_ GE227.out) | exact HB.out))⟩)
             ·
              skip
              rintro ⟨v218, gb227⟩ w32 ⟨hS_, h0_, h1_, h2_, h3_, h4_, h5_, h6_, h7_, h8_, h9_, h10_⟩
              have n0_ : Aside0 (Kd.R (Kd.int .i64) 3 w32 w.heap.size (fun _ => True) v218 t217) := ⟨h0_⟩
              have n1_ : Aside0 (w32.heap[gb211]? = some (.cells #[.slice (some ad215) l0_0.length c0_0, .int .i64 a0_1] 26 (0, 0))) := ⟨h1_⟩
              have n2_ : Aside0 (w32.heap[gb212]? = some (.cells #[.slice none 0 0, .int .i64 0] 26 (0, 0))) := ⟨h2_⟩
              have n3_ : Aside0 (w32.heap[gb227]? = some (.cells #[.slice none 0 0, .int .i64 0] 26 (0, 0))) := ⟨h3_⟩
              have n4_ : Aside0 (w.heap.size ≤ gb227) := ⟨h4_⟩
              have n5_ : Aside0 (w.heap.size ≤ gb227) := ⟨h5_⟩
              have n6_ : Aside0 (gb211 ≠ gb227) := ⟨h6_⟩
              have n7_ : Aside0 (gb227 ≠ gb211) := ⟨h7_⟩
              have n8_ : Aside0 (gb212 ≠ gb227) := ⟨h8_⟩
              have n9_ : Aside0 (gb227 ≠ gb212) := ⟨h9_⟩
              have n10_ : Aside0 (Below w.heap.size w w32) := ⟨h10_⟩
              clear BK211 BK212 HB h0_ h1_ h2_ h3_ h4_ h5_ h6_ h7_ h8_ h9_ h10_
              have HO219 := n0_
              have BK211 := n1_
              have BK212 := n2_
              have BK227 := n3_
              have GW227 := n4_
              have GE227 := n5_
              have NB211_227 := n6_
              have NB227_211 := n7_
              have NB212_227 := n8_
              have NB227_212 := n9_
              have HB := n10_
              clear n0_ n1_ n2_ n3_ n4_ n5_ n6_ n7_ n8_ n9_ n10_
              have hHeld : w32.cell? ⟨gb211, 0, none⟩ = some (.slice (some ad215) l0_0.length c0_0) ∧ w32.cell? ⟨gb211, 1, none⟩ = some (.int .i64 a0_1) ∧ w32.cell? (ad215.add (a1).toNat) = some (.int .i64 (rd l0_0 a1)) := hS_
              refine norm_ (a' := ?_) ?_ ?_
              rotate_left
              ·
               simp only [putAll, Act.put, sA, sZ, sU]
               rfl
              refine one_ (i := 10) (N := some 48) #[true, true, true, true, true, true, true, true, true, true, true, false, true, true, false, true, false] rfl rfl (one_of HT_.out (by kernel_rfl)) (by decide) (fun K hK => ?_)
              refine Kd.R_lit_step (Kd.int .i64) _ 3 ?hg (N := 48) ?hd (xs := ([wrap64 ((rd l0_0 a1) - a2)] : List Int)) (inner := [.int .i64 (wrap64 ((rd l0_0 a1) - a2))]) (ok := fun _ => True) (okp := fun _ => True) ?hr ?hp (fun _ hk => hk) trivial (Below.refl _ _) (Nat.le_refl _) (by simp) ?_; (case hd => rfl); (case hg => rfl); (case hr => first | (go_simp; done) | (go_simp; rfl)); (case hp => exact (Reps.one (show Kd.M (Kd.int .i64) _ _ _ (wrap64 ((rd l0_0 a1) - a2)) [.int .i64 (wrap64 ((rd l0_0 a1) - a2))] from rfl) (Reps.none _ _)))
              intro v222 w33 ho34 hb hg_ hnew_
              clear hg_ hnew_
              (first | rw [← Ny221.out] at ho34 | (simp only [Int.reduceToNat] at ho34; rw [← Ny221.out] at ho34))
              have n0_ := aM (Kd.R_elder' (by (with_reducible repeat (first | apply rA | apply rN | apply rD)); exact HO219.out) (Kd.R_base ho34) hb)
              have n1_ := aM (Kd.R_lower (Kd.R_new' ho34 (Kd.R_lt (by (with_reducible repeat (first | apply rA | apply rN | apply rD)); exact HO219.out))) (below_size (by repeat (first | (with_reducible first | exact HB.out | apply eA | apply eN | apply eD | refine eS ?_ GE211.out | refine eS ?_ GE212.out | refine eS ?_ GE227.out) | exact HB.out))))
              have n2_ := aM (bB (g := gb211) (o := .cells #[.slice (some ad215) l0_0.length c0_0, .int .i64 a0_1] 26 (0, 0)) (by (with_reducible repeat (first | refine bN ?_ _ | refine bD ?_ | refine bA ?_ _)); exact BK211.out) hb)
              have n3_ := aM (bB (g := gb212) (o := .cells #[.slice none 0 0, .int .i64 0] 26 (0, 0)) (by (with_reducible repeat (first | refine bN ?_ _ | refine bD ?_ | refine bA ?_ _)); exact BK212.out) hb)
              have n4_ := aM (bB (g := gb227) (o := .cells #[.slice none 0 0, .int .i64 0] 26 (0, 0)) (by (with_reducible repeat (first | refine bN ?_ _ | refine bD ?_ | refine bA ?_ _)); exact BK227.out) hb)
              have n5_ := aM (below_step (by repeat (first | (with_reducible first | exact HB.out | apply eA | apply eN | apply eD | refine eS ?_ GE211.out | refine eS ?_ GE212.out | refine eS ?_ GE227.out) | exact HB.out)) hb)
              clear HO219 BK211 BK212 BK227 HB
              have HO219 := n0_
              have HO223 := n1_
              have BK211 := n2_
              have BK212 := n3_
              have BK227 := n4_
              have HB := n5_
              clear n0_ n1_ n2_ n3_ n4_ n5_ hb ho34
              refine hK.out _ _ ⟨(bC BK211.out 0).trans rfl, (bC BK211.out 1).trans rfl, ((HB.out.cell (World.block_lt_of_cell? w _ hw220_0)).trans hw220_0)⟩ (fun hHeld => ?_)
              clear hK K
              refine norm_ (a' := ?_) ?_ ?_
              rotate_left
              ·
               show Act.put _ (some 48) _ = _
               simp only [Act.put, sA, sZ, sU, i64_w, i32_w]
               rfl
              exact norm_ (by first | (simp only [putAll, Act.put, sA, sZ, sU]; done) | (simp only [putAll, Act.put, sA, sZ, sU]; rfl)) (hJ2_10_15 (v218, v222, gb227) _ ⟨hHeld, (by (with_reducible repeat (first | apply rA | apply rN | apply rD)); exact rM HO219.out (fun _ hk => by first | exact hk.2 | exact trivial)), (by (with_reducible repeat (first | apply rA | apply rN | apply rD)); exact rM HO223.out (fun _ hk => by first | exact hk.2 | exact trivial)), (by (with_reducible repeat (first | refine bN ?_ _ | refine bD ?_ | refine bA ?_ _)); exact BK211.out), (by (with_reducible repeat (first | refine bN ?_ _ | refine bD ?_ | refine bA ?_ _)); exact BK212.out), (by (with_reducible repeat (first | refine bN ?_ _ | refine bD ?_ | refine bA ?_ _)); exact BK227.out), GW227.out, GE227.out, NB211_227.out, NB227_211.out, NB212_227.out, NB227_212.out, (by repeat (first | (with_reducible first | exact HB.out | apply eA | apply eN | apply eD | refine eS ?_ GE211.out | refine eS ?_ GE212.out | refine eS ?_ GE227.out) | exact HB.out))⟩)
            ·
             skip
             rintro ⟨v218, v222⟩ w33 ⟨hS_, h0_, h1_, h2_, h3_, h4_⟩
             have n0_ : Aside0 (Kd.R (Kd.int .i64) 3 w33 w.heap.size (fun k_ => some k_ ≠ (v222 : Value).ownBlock) v218 t217) := ⟨h0_⟩
             have n1_ : Aside0 (Kd.R (Kd.int .i64) 3 w33 w.heap.size (fun k_ => some k_ ≠ (v218 : Value).ownBlock) v222 y221) := ⟨h1_⟩
             have n2_ : Aside0 (w33.heap[gb211]? = some (.cells #[.slice (some ad215) l0_0.length c0_0, .int .i64 a0_1] 26 (0, 0))) := ⟨h2_⟩
             have n3_ : Aside0 (w33.heap[gb212]? = some (.cells #[.slice none 0 0, .int .i64 0] 26 (0, 0))) := ⟨h3_⟩
             have n4_ : Aside0 (Below w.heap.size w w33) := ⟨h4_⟩
             clear BK211 BK212 HB h0_ h1_ h2_ h3_ h4_
             have HO219 := n0_
             have HO223 := n1_
             have BK211 := n2_
             have BK212 := n3_
             have HB := n4_
             clear n0_ n1_ n2_ n3_ n4_
             have hHeld : w33.cell? ⟨gb211, 0, none⟩ = some (.slice (some ad215) l0_0.length c0_0) ∧ w33.cell? ⟨gb211, 1, none⟩ = some (.int .i64 a0_1) ∧ w33.cell? (ad215.add (a1).toNat) = some (.int .i64 (rd l0_0 a1)) := hS_
             obtain ⟨Ao35, co35, eo35⟩ := Kd.R_slice HO223.out
             (first | subst eo35 | (injection eo35 with f1_ f2_ f3_; have f4_ := f1_.symm; have f5_ := f3_.symm; clear f1_ f2_ f3_; subst f4_; subst f5_))
             refine norm_ (a' := ?_) ?_ ?_
             rotate_left
             ·
              simp only [putAll, Act.put, sA, sZ, sU]
              rfl
             refine two_ (i := 11) (j := 15) (Ni := some 49) (Nj := some 9) #[true, true, true, true, true, true, true, true, true, true, true, true, true, true, false, false, false] #[true, true, true, true, true, true, true, true, true, true, true, false, true, true, false, true, false] rfl rfl rfl rfl (two_of HT_.out (by kernel_rfl)) (by decide) (by decide) (fun K hK => ?_) (fun K hK => ?_)
             ·
              skip
              refine Kd.R_append_rows_step (Kd.int .i64) (w0 := w) w.heap.size (by rfl) (.tmp 40) (.tmp 48) 24 3 (.int .i64 0) 8 rfl Try.underlying24 info3 rfl (by decide) (by omega) v218 t217 y221 _ _ _ (fun k_ => some k_ ≠ (.slice Ao35 y221.length co35 : Value).ownBlock) (fun _ => False) rfl rfl ?aO ?aR (fun _ _ h => h) (fun _ h => h.elim) ?aF ?aB ?aS ?aL ?_
              (case aR => repeat (first | exact (Kd.R_reads' HO223.out).2.2 | (with_reducible refine Kd.C_alloc ?_ _) | (with_reducible refine Kd.C_drewN ?_ _) | (with_reducible refine Kd.C_drew ?_)))
              (case aB => exact (by repeat (first | (with_reducible first | exact HB.out | apply eA | apply eN | apply eD | refine eS ?_ GE211.out | refine eS ?_ GE212.out) | exact HB.out)))
              (case aF => exact (fun k_ hk => Kd.fresh' (Kd.R_lt (by (with_reducible repeat (first | apply rA | apply rN | apply rD)); exact HO223.out)) k_ hk))
              (case aO => exact (by (with_reducible repeat (first | apply rA | apply rN | apply rD)); exact HO219.out))
              (case aS => exact (below_size (by repeat (first | (with_reducible first | exact HB.out | apply eA | apply eN | apply eD | refine eS ?_ GE211.out | refine eS ?_ GE212.out) | exact HB.out))))
              (case aL => have := LMc20.out; omega)
              intro v225 w34 ho hb hg hat
              rw [← Ny224.out] at ho
              have n0_ := aM (blk_grown (g := gb211) (o := .cells #[.slice (some ad215) l0_0.length c0_0, .int .i64 a0_1] 26 (0, 0)) (by (with_reducible repeat (first | refine bN ?_ _ | refine bD ?_ | refine bA ?_ _)); exact BK211.out) hg (Kd.R_ne HO219.out BK211.out (by decide)))
              have n1_ := aM (blk_grown (g := gb212) (o := .cells #[.slice none 0 0, .int .i64 0] 26 (0, 0)) (by (with_reducible repeat (first | refine bN ?_ _ | refine bD ?_ | refine bA ?_ _)); exact BK212.out) hg (Kd.R_ne HO219.out BK212.out (by decide)))
              have n2_ := aM (Kd.R_after (ok := (fun _ => True)) (by (with_reducible repeat (first | apply rA | apply rN | apply rD)); exact rM HO223.out (fun _ hk => ⟨trivial, hk⟩)) hg hat)
              have n3_ := aM (hb)
              have n4_ := aM (ho)
              clear BK211 BK212 HO223 HB HO219
              have BK211 := n0_
              have BK212 := n1_
              have HO223 := n2_
              have HB := n3_
              have HO226 := n4_
              clear n0_ n1_ n2_ n3_ n4_ ho hb hg hat
              obtain ⟨Ao36, co36, eo36⟩ := Kd.R_slice HO226.out
              (first | subst eo36 | (injection eo36 with f1_ f2_ f3_; have f4_ := f1_.symm; have f5_ := f3_.symm; clear f1_ f2_ f3_; subst f4_; subst f5_))
              refine hK.out _ _ ⟨(bC BK211.out 0).trans rfl, (bC BK211.out 1).trans rfl, ((HB.out.cell (World.block_lt_of_cell? w _ hw220_0)).trans hw220_0)⟩ (fun hHeld => ?_)
              clear hK K
              refine norm_ (a' := ?_) ?_ ?_
              rotate_left
              ·
               show Act.put _ (some 49) _ = _
               simp only [Act.put, sA, sZ, sU, i64_w, i32_w]
               rfl
              refine pure_ (i := 14) (N := some 52) (v := ?_) (a' := ?_) #[true, true, true, true, true, true, true, true, true, true, true, true, true, true, true, false, false] rfl rfl (any_of HT_.out (by kernel_rfl)) (fun _ _ _ h => h) (Or.inl ⟨by rfl, ?_⟩) ?_ ?_
              rotate_left
              ·
               intro w'
               go_simp
               with_reducible rfl
              rotate_left
              ·
               simp only [Act.put, sA, sZ, sU, i64_w, i32_w]
               rfl
              exact norm_ (by first | (simp only [putAll, Act.put, sA, sZ, sU]; done) | (simp only [putAll, Act.put, sA, sZ, sU]; rfl)) (hJ2_10_11 (_, .slice Ao35 y221.length co35, .slice Ao36 y224.length co36) _ ⟨hHeld, (by (with_reducible repeat (first | apply rA | apply rN | apply rD)); exact rM HO223.out (fun _ hk => by first | exact hk.2 | exact trivial)), (by (with_reducible repeat (first | apply rA | apply rN | apply rD)); exact HO226.out), (by (with_reducible repeat (first | refine bN ?_ _ | refine bD ?_ | refine bA ?_ _)); exact BK211.out), (by (with_reducible repeat (first | refine bN ?_ _ | refine bD ?_ | refine bA ?_ _)); exact BK212.out), (by repeat (first | (with_reducible first | exact HB.out | apply eA | apply eN | apply eD | refine eS ?_ GE211.out | refine eS ?_ GE212.out) | exact HB.out))⟩)
             ·
              skip
              refine box_step ?hg (N := 9) ?hd (cs := #[.slice none 0 0, .int .i64 0]) (t := 26) ?hr ?_; (case hd => rfl); (case hg => rfl); (case hr => first | (go_simp; done) | (go_simp; rfl))
              intro gb227 hg w34 hbox hb
              have n0_ := aM (Kd.R_below (by (with_reducible repeat (first | apply rA | apply rN | apply rD)); exact HO219.out) hb)
              have n1_ := aM (Kd.R_below (by (with_reducible repeat (first | apply rA | apply rN | apply rD)); exact HO223.out) hb)
              have n2_ := aM (bB (g := gb211) (o := .cells #[.slice (some ad215) l0_0.length c0_0, .int .i64 a0_1] 26 (0, 0)) (by (with_reducible repeat (first | refine bN ?_ _ | refine bD ?_ | refine bA ?_ _)); exact BK211.out) hb)
              have n3_ := aM (bB (g := gb212) (o := .cells #[.slice none 0 0, .int .i64 0] 26 (0, 0)) (by (with_reducible repeat (first | refine bN ?_ _ | refine bD ?_ | refine bA ?_ _)); exact BK212.out) hb)
              have n4_ := aM (below_step (by repeat (first | (with_reducible first | exact HB.out | apply eA | apply eN | apply eD | refine eS ?_ GE211.out | refine eS ?_ GE212.out) | exact HB.out)) hb)
              have n5_ := aM (hbox)
              have n6_ := aM ((by rw [hg]; exact (below_size (by repeat (first | (with_reducible first | exact HB.out | apply eA | apply eN | apply eD | refine eS ?_ GE211.out | refine eS ?_ GE212.out) | exact HB.out))) : w.heap.size ≤ gb227))
              have n7_ := aM ((by rw [hg]; exact (below_size (by repeat (first | (with_reducible first | exact HB.out | apply eA | apply eN | apply eD | refine eS ?_ GE211.out | refine eS ?_ GE212.out) | exact HB.out))) : w.heap.size ≤ gb227))
              have n8_ := aM ((by rw [hg]; exact Nat.ne_of_lt (blk_lt (g := gb211) (o := .cells #[.slice (some ad215) l0_0.length c0_0, .int .i64 a0_1] 26 (0, 0)) (by (with_reducible repeat (first | refine bN ?_ _ | refine bD ?_ | refine bA ?_ _)); exact BK211.out)) : gb211 ≠ gb227))
              have n9_ := aM ((by rw [hg]; exact Nat.ne_of_gt (blk_lt (g := gb211) (o := .cells #[.slice (some ad215) l0_0.length c0_0, .int .i64 a0_1] 26 (0, 0)) (by (with_reducible repeat (first | refine bN ?_ _ | refine bD ?_ | refine bA ?_ _)); exact BK211.out)) : gb227 ≠ gb211))
              have n10_ := aM ((by rw [hg]; exact Nat.ne_of_lt (blk_lt (g := gb212) (o := .cells #[.slice none 0 0, .int .i64 0] 26 (0, 0)) (by (with_reducible repeat (first | refine bN ?_ _ | refine bD ?_ | refine bA ?_ _)); exact BK212.out)) : gb212 ≠ gb227))
              have n11_ := aM ((by rw [hg]; exact Nat.ne_of_gt (blk_lt (g := gb212) (o := .cells #[.slice none 0 0, .int .i64 0] 26 (0, 0)) (by (with_reducible repeat (first | refine bN ?_ _ | refine bD ?_ | refine bA ?_ _)); exact BK212.out)) : gb227 ≠ gb212))
              clear HO219 HO223 BK211 BK212 HB
              have HO219 := n0_
              have HO223 := n1_
              have BK211 := n2_
              have BK212 := n3_
              have HB := n4_
              have BK227 := n5_
              have GW227 := n6_
              have GE227 := n7_
              have NB211_227 := n8_
              have NB227_211 := n9_
              have NB212_227 := n10_
              have NB227_212 := n11_
              clear n0_ n1_ n2_ n3_ n4_ n5_ n6_ n7_ n8_ n9_ n10_ n11_ hb hbox hg
              refine hK.out _ _ ⟨(bC BK211.out 0).trans rfl, (bC BK211.out 1).trans rfl, ((HB.out.cell (World.block_lt_of_cell? w _ hw220_0)).trans hw220_0)⟩ (fun hHeld => ?_)
              clear hK K
              refine norm_ (a' := ?_) ?_ ?_
              rotate_left
              ·
               show Act.put _ (some 9) _ = _
               simp only [Act.put, sA, sZ, sU, i64_w, i32_w]
               rfl
              exact norm_ (by first | (simp only [putAll, Act.put, sA, sZ, sU]; done) | (simp only [putAll, Act.put, sA, sZ, sU]; rfl)) (hJ2_10_15 (_, _, gb227) _ ⟨hHeld, (by (with_reducible repeat (first | apply rA | apply rN | apply rD)); exact HO219.out), (by (with_reducible repeat (first | apply rA | apply rN | apply rD)); exact HO223.out), (by (with_reducible repeat (first | refine bN ?_ _ | refine bD ?_ | refine bA ?_ _)); exact BK211.out), (by (with_reducible repeat (first | refine bN ?_ _ | refine bD ?_ | refine bA ?_ _)); exact BK212.out), (by (with_reducible repeat (first | refine bN ?_ _ | refine bD ?_ | refine bA ?_ _)); exact BK227.out), GW227.out, GE227.out, NB211_227.out, NB227_211.out, NB212_227.out, NB227_212.out, (by repeat (first | (with_reducible first | exact HB.out | apply eA | apply eN | apply eD | refine eS ?_ GE211.out | refine eS ?_ GE212.out | refine eS ?_ GE227.out) | exact HB.out))⟩)
           ·
            skip
            rintro ⟨v218, v222, gb227⟩ w34 ⟨hS_, h0_, h1_, h2_, h3_, h4_, h5_, h6_, h7_, h8_, h9_, h10_, h11_⟩
            have n0_ : Aside0 (Kd.R (Kd.int .i64) 3 w34 w.heap.size (fun k_ => some k_ ≠ (v222 : Value).ownBlock) v218 t217) := ⟨h0_⟩
            have n1_ : Aside0 (Kd.R (Kd.int .i64) 3 w34 w.heap.size (fun k_ => some k_ ≠ (v218 : Value).ownBlock) v222 y221) := ⟨h1_⟩
            have n2_ : Aside0 (w34.heap[gb211]? = some (.cells #[.slice (some ad215) l0_0.length c0_0, .int .i64 a0_1] 26 (0, 0))) := ⟨h2_⟩
            have n3_ : Aside0 (w34.heap[gb212]? = some (.cells #[.slice none 0 0, .int .i64 0] 26 (0, 0))) := ⟨h3_⟩
            have n4_ : Aside0 (w34.heap[gb227]? = some (.cells #[.slice none 0 0, .int .i64 0] 26 (0, 0))) := ⟨h4_⟩
            have n5_ : Aside0 (w.heap.size ≤ gb227) := ⟨h5_⟩
            have n6_ : Aside0 (w.heap.size ≤ gb227) := ⟨h6_⟩
            have n7_ : Aside0 (gb211 ≠ gb227) := ⟨h7_⟩
            have n8_ : Aside0 (gb227 ≠ gb211) := ⟨h8_⟩
            have n9_ : Aside0 (gb212 ≠ gb227) := ⟨h9_⟩
            have n10_ : Aside0 (gb227 ≠ gb212) := ⟨h10_⟩
            have n11_ : Aside0 (Below w.heap.size w w34) := ⟨h11_⟩
            clear BK211 BK212 HB h0_ h1_ h2_ h3_ h4_ h5_ h6_ h7_ h8_ h9_ h10_ h11_
            have HO219 := n0_
            have HO223 := n1_
            have BK211 := n2_
            have BK212 := n3_
            have BK227 := n4_
            have GW227 := n5_
            have GE227 := n6_
            have NB211_227 := n7_
            have NB227_211 := n8_
            have NB212_227 := n9_
            have NB227_212 := n10_
            have HB := n11_
            clear n0_ n1_ n2_ n3_ n4_ n5_ n6_ n7_ n8_ n9_ n10_ n11_
            have hHeld : w34.cell? ⟨gb211, 0, none⟩ = some (.slice (some ad215) l0_0.length c0_0) ∧ w34.cell? ⟨gb211, 1, none⟩ = some (.int .i64 a0_1) ∧ w34.cell? (ad215.add (a1).toNat) = some (.int .i64 (rd l0_0 a1)) := hS_
            obtain ⟨Ao36, co36, eo36⟩ := Kd.R_slice HO223.out
            (first | subst eo36 | (injection eo36 with f1_ f2_ f3_; have f4_ := f1_.symm; have f5_ := f3_.symm; clear f1_ f2_ f3_; subst f4_; subst f5_))
            refine norm_ (a' := ?_) ?_ ?_
            rotate_left
            ·
             simp only [putAll, Act.put, sA, sZ, sU]
             rfl
            refine one_ (i := 11) (N := some 49) #[true, true, true, true, true, true, true, true, true, true, true, true, true, true, false, true, false] rfl rfl (one_of HT_.out (by kernel_rfl)) (by decide) (fun K hK => ?_)
            refine Kd.R_append_rows_step (Kd.int .i64) (w0 := w) w.heap.size (by rfl) (.tmp 40) (.tmp 48) 24 3 (.int .i64 0) 8 rfl Try.underlying24 info3 rfl (by decide) (by omega) v218 t217 y221 _ _ _ (fun k_ => some k_ ≠ (.slice Ao36 y221.length co36 : Value).ownBlock) (fun _ => False) rfl rfl ?aO ?aR (fun _ _ h => h) (fun _ h => h.elim) ?aF ?aB ?aS ?aL ?_
            (case aR => repeat (first | exact (Kd.R_reads' HO223.out).2.2 | (with_reducible refine Kd.C_alloc ?_ _) | (with_reducible refine Kd.C_drewN ?_ _) | (with_reducible refine Kd.C_drew ?_)))
            (case aB => exact (by repeat (first | (with_reducible first | exact HB.out | apply eA | apply eN | apply eD | refine eS ?_ GE211.out | refine eS ?_ GE212.out | refine eS ?_ GE227.out) | exact HB.out)))
            (case aF => exact (fun k_ hk => Kd.fresh' (Kd.R_lt (by (with_reducible repeat (first | apply rA | apply rN | apply rD)); exact HO223.out)) k_ hk))
            (case aO => exact (by (with_reducible repeat (first | apply rA | apply rN | apply rD)); exact HO219.out))
            (case aS => exact (below_size (by repeat (first | (with_reducible first | exact HB.out | apply eA | apply eN | apply eD | refine eS ?_ GE211.out | refine eS ?_ GE212.out | refine eS ?_ GE227.out) | exact HB.out))))
            (case aL => have := LMc20.out; omega)
            intro v225 w35 ho hb hg hat
            rw [← Ny224.out] at ho
            have n0_ := aM (blk_grown (g := gb211) (o := .cells #[.slice (some ad215) l0_0.length c0_0, .int .i64 a0_1] 26 (0, 0)) (by (with_reducible repeat (first | refine bN ?_ _ | refine bD ?_ | refine bA ?_ _)); exact BK211.out) hg (Kd.R_ne HO219.out BK211.out (by decide)))
            have n1_ := aM (blk_grown (g := gb212) (o := .cells #[.slice none 0 0, .int .i64 0] 26 (0, 0)) (by (with_reducible repeat (first | refine bN ?_ _ | refine bD ?_ | refine bA ?_ _)); exact BK212.out) hg (Kd.R_ne HO219.out BK212.out (by decide)))
            have n2_ := aM (Kd.R_after (ok := (fun _ => True)) (by (with_reducible repeat (first | apply rA | apply rN | apply rD)); exact rM HO223.out (fun _ hk => ⟨trivial, hk⟩)) hg hat)
            have n3_ := aM (blk_grown (g := gb227) (o := .cells #[.slice none 0 0, .int .i64 0] 26 (0, 0)) (by (with_reducible repeat (first | refine bN ?_ _ | refine bD ?_ | refine bA ?_ _)); exact BK227.out) hg (Kd.R_ne HO219.out BK227.out (by decide)))
            have n4_ := aM (hb)
            have n5_ := aM (ho)
            clear BK211 BK212 HO223 BK227 HB HO219
            have BK211 := n0_
            have BK212 := n1_
            have HO223 := n2_
            have BK227 := n3_
            have HB := n4_
            have HO226 := n5_
            clear n0_ n1_ n2_ n3_ n4_ n5_ ho hb hg hat
            obtain ⟨Ao37, co37, eo37⟩ := Kd.R_slice HO226.out
            (first | subst eo37 | (injection eo37 with f1_ f2_ f3_; have f4_ := f1_.symm; have f5_ := f3_.symm; clear f1_ f2_ f3_; subst f4_; subst f5_))
            refine hK.out _ _ ⟨(bC BK211.out 0).trans rfl, (bC BK211.out 1).trans rfl, ((HB.out.cell (World.block_lt_of_cell? w _ hw220_0)).trans hw220_0)⟩ (fun hHeld => ?_)
            clear hK K
            refine norm_ (a' := ?_) ?_ ?_
            rotate_left
            ·
             show Act.put _ (some 49) _ = _
             simp only [Act.put, sA, sZ, sU, i64_w, i32_w]
             rfl
            refine pure_ (i := 14) (N := some 52) (v := ?_) (a' := ?_) #[true, true, true, true, true, true, true, true, true, true, true, true, true, true, true, true, false] rfl rfl (any_of HT_.out (by kernel_rfl)) (fun _ _ _ h => h) (Or.inl ⟨by rfl, ?_⟩) ?_ ?_
            rotate_left
            ·
             intro w'
             go_simp
             with_reducible rfl
            rotate_left
            ·
             simp only [Act.put, sA, sZ, sU, i64_w, i32_w]
             rfl
            exact norm_ (by first | (simp only [putAll, Act.put, sA, sZ, sU]; done) | (simp only [putAll, Act.put, sA, sZ, sU]; rfl)) (hJ2_10_11_15 (_, .slice Ao36 y221.length co36, .slice Ao37 y224.length co37, gb227) _ ⟨hHeld, (by (with_reducible repeat (first | apply rA | apply rN | apply rD)); exact rM HO223.out (fun _ hk => by first | exact hk.2 | exact trivial)), (by (with_reducible repeat (first | apply rA | apply rN | apply rD)); exact HO226.out), (by (with_reducible repeat (first | refine bN ?_ _ | refine bD ?_ | refine bA ?_ _)); exact BK211.out), (by (with_reducible repeat (first | refine bN ?_ _ | refine bD ?_ | refine bA ?_ _)); exact BK212.out), (by (with_reducible repeat (first | refine bN ?_ _ | refine bD ?_ | refine bA ?_ _)); exact BK227.out), GW227.out, GE227.out, NB211_227.out, NB227_211.out, NB212_227.out, NB227_212.out, (by repeat (first | (with_reducible first | exact HB.out | apply eA | apply eN | apply eD | refine eS ?_ GE211.out | refine eS ?_ GE212.out | refine eS ?_ GE227.out) | exact HB.out))⟩)
          ·
           skip
           rintro ⟨v218, v222, v225⟩ w36 ⟨hS_, h0_, h1_, h2_, h3_, h4_⟩
           have n0_ : Aside0 (Kd.R (Kd.int .i64) 3 w36 w.heap.size (fun k_ => some k_ ≠ (v225 : Value).ownBlock) v222 y221) := ⟨h0_⟩
           have n1_ : Aside0 (Kd.R (Kd.int .i64) 3 w36 w.heap.size (fun k_ => some k_ ≠ (v222 : Value).ownBlock) v225 y224) := ⟨h1_⟩
           have n2_ : Aside0 (w36.heap[gb211]? = some (.cells #[.slice (some ad215) l0_0.length c0_0, .int .i64 a0_1] 26 (0, 0))) := ⟨h2_⟩
           have n3_ : Aside0 (w36.heap[gb212]? = some (.cells #[.slice none 0 0, .int .i64 0] 26 (0, 0))) := ⟨h3_⟩
           have n4_ : Aside0 (Below w.heap.size w w36) := ⟨h4_⟩
           clear BK211 BK212 HB h0_ h1_ h2_ h3_ h4_
           have HO223 := n0_
           have HO226 := n1_
           have BK211 := n2_
           have BK212 := n3_
           have HB := n4_
           clear n0_ n1_ n2_ n3_ n4_
           have hHeld : w36.cell? ⟨gb211, 0, none⟩ = some (.slice (some ad215) l0_0.length c0_0) ∧ w36.cell? ⟨gb211, 1, none⟩ = some (.int .i64 a0_1) ∧ w36.cell? (ad215.add (a1).toNat) = some (.int .i64 (rd l0_0 a1)) := hS_
           obtain ⟨Ao37, co37, eo37⟩ := Kd.R_slice HO226.out
           (first | subst eo37 | (injection eo37 with f1_ f2_ f3_; have f4_ := f1_.symm; have f5_ := f3_.symm; clear f1_ f2_ f3_; subst f4_; subst f5_))
           refine norm_ (a' := ?_) ?_ ?_
           rotate_left
           ·
            simp only [putAll, Act.put, sA, sZ, sU]
            rfl
           refine one_ (i := 15) (N := some 9) #[true, true, true, true, true, true, true, true, true, true, true, true, true, true, true, true, false] rfl rfl (one_of HT_.out (by kernel_rfl)) (by decide) (fun K hK => ?_)
           refine box_step ?hg (N := 9) ?hd (cs := #[.slice none 0 0, .int .i64 0]) (t := 26) ?hr ?_; (case hd => rfl); (case hg => rfl); (case hr => first | (go_simp; done) | (go_simp; rfl))
           intro gb227 hg w38 hbox hb
           have n0_ := aM (Kd.R_below (by (with_reducible repeat (first | apply rA | apply rN | apply rD)); exact HO223.out) hb)
           have n1_ := aM (Kd.R_below (by (with_reducible repeat (first | apply rA | apply rN | apply rD)); exact HO226.out) hb)
           have n2_ := aM (bB (g := gb211) (o := .cells #[.slice (some ad215) l0_0.length c0_0, .int .i64 a0_1] 26 (0, 0)) (by (with_reducible repeat (first | refine bN ?_ _ | refine bD ?_ | refine bA ?_ _)); exact BK211.out) hb)
           have n3_ := aM (bB (g := gb212) (o := .cells #[.slice none 0 0, .int .i64 0] 26 (0, 0)) (by (with_reducible repeat (first | refine bN ?_ _ | refine bD ?_ | refine bA ?_ _)); exact BK212.out) hb)
           have n4_ := aM (below_step (by repeat (first | (with_reducible first | exact HB.out | apply eA | apply eN | apply eD | refine eS ?_ GE211.out | refine eS ?_ GE212.out) | exact HB.out)) hb)
           have n5_ := aM (hbox)
           have n6_ := aM ((by rw [hg]; exact (below_size (by repeat (first | (with_reducible first | exact HB.out | apply eA | apply eN | apply eD | refine eS ?_ GE211.out | refine eS ?_ GE212.out) | exact HB.out))) : w.heap.size ≤ gb227))
           have n7_ := aM ((by rw [hg]; exact (below_size (by repeat (first | (with_reducible first | exact HB.out | apply eA | apply eN | apply eD | refine eS ?_ GE211.out | refine eS ?_ GE212.out) | exact HB.out))) : w.heap.size ≤ gb227))
           have n8_ := aM ((by rw [hg]; exact Nat.ne_of_lt (blk_lt (g := gb211) (o := .cells #[.slice (some ad215) l0_0.length c0_0, .int .i64 a0_1] 26 (0, 0)) (by (with_reducible repeat (first | refine bN ?_ _ | refine bD ?_ | refine bA ?_ _)); exact BK211.out)) : gb211 ≠ gb227))
           have n9_ := aM ((by rw [hg]; exact Nat.ne_of_gt (blk_lt (g := gb211) (o := .cells #[.slice (some ad215) l0_0.length c0_0, .int .i64 a0_1] 26 (0, 0)) (by (with_reducible repeat (first | refine bN ?_ _ | refine bD ?_ | refine bA ?_ _)); exact BK211.out)) : gb227 ≠ gb211))
           have n10_ := aM ((by rw [hg]; exact Nat.ne_of_lt (blk_lt (g := gb212) (o := .cells #[.slice none 0 0, .int .i64 0] 26 (0, 0)) (by (with_reducible repeat (first | refine bN ?_ _ | refine bD ?_ | refine bA ?_ _)); exact BK212.out)) : gb212 ≠ gb227))
           have n11_ := aM ((by rw [hg]; exact Nat.ne_of_gt (blk_lt (g := gb212) (o := .cells #[.slice none 0 0, .int .i64 0] 26 (0, 0)) (by (with_reducible repeat (first | refine bN ?_ _ | refine bD ?_ | refine bA ?_ _)); exact BK212.out)) : gb227 ≠ gb212))
           clear HO223 HO226 BK211 BK212 HB
           have HO223 := n0_
           have HO226 := n1_
           have BK211 := n2_
           have BK212 := n3_
           have HB := n4_
           have BK227 := n5_
           have GW227 := n6_
           have GE227 := n7_
           have NB211_227 := n8_
           have NB227_211 := n9_
           have NB212_227 := n10_
           have NB227_212 := n11_
           clear n0_ n1_ n2_ n3_ n4_ n5_ n6_ n7_ n8_ n9_ n10_ n11_ hb hbox hg
           refine hK.out _ _ ⟨(bC BK211.out 0).trans rfl, (bC BK211.out 1).trans rfl, ((HB.out.cell (World.block_lt_of_cell? w _ hw220_0)).trans hw220_0)⟩ (fun hHeld => ?_)
           clear hK K
           refine norm_ (a' := ?_) ?_ ?_
           rotate_left
           ·
            show Act.put _ (some 9) _ = _
            simp only [Act.put, sA, sZ, sU, i64_w, i32_w]
            rfl
           exact norm_ (by first | (simp only [putAll, Act.put, sA, sZ, sU]; done) | (simp only [putAll, Act.put, sA, sZ, sU]; rfl)) (hJ2_10_11_15 (_, _, .slice Ao37 y224.length co37, gb227) _ ⟨hHeld, (by (with_reducible repeat (first | apply rA | apply rN | apply rD)); exact HO223.out), (by (with_reducible repeat (first | apply rA | apply rN | apply rD)); exact HO226.out), (by (with_reducible repeat (first | refine bN ?_ _ | refine bD ?_ | refine bA ?_ _)); exact BK211.out), (by (with_reducible repeat (first | refine bN ?_ _ | refine bD ?_ | refine bA ?_ _)); exact BK212.out), (by (with_reducible repeat (first | refine bN ?_ _ | refine bD ?_ | refine bA ?_ _)); exact BK227.out), GW227.out, GE227.out, NB211_227.out, NB227_211.out, NB212_227.out, NB227_212.out, (by repeat (first | (with_reducible first | exact HB.out | apply eA | apply eN | apply eD | refine eS ?_ GE211.out | refine eS ?_ GE212.out | refine eS ?_ GE227.out) | exact HB.out))⟩)
         rintro ⟨v218, v222, v225, gb227⟩ w37 ⟨hS_, h0_, h1_, h2_, h3_, h4_, h5_, h6_, h7_, h8_, h9_, h10_, h11_⟩
         have n0_ : Aside0 (Kd.R (Kd.int .i64) 3 w37 w.heap.size (fun k_ => some k_ ≠ (v225 : Value).ownBlock) v222 y221) := ⟨h0_⟩
         have n1_ : Aside0 (Kd.R (Kd.int .i64) 3 w37 w.heap.size (fun k_ => some k_ ≠ (v222 : Value).ownBlock) v225 y224) := ⟨h1_⟩
         have n2_ : Aside0 (w37.heap[gb211]? = some (.cells #[.slice (some ad215) l0_0.length c0_0, .int .i64 a0_1] 26 (0, 0))) := ⟨h2_⟩
         have n3_ : Aside0 (w37.heap[gb212]? = some (.cells #[.slice none 0 0, .int .i64 0] 26 (0, 0))) := ⟨h3_⟩
         have n4_ : Aside0 (w37.heap[gb227]? = some (.cells #[.slice none 0 0, .int .i64 0] 26 (0, 0))) := ⟨h4_⟩
         have n5_ : Aside0 (w.heap.size ≤ gb227) := ⟨h5_⟩
         have n6_ : Aside0 (w.heap.size ≤ gb227) := ⟨h6_⟩
         have n7_ : Aside0 (gb211 ≠ gb227) := ⟨h7_⟩
         have n8_ : Aside0 (gb227 ≠ gb211) := ⟨h8_⟩
         have n9_ : Aside0 (gb212 ≠ gb227) := ⟨h9_⟩
         have n10_ : Aside0 (gb227 ≠ gb212) := ⟨h10_⟩
         have n11_ : Aside0 (Below w.heap.size w w37) := ⟨h11_⟩
         clear BK211 BK212 HB h0_ h1_ h2_ h3_ h4_ h5_ h6_ h7_ h8_ h9_ h10_ h11_
         have HO223 := n0_
         have HO226 := n1_
         have BK211 := n2_
         have BK212 := n3_
         have BK227 := n4_
         have GW227 := n5_
         have GE227 := n6_
         have NB211_227 := n7_
         have NB227_211 := n8_
         have NB212_227 := n9_
         have NB227_212 := n10_
         have HB := n11_
         clear n0_ n1_ n2_ n3_ n4_ n5_ n6_ n7_ n8_ n9_ n10_ n11_
         have hHeld : w37.cell? ⟨gb211, 0, none⟩ = some (.slice (some ad215) l0_0.length c0_0) ∧ w37.cell? ⟨gb211, 1, none⟩ = some (.int .i64 a0_1) ∧ w37.cell? (ad215.add (a1).toNat) = some (.int .i64 (rd l0_0 a1)) := hS_
         obtain ⟨Ao38, co38, eo38⟩ := Kd.R_slice HO226.out
         (first | subst eo38 | (injection eo38 with f1_ f2_ f3_; have f4_ := f1_.symm; have f5_ := f3_.symm; clear f1_ f2_ f3_; subst f4_; subst f5_))
         refine norm_ (a' := ?_) ?_ ?_
         rotate_left
         ·
          simp only [putAll, Act.put, sA, sZ, sU]
          rfl
         refine one_ (i := 16) (N := none) #[true, true, true, true, true, true, true, true, true, true, true, true, true, true, true, true, true] rfl rfl (one_of HT_.out (by kernel_rfl)) (by decide) (fun K hK => ?_)
         have hs39 : w37.cell? ⟨gb227, 0, none⟩ = some (.slice none 0 0) := (bC BK227.out 0).trans rfl
         have hfs39 := bF BK227.out 0
         have hns39_0 := NB211_227.out
         have hns39_1 := NB212_227.out
         have hms39_0 := NB227_211.out
         have hms39_1 := NB227_212.out
         have hs40 : w37.cell? ⟨gb227, 1, none⟩ = some (.int .i64 0) := (bC BK227.out 1).trans rfl
         have hfs40 := bF BK227.out 1
         have hns40_0 := NB211_227.out
         have hns40_1 := NB212_227.out
         have hms40_0 := NB227_211.out
         have hms40_1 := NB227_212.out
         refine skip_ (w1 := ?_) (by rfl) rfl ?_ ?_
         rotate_left
         ·
          go_simp
          rfl
         refine hK.out _ _ ⟨((cell_far (p := ⟨gb227, _, none⟩) NB211_227.out _).trans (((cell_far (p := ⟨gb227, _, none⟩) NB211_227.out _).trans (hHeld.1)))), ((cell_far (p := ⟨gb227, _, none⟩) NB211_227.out _).trans (((cell_far (p := ⟨gb227, _, none⟩) NB211_227.out _).trans (hHeld.2.1)))), ((cell_far (p := ⟨gb227, _, none⟩) (by first | exact Nat.ne_of_lt (Nat.lt_of_lt_of_le (by have := World.block_lt_of_cell? _ _ hw220_0; first | rwa [add_block] at this | exact this) GW227.out) | (rw [add_block]; exact Nat.ne_of_lt (Nat.lt_of_lt_of_le (by have := World.block_lt_of_cell? _ _ hw220_0; first | rwa [add_block] at this | exact this) GW227.out)) | (show (Addr.add _ _).block ≠ _; rw [add_block]; exact Nat.ne_of_lt (Nat.lt_of_lt_of_le (by have := World.block_lt_of_cell? _ _ hw220_0; first | rwa [add_block] at this | exact this) GW227.out)) | (dsimp only; exact Nat.ne_of_lt (Nat.lt_of_lt_of_le (by have := World.block_lt_of_cell? _ _ hw220_0; first | rwa [add_block] at this | exact this) GW227.out))) _).trans (((cell_far (p := ⟨gb227, _, none⟩) (by first | exact Nat.ne_of_lt (Nat.lt_of_lt_of_le (by have := World.block_lt_of_cell? _ _ hw220_0; first | rwa [add_block] at this | exact this) GW227.out) | (rw [add_block]; exact Nat.ne_of_lt (Nat.lt_of_lt_of_le (by have := World.block_lt_of_cell? _ _ hw220_0; first | rwa [add_block] at this | exact this) GW227.out)) | (show (Addr.add _ _).block ≠ _; rw [add_block]; exact Nat.ne_of_lt (Nat.lt_of_lt_of_le (by have := World.block_lt_of_cell? _ _ hw220_0; first | rwa [add_block] at this | exact this) GW227.out)) | (dsimp only; exact Nat.ne_of_lt (Nat.lt_of_lt_of_le (by have := World.block_lt_of_cell? _ _ hw220_0; first | rwa [add_block] at this | exact this) GW227.out))) _).trans (hHeld.2.2))))⟩ (fun hHeld => ?_)
         clear hK K
         refine done_ (done_of HT_.out (by kernel_rfl)) ?_
         have n0_ : Aside0 (Kd.R (Kd.int .i64) 3 ((w37.setCell ⟨gb227, 0, none⟩ (.slice Ao38 y224.length co38)).setCell ⟨gb227, 1, none⟩ (.int .i64 a0_1)) w.heap.size (fun k_ => some k_ ≠ (.slice Ao38 y224.length co38 : Value).ownBlock) v222 y221) := ⟨by (with_reducible repeat (first | apply rA | apply rN | apply rD)); exact rM (Kd.R_far (p := ⟨gb227, 1, none⟩) (Kd.R_far (p := ⟨gb227, 0, none⟩) (Kd.R_types HO223.out BK227.out (by decide)) (fun _ hk => hk.2) (.slice Ao38 y224.length co38)) (fun _ hk => hk.2) (.int .i64 a0_1)) (fun _ hk => hk.1)⟩
         have n1_ : Aside0 (Kd.R (Kd.int .i64) 3 ((w37.setCell ⟨gb227, 0, none⟩ (.slice Ao38 y224.length co38)).setCell ⟨gb227, 1, none⟩ (.int .i64 a0_1)) w.heap.size (fun k_ => some k_ ≠ (v222 : Value).ownBlock) (.slice Ao38 y224.length co38) y224) := ⟨by (with_reducible repeat (first | apply rA | apply rN | apply rD)); exact rM (Kd.R_far (p := ⟨gb227, 1, none⟩) (Kd.R_far (p := ⟨gb227, 0, none⟩) (Kd.R_types HO226.out BK227.out (by decide)) (fun _ hk => hk.2) (.slice Ao38 y224.length co38)) (fun _ hk => hk.2) (.int .i64 a0_1)) (fun _ hk => hk.1)⟩
         have n2_ : Aside0 (((w37.setCell ⟨gb227, 0, none⟩ (.slice Ao38 y224.length co38)).setCell ⟨gb227, 1, none⟩ (.int .i64 a0_1)).heap[gb211]? = some (.cells #[.slice (some ad215) l0_0.length c0_0, .int .i64 a0_1] 26 (0, 0))) := ⟨by (with_reducible repeat (first | refine bN ?_ _ | refine bD ?_ | refine bA ?_ _)); refine blk_far ?_ NB211_227.out _; (with_reducible repeat (first | refine bN ?_ _ | refine bD ?_ | refine bA ?_ _)); refine blk_far ?_ NB211_227.out _; (with_reducible repeat (first | refine bN ?_ _ | refine bD ?_ | refine bA ?_ _)); exact BK211.out⟩
         have n3_ : Aside0 (((w37.setCell ⟨gb227, 0, none⟩ (.slice Ao38 y224.length co38)).setCell ⟨gb227, 1, none⟩ (.int .i64 a0_1)).heap[gb212]? = some (.cells #[.slice none 0 0, .int .i64 0] 26 (0, 0))) := ⟨by (with_reducible repeat (first | refine bN ?_ _ | refine bD ?_ | refine bA ?_ _)); refine blk_far ?_ NB212_227.out _; (with_reducible repeat (first | refine bN ?_ _ | refine bD ?_ | refine bA ?_ _)); refine blk_far ?_ NB212_227.out _; (with_reducible repeat (first | refine bN ?_ _ | refine bD ?_ | refine bA ?_ _)); exact BK212.out⟩
         have n4_ : Aside0 (((w37.setCell ⟨gb227, 0, none⟩ (.slice Ao38 y224.length co38)).setCell ⟨gb227, 1, none⟩ (.int .i64 a0_1)).heap[gb227]? = some (.cells #[.slice Ao38 y224.length co38, .int .i64 a0_1] 26 (0, 0))) := ⟨by (with_reducible repeat (first | refine bN ?_ _ | refine bD ?_ | refine bA ?_ _)); refine blk_put (cs := #[.slice Ao38 y224.length co38, .int .i64 0]) ?_ 1 _ rfl; (with_reducible repeat (first | refine bN ?_ _ | refine bD ?_ | refine bA ?_ _)); refine blk_put (cs := #[.slice none 0 0, .int .i64 0]) ?_ 0 _ rfl; (with_reducible repeat (first | refine bN ?_ _ | refine bD ?_ | refine bA ?_ _)); exact BK227.out⟩
         have n5_ : Aside0 (Below w.heap.size w ((w37.setCell ⟨gb227, 0, none⟩ (.slice Ao38 y224.length co38)).setCell ⟨gb227, 1, none⟩ (.int .i64 a0_1))) := ⟨by repeat (first | (with_reducible first | exact HB.out | apply eA | apply eN | apply eD | refine eS ?_ GE211.out | refine eS ?_ GE212.out | refine eS ?_ GE227.out) | exact HB.out)⟩
         (try clear HO223)
         (try clear HO226)
         (try clear BK211)
         (try clear BK212)
         (try clear BK227)
         (try clear HB)
         generalize ((w37.setCell ⟨gb227, 0, none⟩ (.slice Ao38 y224.length co38)).setCell ⟨gb227, 1, none⟩ (.int .i64 a0_1)) = w41 at n0_ n1_ n2_ n3_ n4_ n5_ ⊢
         have HO223 := n0_
         have HO226 := n1_
         have BK211 := n2_
         have BK212 := n3_
         have BK227 := n4_
         have HB := n5_
         clear n0_ n1_ n2_ n3_ n4_ n5_
         have hnb42 := NB227_211.out
         have hnc42 := NB211_227.out
         have hnb43 := NB227_212.out
         have hnc43 := NB212_227.out
         have hcz44_0 : w41.cell? ⟨gb227, 0, none⟩ = some (.slice Ao38 y224.length co38) := (bC BK227.out 0).trans rfl
         have hcz44_1 : w41.cell? ⟨gb227, 1, none⟩ = some (.int .i64 a0_1) := (bC BK227.out 1).trans rfl
         have hfz44_0 := bF BK227.out 0
         have hfz44_1 := bF BK227.out 1
         have p22 : 0 ≤ (a1 : Int) := of_decide_eq_true (by first | (with_reducible assumption) | assumption)
         have q22 : (a1 : Int) < ((y224.length : Int) : Int) := of_decide_eq_true (by first | (with_reducible assumption) | assumption)
         obtain ⟨go22, co22, eo22, gb22, gl22, cl22, HG22⟩ := Kd.R_form HO226.out (by omega)
         (first | cases eo22 | (injection eo22 with ea_ en_ ec_; (first | subst ea_ | (injection ea_ with ea_; subst ea_)); subst ec_; clear en_))
         have GB22 := aM gb22
         have GG22 := aM HG22
         clear gb22 gl22 HG22
         obtain ⟨hx22_0, hf22_0⟩ := Kd.R_celln 0 HO226.out (a1 : Int) p22 q22
         replace p22 := eq_true p22
         replace q22 := eq_true q22
         obtain ⟨hy45_, hz45_⟩ := Kd.R_celln 0 HO226.out (a1 : Int) (of_decide_eq_true (by first | (with_reducible assumption) | assumption)) (of_decide_eq_true (by first | (with_reducible assumption) | assumption))
         have HP45 := Kd.R_putg HO226.out (a1 : Int) a2
         try go_wp2_with (first | ((with_reducible refine gate_store (t := 3) (p := 57) rfl ?_); refine store_event (t := 3) (p := 57) (v := ?vo_w46) (w1 := (w41.setCell ⟨go22, (a1 : Int).toNat, none⟩ (.int .i64 a2))) ?hg ?ho ?hn ?hr ?_; (case ho => rfl); (case hg => rfl); (case hn => rfl); (case hr => first | (go_simp; done) | (go_simp; rfl)); intro w46 hw; have hg : w41.grownBy w46 (some go22) := (by rw [hw]; exact HP45.2); have hp_ : Kd.R (Kd.int .i64) 3 w46 w.heap.size (fun k_ => some k_ ≠ (v222 : Value).ownBlock) (.slice (some ⟨go22, 0, none⟩) y224.length co38) y228 := (by rw [hw, Ny228.out]; exact HP45.1); clear HP45; have n0_ := aM (blk_grown (g := gb211) (o := .cells #[.slice (some ad215) l0_0.length c0_0, .int .i64 a0_1] 26 (0, 0)) (by (with_reducible repeat (first | refine bN ?_ _ | refine bD ?_ | refine bA ?_ _)); exact BK211.out) hg (Kd.R_ne HO226.out BK211.out (by decide))); have n1_ := aM (blk_grown (g := gb212) (o := .cells #[.slice none 0 0, .int .i64 0] 26 (0, 0)) (by (with_reducible repeat (first | refine bN ?_ _ | refine bD ?_ | refine bA ?_ _)); exact BK212.out) hg (Kd.R_ne HO226.out BK212.out (by decide))); have n2_ := aM (Kd.R_after (v := (.slice (some ⟨go22, 0, none⟩) y224.length co38)) (v1 := (.slice (some ⟨go22, 0, none⟩) y224.length co38)) (ok := (fun _ => True)) (by (with_reducible repeat (first | apply rA | apply rN | apply rD)); exact rM HO223.out (fun _ hk => ⟨trivial, hk⟩)) hg (.inl rfl)); have n3_ := aM (hp_); have n4_ := aM (blk_grown (g := gb227) (o := .cells #[.slice (some ⟨go22, 0, none⟩) y224.length co38, .int .i64 a0_1] 26 (0, 0)) (by (with_reducible repeat (first | refine bN ?_ _ | refine bD ?_ | refine bA ?_ _)); exact BK227.out) hg (Kd.R_ne HO226.out BK227.out (by decide))); have n5_ := aM ((by rw [hw]; exact eS (HB.out) GB22.out : Below w.heap.size w w46)); clear BK211; clear BK212; clear HO223; clear HO226; clear BK227; clear HB; have BK211 := n0_; have BK212 := n1_; have HO223 := n2_; have HO226 := n3_; have BK227 := n4_; have HB := n5_; clear n0_ n1_ n2_ n3_ n4_ n5_; clear hg hw hp_; have hcz47_0 : w46.cell? ⟨gb227, 0, none⟩ = some (.slice (some ⟨go22, 0, none⟩) y224.length co38) := (bC BK227.out 0).trans rfl; have hcz47_1 : w46.cell? ⟨gb227, 1, none⟩ = some (.int .i64 a0_1) := (bC BK227.out 1).trans rfl; have hfz47_0 := bF BK227.out 0; have hfz47_1 := bF BK227.out 1; have hcz48_0 : w46.cell? ⟨gb212, 0, none⟩ = some (.slice none 0 0) := (bC BK212.out 0).trans rfl; have hcz48_1 : w46.cell? ⟨gb212, 1, none⟩ = some (.int .i64 0) := (bC BK212.out 1).trans rfl; have hfz48_0 := bF BK212.out 0; have hfz48_1 := bF BK212.out 1))
         refine bodyPost_ret (results_ct rfl _ _ gb212 26 #[.slice (some ⟨go22, 0, none⟩) y224.length co38, .int .i64 a0_1] (0, 0) _ rfl (by (with_reducible repeat (first | refine bN ?_ _ | refine bD ?_ | refine bA ?_ _)); refine blk_put (cs := #[.slice (some ⟨go22, 0, none⟩) y224.length co38, .int .i64 0]) ?_ 1 _ rfl; (with_reducible repeat (first | refine bN ?_ _ | refine bD ?_ | refine bA ?_ _)); refine blk_put (cs := #[.slice none 0 0, .int .i64 0]) ?_ 0 _ rfl; (with_reducible repeat (first | refine bN ?_ _ | refine bD ?_ | refine bA ?_ _)); exact BK212.out) Try.underlying26 rfl (by kernel_rfl)) rfl ?_
         exact ⟨_, by first | rfl | (simp [errW_none, errW_some] <;> rfl) | (simp [*, errW_none, errW_some] <;> rfl), by (with_reducible repeat (first | apply rA | apply rN | apply rD)); exact rM (Kd.R_far (p := ⟨gb212, 1, none⟩) (Kd.R_far (p := ⟨gb212, 0, none⟩) (Kd.R_types HO226.out BK212.out (by decide)) (fun _ hk => hk.2) (.slice (some ⟨go22, 0, none⟩) y224.length co38)) (fun _ hk => hk.2) (.int .i64 a0_1)) (fun _ hk => trivial), by repeat (first | (with_reducible first | exact HB.out | apply eA | apply eN | apply eD | refine eS ?_ GE211.out | refine eS ?_ GE212.out | refine eS ?_ GE227.out) | exact HB.out)⟩
        ·
         rw [if_neg c21] at H
         exact absurd H (by simp)
       ·
        rw [if_neg c20] at H
        exact absurd H (by simp)
      ·
       replace c18 := Bool.eq_false_iff.mpr c18
       subst c18
       have H1 : (some (([] : List Int), 0, false)) = some (r1, r2, r3) := by rw [if_neg (show ¬ (false = true) by decide)] at H; exact H
       clear H
       have H := H1
       clear H1
       simp only [Option.some.injEq, Prod.mk.injEq] at H
       obtain ⟨rfl, rfl, rfl⟩ := H
       go_enter Try.func9, Try.ntmps9
       go_wp2_with (first | ((with_reducible refine gate_dst (N := 3) rfl ?_); refine box_event ?hg (N := 3) ?hd (cs := #[.slice A0_0 l0_0.length c0_0, .int .i64 a0_1]) (t := 26) ?hr ?_; (case hd => rfl); (case hg => rfl); (case hr => first | (go_simp; done) | (go_simp; rfl)); intro gb211 hg w49 hbox hb; have n0_ := aM (below_step (by repeat (first | (with_reducible first | exact HB.out | apply eA | apply eN | apply eD) | exact HB.out)) hb); have n1_ := aM (hbox); have n2_ := aM ((by rw [hg]; exact (below_size (by repeat (first | (with_reducible first | exact HB.out | apply eA | apply eN | apply eD) | exact HB.out))) : w.heap.size ≤ gb211)); have n3_ := aM ((by rw [hg]; exact (below_size (by repeat (first | (with_reducible first | exact HB.out | apply eA | apply eN | apply eD) | exact HB.out))) : w.heap.size ≤ gb211)); clear HB; have HB := n0_; have BK211 := n1_; have GW211 := n2_; have GE211 := n3_; clear n0_ n1_ n2_ n3_; clear hb hbox hg) | ((with_reducible refine gate_dst (N := 6) rfl ?_); refine box_event ?hg (N := 6) ?hd (cs := #[.slice none 0 0, .int .i64 0]) (t := 26) ?hr ?_; (case hd => rfl); (case hg => rfl); (case hr => first | (go_simp; done) | (go_simp; rfl)); intro gb212 hg w50 hbox hb; have n0_ := aM (bB (g := gb211) (o := .cells #[.slice A0_0 l0_0.length c0_0, .int .i64 a0_1] 26 (0, 0)) (by (with_reducible repeat (first | refine bN ?_ _ | refine bD ?_ | refine bA ?_ _)); exact BK211.out) hb); have n1_ := aM (below_step (by repeat (first | (with_reducible first | exact HB.out | apply eA | apply eN | apply eD | refine eS ?_ GE211.out) | exact HB.out)) hb); have n2_ := aM (hbox); have n3_ := aM ((by rw [hg]; exact (below_size (by repeat (first | (with_reducible first | exact HB.out | apply eA | apply eN | apply eD | refine eS ?_ GE211.out) | exact HB.out))) : w.heap.size ≤ gb212)); have n4_ := aM ((by rw [hg]; exact (below_size (by repeat (first | (with_reducible first | exact HB.out | apply eA | apply eN | apply eD | refine eS ?_ GE211.out) | exact HB.out))) : w.heap.size ≤ gb212)); have n5_ := aM ((by rw [hg]; exact Nat.ne_of_lt (blk_lt (g := gb211) (o := .cells #[.slice A0_0 l0_0.length c0_0, .int .i64 a0_1] 26 (0, 0)) (by (with_reducible repeat (first | refine bN ?_ _ | refine bD ?_ | refine bA ?_ _)); exact BK211.out)) : gb211 ≠ gb212)); have n6_ := aM ((by rw [hg]; exact Nat.ne_of_gt (blk_lt (g := gb211) (o := .cells #[.slice A0_0 l0_0.length c0_0, .int .i64 a0_1] 26 (0, 0)) (by (with_reducible repeat (first | refine bN ?_ _ | refine bD ?_ | refine bA ?_ _)); exact BK211.out)) : gb212 ≠ gb211)); clear BK211; clear HB; have BK211 := n0_; have HB := n1_; have BK212 := n2_; have GW212 := n3_; have GE212 := n4_; have NB211_212 := n5_; have NB212_211 := n6_; clear n0_ n1_ n2_ n3_ n4_ n5_ n6_; clear hb hbox hg; have hnb51 := NB211_212.out; have hnc51 := NB212_211.out; have hcz52_0 : w50.cell? ⟨gb211, 0, none⟩ = some (.slice A0_0 l0_0.length c0_0) := (bC BK211.out 0).trans rfl; have hcz52_1 : w50.cell? ⟨gb211, 1, none⟩ = some (.int .i64 a0_1) := (bC BK211.out 1).trans rfl; have hfz52_0 := bF BK211.out 0; have hfz52_1 := bF BK211.out 1) | ((with_reducible refine gate_callee (f := 30) rfl ?_); refine goesL_ (some 14) rfl rfl Try.func30 (by kernel_rfl) rfl #[.agg #[.slice A0_0 l0_0.length c0_0, .int .i64 a0_1]] rfl (by (try simp only [List.map_toArray, List.map_cons, List.map_nil]); first | done | rfl | (simp only [List.length_drop, List.length_take]; rfl)) ?_; (with_reducible refine (impl_IsVote.calls k _ _ l0_0 a0_1 true _ ?side1 ?side2 A4.out).mono ?_); (case side1 => repeat (first | exact (Kd.C_below HR0_0.out HB.out) | (with_reducible refine Kd.C_alloc ?_ _) | (with_reducible refine Kd.C_drewN ?_ _) | (with_reducible refine Kd.C_drew ?_))); (case side2 => exact HC0_0.out); rintro e w53 ⟨rfl, hb⟩; refine ⟨_, rfl, ?_⟩; have n0_ := aM (bB (g := gb211) (o := .cells #[.slice A0_0 l0_0.length c0_0, .int .i64 a0_1] 26 (0, 0)) (by (with_reducible repeat (first | refine bN ?_ _ | refine bD ?_ | refine bA ?_ _)); exact BK211.out) hb); have n1_ := aM (bB (g := gb212) (o := .cells #[.slice none 0 0, .int .i64 0] 26 (0, 0)) (by (with_reducible repeat (first | refine bN ?_ _ | refine bD ?_ | refine bA ?_ _)); exact BK212.out) hb); have n2_ := aM (below_step (by repeat (first | (with_reducible first | exact HB.out | apply eA | apply eN | apply eD | refine eS ?_ GE211.out | refine eS ?_ GE212.out) | exact HB.out)) hb); clear BK211; clear BK212; clear HB; have BK211 := n0_; have BK212 := n1_; have HB := n2_; clear n0_ n1_ n2_; (try clear hb); (try clear hb2); (try clear hk); (try clear hi)) | (go_at_call 50; (with_reducible refine (impl_within.calls a1 0 (wrap64 ((l0_0.length : Int) - 1)) true _ A6.out).mono ?_); rintro e w' ⟨rfl, ⟨nd, rfl⟩⟩; (try (rw [drewN_self w53]; generalize hq_ : World.drewN w53 _ = w53; have n0_ : Aside0 (w53.heap[gb211]? = some (.cells #[.slice A0_0 l0_0.length c0_0, .int .i64 a0_1] 26 (0, 0))) := ⟨by rw [← hq_]; exact (by (with_reducible repeat (first | refine bN ?_ _ | refine bD ?_ | refine bA ?_ _)); exact BK211.out)⟩; have n1_ : Aside0 (w53.heap[gb212]? = some (.cells #[.slice none 0 0, .int .i64 0] 26 (0, 0))) := ⟨by rw [← hq_]; exact (by (with_reducible repeat (first | refine bN ?_ _ | refine bD ?_ | refine bA ?_ _)); exact BK212.out)⟩; have n2_ : Aside0 (Below w.heap.size w w53) := ⟨by rw [← hq_]; exact (by repeat (first | (with_reducible first | exact HB.out | apply eA | apply eN | apply eD | refine eS ?_ GE211.out | refine eS ?_ GE212.out) | exact HB.out))⟩; clear BK211 BK212 HB hq_; have BK211 := n0_; have BK212 := n1_; have HB := n2_; clear n0_ n1_ n2_)); (try (have hcy212_0 := (bC BK212.out 0).trans rfl)); (try (have hfy212_0 := bF BK212.out 0)); (try (have hcy212_1 := (bC BK212.out 1).trans rfl)); (try (have hfy212_1 := bF BK212.out 1)); have hcz54_0 : w53.cell? ⟨gb211, 0, none⟩ = some (.slice A0_0 l0_0.length c0_0) := (bC BK211.out 0).trans rfl; have hcz54_1 : w53.cell? ⟨gb211, 1, none⟩ = some (.int .i64 a0_1) := (bC BK211.out 1).trans rfl; have hfz54_0 := bF BK211.out 0; have hfz54_1 := bF BK211.out 1; have p215 : 0 ≤ (a1 : Int) := of_decide_eq_true (by first | (with_reducible assumption) | assumption); have q215 : a1 < (l0_0.length : Int) := of_decide_eq_true (by first | (with_reducible assumption) | assumption); obtain ⟨ad215, e215, hx215_0⟩ := Kd.at_int HR0_0.out a1 p215 q215; cases e215; replace hx215_0 := (HB.out.cell (World.block_lt_of_cell? w _ hx215_0)).trans hx215_0; replace p215 := eq_true p215; replace q215 := eq_true q215) | (go_at_call 50; (with_reducible refine (impl_within.calls a2 0 (rd l0_0 a1) false _ A17.out).mono ?_); rintro e w' ⟨rfl, ⟨nd, rfl⟩⟩; (try (rw [drewN_self w53]; generalize hq_ : World.drewN w53 _ = w53; have n0_ : Aside0 (w53.heap[gb211]? = some (.cells #[.slice (some ad215) l0_0.length c0_0, .int .i64 a0_1] 26 (0, 0))) := ⟨by rw [← hq_]; exact (by (with_reducible repeat (first | refine bN ?_ _ | refine bD ?_ | refine bA ?_ _)); exact BK211.out)⟩; have n1_ : Aside0 (w53.heap[gb212]? = some (.cells #[.slice none 0 0, .int .i64 0] 26 (0, 0))) := ⟨by rw [← hq_]; exact (by (with_reducible repeat (first | refine bN ?_ _ | refine bD ?_ | refine bA ?_ _)); exact BK212.out)⟩; have n2_ : Aside0 (Below w.heap.size w w53) := ⟨by rw [← hq_]; exact (by repeat (first | (with_reducible first | exact HB.out | apply eA | apply eN | apply eD | refine eS ?_ GE211.out | refine eS ?_ GE212.out) | exact HB.out))⟩; clear BK211 BK212 HB hq_; have BK211 := n0_; have BK212 := n1_; have HB := n2_; clear n0_ n1_ n2_)); (try (have hcy211_0 := (bC BK211.out 0).trans rfl)); (try (have hfy211_0 := bF BK211.out 0)); (try (have hcy211_1 := (bC BK211.out 1).trans rfl)); (try (have hfy211_1 := bF BK211.out 1)); have hcz55_0 : w53.cell? ⟨gb212, 0, none⟩ = some (.slice none 0 0) := (bC BK212.out 0).trans rfl; have hcz55_1 : w53.cell? ⟨gb212, 1, none⟩ = some (.int .i64 0) := (bC BK212.out 1).trans rfl; have hfz55_0 := bF BK212.out 0; have hfz55_1 := bF BK212.out 1))
       refine bodyPost_ret (results_ct rfl _ _ gb212 26 #[.slice none 0 0, .int .i64 0] (0, 0) _ rfl (by (with_reducible repeat (first | refine bN ?_ _ | refine bD ?_ | refine bA ?_ _)); refine blk_put (cs := #[.slice none 0 0, .int .i64 0]) ?_ 1 _ rfl; (with_reducible repeat (first | refine bN ?_ _ | refine bD ?_ | refine bA ?_ _)); refine blk_put (cs := #[.slice none 0 0, .int .i64 0]) ?_ 0 _ rfl; (with_reducible repeat (first | refine bN ?_ _ | refine bD ?_ | refine bA ?_ _)); exact BK212.out) Try.underlying26 rfl (by kernel_rfl)) rfl ?_
       exact ⟨_, by first | rfl | (simp [errW_none, errW_some] <;> rfl) | (simp [*, errW_none, errW_some] <;> rfl), by first | exact Kd.R_nil _ _ _ _ _ | exact Kd.N_nil _ _ _ _ _ | exact Kd.V_nil _ _ _ _ _ | exact Kd.Q_nil _ _ _ _ _ | exact Kd.S_nil _ _ _ _ _, by repeat (first | (with_reducible first | exact HB.out | apply eA | apply eN | apply eD | refine eS ?_ GE211.out | refine eS ?_ GE212.out) | exact HB.out)⟩
     ·
      rw [if_neg c16] at H
      exact absurd H (by simp)
    ·
     rw [if_neg c15] at H
     exact absurd H (by simp)
  ·
   replace c7 := Bool.eq_false_iff.mpr c7
   subst c7
   have H1 : (some (([] : List Int), 0, false)) = some (r1, r2, r3) := by rw [if_neg (show ¬ (false = true) by decide)] at H; exact H
   clear H
   have H := H1
   clear H1
   simp only [Option.some.injEq, Prod.mk.injEq] at H
   obtain ⟨rfl, rfl, rfl⟩ := H
   go_enter Try.func9, Try.ntmps9
   go_wp2_with (first | ((with_reducible refine gate_dst (N := 3) rfl ?_); refine box_event ?hg (N := 3) ?hd (cs := #[.slice A0_0 l0_0.length c0_0, .int .i64 a0_1]) (t := 26) ?hr ?_; (case hd => rfl); (case hg => rfl); (case hr => first | (go_simp; done) | (go_simp; rfl)); intro gb211 hg w56 hbox hb; have n0_ := aM (below_step (by repeat (first | (with_reducible first | exact HB.out | apply eA | apply eN | apply eD) | exact HB.out)) hb); have n1_ := aM (hbox); have n2_ := aM ((by rw [hg]; exact (below_size (by repeat (first | (with_reducible first | exact HB.out | apply eA | apply eN | apply eD) | exact HB.out))) : w.heap.size ≤ gb211)); have n3_ := aM ((by rw [hg]; exact (below_size (by repeat (first | (with_reducible first | exact HB.out | apply eA | apply eN | apply eD) | exact HB.out))) : w.heap.size ≤ gb211)); clear HB; have HB := n0_; have BK211 := n1_; have GW211 := n2_; have GE211 := n3_; clear n0_ n1_ n2_ n3_; clear hb hbox hg) | ((with_reducible refine gate_dst (N := 6) rfl ?_); refine box_event ?hg (N := 6) ?hd (cs := #[.slice none 0 0, .int .i64 0]) (t := 26) ?hr ?_; (case hd => rfl); (case hg => rfl); (case hr => first | (go_simp; done) | (go_simp; rfl)); intro gb212 hg w57 hbox hb; have n0_ := aM (bB (g := gb211) (o := .cells #[.slice A0_0 l0_0.length c0_0, .int .i64 a0_1] 26 (0, 0)) (by (with_reducible repeat (first | refine bN ?_ _ | refine bD ?_ | refine bA ?_ _)); exact BK211.out) hb); have n1_ := aM (below_step (by repeat (first | (with_reducible first | exact HB.out | apply eA | apply eN | apply eD | refine eS ?_ GE211.out) | exact HB.out)) hb); have n2_ := aM (hbox); have n3_ := aM ((by rw [hg]; exact (below_size (by repeat (first | (with_reducible first | exact HB.out | apply eA | apply eN | apply eD | refine eS ?_ GE211.out) | exact HB.out))) : w.heap.size ≤ gb212)); have n4_ := aM ((by rw [hg]; exact (below_size (by repeat (first | (with_reducible first | exact HB.out | apply eA | apply eN | apply eD | refine eS ?_ GE211.out) | exact HB.out))) : w.heap.size ≤ gb212)); have n5_ := aM ((by rw [hg]; exact Nat.ne_of_lt (blk_lt (g := gb211) (o := .cells #[.slice A0_0 l0_0.length c0_0, .int .i64 a0_1] 26 (0, 0)) (by (with_reducible repeat (first | refine bN ?_ _ | refine bD ?_ | refine bA ?_ _)); exact BK211.out)) : gb211 ≠ gb212)); have n6_ := aM ((by rw [hg]; exact Nat.ne_of_gt (blk_lt (g := gb211) (o := .cells #[.slice A0_0 l0_0.length c0_0, .int .i64 a0_1] 26 (0, 0)) (by (with_reducible repeat (first | refine bN ?_ _ | refine bD ?_ | refine bA ?_ _)); exact BK211.out)) : gb212 ≠ gb211)); clear BK211; clear HB; have BK211 := n0_; have HB := n1_; have BK212 := n2_; have GW212 := n3_; have GE212 := n4_; have NB211_212 := n5_; have NB212_211 := n6_; clear n0_ n1_ n2_ n3_ n4_ n5_ n6_; clear hb hbox hg; have hnb58 := NB211_212.out; have hnc58 := NB212_211.out; have hcz59_0 : w57.cell? ⟨gb211, 0, none⟩ = some (.slice A0_0 l0_0.length c0_0) := (bC BK211.out 0).trans rfl; have hcz59_1 : w57.cell? ⟨gb211, 1, none⟩ = some (.int .i64 a0_1) := (bC BK211.out 1).trans rfl; have hfz59_0 := bF BK211.out 0; have hfz59_1 := bF BK211.out 1) | ((with_reducible refine gate_callee (f := 30) rfl ?_); refine goesL_ (some 14) rfl rfl Try.func30 (by kernel_rfl) rfl #[.agg #[.slice A0_0 l0_0.length c0_0, .int .i64 a0_1]] rfl (by (try simp only [List.map_toArray, List.map_cons, List.map_nil]); first | done | rfl | (simp only [List.length_drop, List.length_take]; rfl)) ?_; (with_reducible refine (impl_IsVote.calls k _ _ l0_0 a0_1 true _ ?side1 ?side2 A4.out).mono ?_); (case side1 => repeat (first | exact (Kd.C_below HR0_0.out HB.out) | (with_reducible refine Kd.C_alloc ?_ _) | (with_reducible refine Kd.C_drewN ?_ _) | (with_reducible refine Kd.C_drew ?_))); (case side2 => exact HC0_0.out); rintro e w60 ⟨rfl, hb⟩; refine ⟨_, rfl, ?_⟩; have n0_ := aM (bB (g := gb211) (o := .cells #[.slice A0_0 l0_0.length c0_0, .int .i64 a0_1] 26 (0, 0)) (by (with_reducible repeat (first | refine bN ?_ _ | refine bD ?_ | refine bA ?_ _)); exact BK211.out) hb); have n1_ := aM (bB (g := gb212) (o := .cells #[.slice none 0 0, .int .i64 0] 26 (0, 0)) (by (with_reducible repeat (first | refine bN ?_ _ | refine bD ?_ | refine bA ?_ _)); exact BK212.out) hb); have n2_ := aM (below_step (by repeat (first | (with_reducible first | exact HB.out | apply eA | apply eN | apply eD | refine eS ?_ GE211.out | refine eS ?_ GE212.out) | exact HB.out)) hb); clear BK211; clear BK212; clear HB; have BK211 := n0_; have BK212 := n1_; have HB := n2_; clear n0_ n1_ n2_; (try clear hb); (try clear hb2); (try clear hk); (try clear hi)) | (go_at_call 50; (with_reducible refine (impl_within.calls a1 0 (wrap64 ((l0_0.length : Int) - 1)) false _ A6.out).mono ?_); rintro e w' ⟨rfl, ⟨nd, rfl⟩⟩; (try (rw [drewN_self w60]; generalize hq_ : World.drewN w60 _ = w60; have n0_ : Aside0 (w60.heap[gb211]? = some (.cells #[.slice A0_0 l0_0.length c0_0, .int .i64 a0_1] 26 (0, 0))) := ⟨by rw [← hq_]; exact (by (with_reducible repeat (first | refine bN ?_ _ | refine bD ?_ | refine bA ?_ _)); exact BK211.out)⟩; have n1_ : Aside0 (w60.heap[gb212]? = some (.cells #[.slice none 0 0, .int .i64 0] 26 (0, 0))) := ⟨by rw [← hq_]; exact (by (with_reducible repeat (first | refine bN ?_ _ | refine bD ?_ | refine bA ?_ _)); exact BK212.out)⟩; have n2_ : Aside0 (Below w.heap.size w w60) := ⟨by rw [← hq_]; exact (by repeat (first | (with_reducible first | exact HB.out | apply eA | apply eN | apply eD | refine eS ?_ GE211.out | refine eS ?_ GE212.out) | exact HB.out))⟩; clear BK211 BK212 HB hq_; have BK211 := n0_; have BK212 := n1_; have HB := n2_; clear n0_ n1_ n2_)); (try (have hcy211_0 := (bC BK211.out 0).trans rfl)); (try (have hfy211_0 := bF BK211.out 0)); (try (have hcy211_1 := (bC BK211.out 1).trans rfl)); (try (have hfy211_1 := bF BK211.out 1)); have hcz61_0 : w60.cell? ⟨gb212, 0, none⟩ = some (.slice none 0 0) := (bC BK212.out 0).trans rfl; have hcz61_1 : w60.cell? ⟨gb212, 1, none⟩ = some (.int .i64 0) := (bC BK212.out 1).trans rfl; have hfz61_0 := bF BK212.out 0; have hfz61_1 := bF BK212.out 1))
   refine bodyPost_ret (results_ct rfl _ _ gb212 26 #[.slice none 0 0, .int .i64 0] (0, 0) _ rfl (by (with_reducible repeat (first | refine bN ?_ _ | refine bD ?_ | refine bA ?_ _)); refine blk_put (cs := #[.slice none 0 0, .int .i64 0]) ?_ 1 _ rfl; (with_reducible repeat (first | refine bN ?_ _ | refine bD ?_ | refine bA ?_ _)); refine blk_put (cs := #[.slice none 0 0, .int .i64 0]) ?_ 0 _ rfl; (with_reducible repeat (first | refine bN ?_ _ | refine bD ?_ | refine bA ?_ _)); exact BK212.out) Try.underlying26 rfl (by kernel_rfl)) rfl ?_
   exact ⟨_, by first | rfl | (simp [errW_none, errW_some] <;> rfl) | (simp [*, errW_none, errW_some] <;> rfl), by first | exact Kd.R_nil _ _ _ _ _ | exact Kd.N_nil _ _ _ _ _ | exact Kd.V_nil _ _ _ _ _ | exact Kd.Q_nil _ _ _ _ _ | exact Kd.S_nil _ _ _ _ _, by repeat (first | (with_reducible first | exact HB.out | apply eA | apply eN | apply eD | refine eS ?_ GE211.out | refine eS ?_ GE212.out) | exact HB.out)⟩
 ·
  replace c5 := Bool.eq_false_iff.mpr c5
  subst c5
  have H1 : (some (([] : List Int), 0, false)) = some (r1, r2, r3) := by rw [if_neg (show ¬ (false = true) by decide)] at H; exact H
  clear H
  have H := H1
  clear H1
  simp only [Option.some.injEq, Prod.mk.injEq] at H
  obtain ⟨rfl, rfl, rfl⟩ := H
  go_enter Try.func9, Try.ntmps9
  go_wp2_with (first | ((with_reducible refine gate_dst (N := 3) rfl ?_); refine box_event ?hg (N := 3) ?hd (cs := #[.slice A0_0 l0_0.length c0_0, .int .i64 a0_1]) (t := 26) ?hr ?_; (case hd => rfl); (case hg => rfl); (case hr => first | (go_simp; done) | (go_simp; rfl)); intro gb211 hg w62 hbox hb; have n0_ := aM (below_step (by repeat (first | (with_reducible first | exact HB.out | apply eA | apply eN | apply eD) | exact HB.out)) hb); have n1_ := aM (hbox); have n2_ := aM ((by rw [hg]; exact (below_size (by repeat (first | (with_reducible first | exact HB.out | apply eA | apply eN | apply eD) | exact HB.out))) : w.heap.size ≤ gb211)); have n3_ := aM ((by rw [hg]; exact (below_size (by repeat (first | (with_reducible first | exact HB.out | apply eA | apply eN | apply eD) | exact HB.out))) : w.heap.size ≤ gb211)); clear HB; have HB := n0_; have BK211 := n1_; have GW211 := n2_; have GE211 := n3_; clear n0_ n1_ n2_ n3_; clear hb hbox hg) | ((with_reducible refine gate_dst (N := 6) rfl ?_); refine box_event ?hg (N := 6) ?hd (cs := #[.slice none 0 0, .int .i64 0]) (t := 26) ?hr ?_; (case hd => rfl); (case hg => rfl); (case hr => first | (go_simp; done) | (go_simp; rfl)); intro gb212 hg w63 hbox hb; have n0_ := aM (bB (g := gb211) (o := .cells #[.slice A0_0 l0_0.length c0_0, .int .i64 a0_1] 26 (0, 0)) (by (with_reducible repeat (first | refine bN ?_ _ | refine bD ?_ | refine bA ?_ _)); exact BK211.out) hb); have n1_ := aM (below_step (by repeat (first | (with_reducible first | exact HB.out | apply eA | apply eN | apply eD | refine eS ?_ GE211.out) | exact HB.out)) hb); have n2_ := aM (hbox); have n3_ := aM ((by rw [hg]; exact (below_size (by repeat (first | (with_reducible first | exact HB.out | apply eA | apply eN | apply eD | refine eS ?_ GE211.out) | exact HB.out))) : w.heap.size ≤ gb212)); have n4_ := aM ((by rw [hg]; exact (below_size (by repeat (first | (with_reducible first | exact HB.out | apply eA | apply eN | apply eD | refine eS ?_ GE211.out) | exact HB.out))) : w.heap.size ≤ gb212)); have n5_ := aM ((by rw [hg]; exact Nat.ne_of_lt (blk_lt (g := gb211) (o := .cells #[.slice A0_0 l0_0.length c0_0, .int .i64 a0_1] 26 (0, 0)) (by (with_reducible repeat (first | refine bN ?_ _ | refine bD ?_ | refine bA ?_ _)); exact BK211.out)) : gb211 ≠ gb212)); have n6_ := aM ((by rw [hg]; exact Nat.ne_of_gt (blk_lt (g := gb211) (o := .cells #[.slice A0_0 l0_0.length c0_0, .int .i64 a0_1] 26 (0, 0)) (by (with_reducible repeat (first | refine bN ?_ _ | refine bD ?_ | refine bA ?_ _)); exact BK211.out)) : gb212 ≠ gb211)); clear BK211; clear HB; have BK211 := n0_; have HB := n1_; have BK212 := n2_; have GW212 := n3_; have GE212 := n4_; have NB211_212 := n5_; have NB212_211 := n6_; clear n0_ n1_ n2_ n3_ n4_ n5_ n6_; clear hb hbox hg; have hnb64 := NB211_212.out; have hnc64 := NB212_211.out; have hcz65_0 : w63.cell? ⟨gb211, 0, none⟩ = some (.slice A0_0 l0_0.length c0_0) := (bC BK211.out 0).trans rfl; have hcz65_1 : w63.cell? ⟨gb211, 1, none⟩ = some (.int .i64 a0_1) := (bC BK211.out 1).trans rfl; have hfz65_0 := bF BK211.out 0; have hfz65_1 := bF BK211.out 1) | ((with_reducible refine gate_callee (f := 30) rfl ?_); refine goesL_ (some 14) rfl rfl Try.func30 (by kernel_rfl) rfl #[.agg #[.slice A0_0 l0_0.length c0_0, .int .i64 a0_1]] rfl (by (try simp only [List.map_toArray, List.map_cons, List.map_nil]); first | done | rfl | (simp only [List.length_drop, List.length_take]; rfl)) ?_; (with_reducible refine (impl_IsVote.calls k _ _ l0_0 a0_1 false _ ?side1 ?side2 A4.out).mono ?_); (case side1 => repeat (first | exact (Kd.C_below HR0_0.out HB.out) | (with_reducible refine Kd.C_alloc ?_ _) | (with_reducible refine Kd.C_drewN ?_ _) | (with_reducible refine Kd.C_drew ?_))); (case side2 => exact HC0_0.out); rintro e w66 ⟨rfl, hb⟩; refine ⟨_, rfl, ?_⟩; have n0_ := aM (bB (g := gb211) (o := .cells #[.slice A0_0 l0_0.length c0_0, .int .i64 a0_1] 26 (0, 0)) (by (with_reducible repeat (first | refine bN ?_ _ | refine bD ?_ | refine bA ?_ _)); exact BK211.out) hb); have n1_ := aM (bB (g := gb212) (o := .cells #[.slice none 0 0, .int .i64 0] 26 (0, 0)) (by (with_reducible repeat (first | refine bN ?_ _ | refine bD ?_ | refine bA ?_ _)); exact BK212.out) hb); have n2_ := aM (below_step (by repeat (first | (with_reducible first | exact HB.out | apply eA | apply eN | apply eD | refine eS ?_ GE211.out | refine eS ?_ GE212.out) | exact HB.out)) hb); clear BK211; clear BK212; clear HB; have BK211 := n0_; have BK212 := n1_; have HB := n2_; clear n0_ n1_ n2_; (try clear hb); (try clear hb2); (try clear hk); (try clear hi); have hcz67_0 : w66.cell? ⟨gb212, 0, none⟩ = some (.slice none 0 0) := (bC BK212.out 0).trans rfl; have hcz67_1 : w66.cell? ⟨gb212, 1, none⟩ = some (.int .i64 0) := (bC BK212.out 1).trans rfl; have hfz67_0 := bF BK212.out 0; have hfz67_1 := bF BK212.out 1))
  refine bodyPost_ret (results_ct rfl _ _ gb212 26 #[.slice none 0 0, .int .i64 0] (0, 0) _ rfl (by (with_reducible repeat (first | refine bN ?_ _ | refine bD ?_ | refine bA ?_ _)); refine blk_put (cs := #[.slice none 0 0, .int .i64 0]) ?_ 1 _ rfl; (with_reducible repeat (first | refine bN ?_ _ | refine bD ?_ | refine bA ?_ _)); refine blk_put (cs := #[.slice none 0 0, .int .i64 0]) ?_ 0 _ rfl; (with_reducible repeat (first | refine bN ?_ _ | refine bD ?_ | refine bA ?_ _)); exact BK212.out) Try.underlying26 rfl (by kernel_rfl)) rfl ?_
  exact ⟨_, by first | rfl | (simp [errW_none, errW_some] <;> rfl) | (simp [*, errW_none, errW_some] <;> rfl), by first | exact Kd.R_nil _ _ _ _ _ | exact Kd.N_nil _ _ _ _ _ | exact Kd.V_nil _ _ _ _ _ | exact Kd.Q_nil _ _ _ _ _ | exact Kd.S_nil _ _ _ _ _, by repeat (first | (with_reducible first | exact HB.out | apply eA | apply eN | apply eD | refine eS ?_ GE211.out | refine eS ?_ GE212.out) | exact HB.out)⟩
end Go.Proofs.Ytoecohjjbgenbaa.PFnVoters
