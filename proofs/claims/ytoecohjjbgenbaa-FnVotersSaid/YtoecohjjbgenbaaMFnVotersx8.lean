-- Laid for this claim by a program of the session's own (wip/tool/myprint.py).
import Derived.Test.YtoecohjjbgenbaaMFnVotersx0
import Derived.Test.YtoecohjjbgenbaaMFnVotersx3
import Derived.Test.YtoecohjjbgenbaaMFnVotersx7
namespace Go.Proofs.Ytoecohjjbgenbaa.PFnVoters
open Go.RowKit Go.Proofs.YtoecohjjbgenbaaW.PrintWords Go.Proofs.YtoecohjjbgenbaaW.PrintLast Go.Proofs.YtoecohjjbgenbaaW.PrintMore
attribute [local go_sem] max2_int min2_int max_two min_two max_three min_three max_four min_four
set_option linter.unusedVariables false
set_option linter.unusedSimpArgs false
def impl_MergeVoters.j0 : Nat → Int → Int → Bool → List Int → Int → Option (List Int × Int × Bool)
 | 0, _, _, _, _, _ => none
 | k + 1, x1, x2, x34, x282000, x282001 => if x34 = true then (some (([] : List Int), 0, false)) else ((impl_copied.f x282000).bind fun t286 => (if 0 ≤ x1 then (if x1 < (t286.length : Int) then (if 0 ≤ x2 then (if x2 < (t286.length : Int) then ((slices_Delete_int_int.f (t286.set (x1 : Int).toNat (wrap64 ((rd t286 x1) + (rd t286 x2)))) x2 (wrap64 (x2 + 1))).bind fun t293 => ((impl_IsVote.f k t293 x282001).bind fun t296 => (if t296 = true then (some (t293, x282001, true)) else (some (([] : List Int), 0, false))))) else (none)) else (none)) else (none)) else (none)))
def impl_MergeVoters.f (k : Nat) (l0_0 : List Int) (a0_1 : Int) (a1 : Int) (a2 : Int) : Option (List Int × Int × Bool) := (impl_IsVote.f k l0_0 a0_1).bind fun t283 => (if t283 = true then ((impl_within.f a1 0 (wrap64 ((l0_0.length : Int) - 1))).bind fun t284 => (if t284 = true then ((impl_within.f a2 0 (wrap64 ((l0_0.length : Int) - 1))).bind fun t285 => (if t285 = true then (impl_MergeVoters.j0 k a1 a2 (a1 == a2) l0_0 a0_1) else (impl_MergeVoters.j0 k a1 a2 true l0_0 a0_1))) else (impl_MergeVoters.j0 k a1 a2 true l0_0 a0_1))) else (impl_MergeVoters.j0 k a1 a2 true l0_0 a0_1))
theorem impl_MergeVoters.mono_l : ∀ k, (∀ y0 y1 y2 y3 y4, LeO (impl_MergeVoters.j0 k y0 y1 y2 y3 y4) (impl_MergeVoters.j0 (k + 1) y0 y1 y2 y3 y4))
 | 0 => fun _ _ _ _ _ r h => by simp [impl_MergeVoters.j0] at h
 | k + 1 => by
  have ih0 := impl_MergeVoters.mono_l k
  ·
   intro y0 y1 y2 y3 y4
   unfold impl_MergeVoters.j0
   repeat' first
   | (with_reducible exact ih0 _ _ _ _ _)
   | (with_reducible exact impl_IsVote.mono _ _ _)
   | (with_reducible exact LeO.refl _)
   | (with_reducible exact LeO.none _)
   | (with_reducible refine LeO.ite ?_ ?_)
   | (with_reducible refine LeO.bind ?_ (fun _ => ?_))
   | exact ih0 _ _ _ _ _
   | exact impl_IsVote.mono _ _ _
   | exact LeO.none _
   | refine LeO.ite ?_ ?_
   | refine LeO.bind ?_ (fun _ => ?_)
theorem impl_MergeVoters.mono : ∀ a0 a1 a2 a3 k, LeO (impl_MergeVoters.f k a0 a1 a2 a3) (impl_MergeVoters.f (k + 1) a0 a1 a2 a3) := by
 intro a0 a1 a2 a3 k
 have ih0 := impl_MergeVoters.mono_l k
 unfold impl_MergeVoters.f
 repeat' first
   | (with_reducible exact ih0 _ _ _ _ _)
   | (with_reducible exact impl_IsVote.mono _ _ _)
   | (with_reducible exact LeO.refl _)
   | (with_reducible exact LeO.none _)
   | (with_reducible refine LeO.ite ?_ ?_)
   | (with_reducible refine LeO.bind ?_ (fun _ => ?_))
   | exact ih0 _ _ _ _ _
   | exact impl_IsVote.mono _ _ _
   | exact LeO.none _
   | refine LeO.ite ?_ ?_
   | refine LeO.bind ?_ (fun _ => ?_)
def impl_MergeVoters.T4 : Bool × List (List Nat × List Nat) := (true, [([], []), ([0], [0]), ([1], [1]), ([], []), ([3], [3]), ([2, 4], [2, 4]), ([], []), ([6, 5, 2, 0, 1, 2, 3, 4, 5, 6], [5, 6])])
def impl_MergeVoters.B4 : List Nat := [0, 1, 3, 0, 8, 31, 0, 127]
theorem impl_MergeVoters.tab4 : rtab .any (opsOf Try.f13 4) = impl_MergeVoters.T4 := by kernel_rfl
theorem impl_MergeVoters.bits4 : waitsOk impl_MergeVoters.T4.2 impl_MergeVoters.B4 = true := by kernel_rfl
def impl_MergeVoters.T5 : Bool × List (List Nat × List Nat) := (true, [([], []), ([0], [0]), ([], []), ([1, 2], [1, 2]), ([3], [3]), ([], []), ([5], [5]), ([], []), ([6, 7], [6, 7]), ([8], [8]), ([4, 9], [4, 9]), ([1, 2, 0, 1, 2, 3, 4, 5, 6, 7, 8, 9, 10], [1, 2]), ([11, 10, 0, 1, 2, 3, 4, 5, 6, 7, 8, 9, 10], [10, 11])])
def impl_MergeVoters.B5 : List Nat := [0, 1, 0, 7, 15, 0, 32, 0, 224, 480, 1023, 2047, 4095]
theorem impl_MergeVoters.tab5 : rtab .any (opsOf Try.f13 5) = impl_MergeVoters.T5 := by kernel_rfl
theorem impl_MergeVoters.bits5 : waitsOk impl_MergeVoters.T5.2 impl_MergeVoters.B5 = true := by kernel_rfl
set_option maxHeartbeats 8000000 in
set_option maxRecDepth 100000 in
theorem impl_MergeVoters.calls (k : Nat) (A0_0 : Option Addr) (c0_0 : Nat) (l0_0 : List Int) (a0_1 : Int) (a1 : Int) (a2 : Int) (r1 : List Int) (r2 : Int) (r3 : Bool) (w : World) (hr0_0 : Kd.C (Kd.int .i64) w A0_0 l0_0.length l0_0) (hc0_0 : l0_0.length ≤ c0_0) (h : impl_MergeVoters.f k l0_0 a0_1 a1 a2 = some (r1, r2, r3)) :
  Calls Try.prog 13 #[.agg #[.slice A0_0 l0_0.length c0_0, .int .i64 a0_1], .int .i64 a1, .int .i64 a2] w fun e w' => ∃ v0_ : Value, e = .returned (.tuple #[.agg #[v0_, .int .i64 r2], .bool r3]) ∧ Kd.R (Kd.int .i64) 3 w' w.heap.size (fun _ => True) v0_ r1 ∧ Below w.heap.size w w' := by
 have hu26 := Try.underlying26
 have HR0_0 := aM hr0_0
 have HC0_0 := aM hc0_0
 clear hr0_0 hc0_0
 have HB := aM (Below.refl w.heap.size w)
 have H : ((impl_IsVote.f k l0_0 a0_1).bind fun t283 => (if t283 = true then ((impl_within.f a1 0 (wrap64 ((l0_0.length : Int) - 1))).bind fun t284 => (if t284 = true then ((impl_within.f a2 0 (wrap64 ((l0_0.length : Int) - 1))).bind fun t285 => (if t285 = true then (impl_MergeVoters.j0 k a1 a2 (a1 == a2) l0_0 a0_1) else (impl_MergeVoters.j0 k a1 a2 true l0_0 a0_1))) else (impl_MergeVoters.j0 k a1 a2 true l0_0 a0_1))) else (impl_MergeVoters.j0 k a1 a2 true l0_0 a0_1))) = some (r1, r2, r3) := h
 clear h
 have HC4 := aM H
 clear H
 go_enter Try.func13, Try.ntmps13
 go_upto_region 2 with (first | ((with_reducible refine gate_dst (N := 3) rfl ?_); refine box_event ?hg (N := 3) ?hd (cs := #[.slice A0_0 l0_0.length c0_0, .int .i64 a0_1]) (t := 26) ?hr ?_; (case hd => rfl); (case hg => rfl); (case hr => first | (go_simp; done) | (go_simp; rfl)); intro gb281 hg w5 hbox hb; have n0_ := aM (below_step (by repeat (first | (with_reducible first | exact HB.out | apply eA | apply eN | apply eD) | exact HB.out)) hb); have n1_ := aM (hbox); have n2_ := aM ((by rw [hg]; exact (below_size (by repeat (first | (with_reducible first | exact HB.out | apply eA | apply eN | apply eD) | exact HB.out))) : w.heap.size ≤ gb281)); have n3_ := aM ((by rw [hg]; exact (below_size (by repeat (first | (with_reducible first | exact HB.out | apply eA | apply eN | apply eD) | exact HB.out))) : w.heap.size ≤ gb281)); clear HB; have HB := n0_; have BK281 := n1_; have GW281 := n2_; have GE281 := n3_; clear n0_ n1_ n2_ n3_; clear hb hbox hg) | ((with_reducible refine gate_dst (N := 6) rfl ?_); refine box_event ?hg (N := 6) ?hd (cs := #[.slice none 0 0, .int .i64 0]) (t := 26) ?hr ?_; (case hd => rfl); (case hg => rfl); (case hr => first | (go_simp; done) | (go_simp; rfl)); intro gb282 hg w6 hbox hb; have n0_ := aM (bB (g := gb281) (o := .cells #[.slice A0_0 l0_0.length c0_0, .int .i64 a0_1] 26 (0, 0)) (by (with_reducible repeat (first | refine bN ?_ _ | refine bD ?_ | refine bA ?_ _)); exact BK281.out) hb); have n1_ := aM (below_step (by repeat (first | (with_reducible first | exact HB.out | apply eA | apply eN | apply eD | refine eS ?_ GE281.out) | exact HB.out)) hb); have n2_ := aM (hbox); have n3_ := aM ((by rw [hg]; exact (below_size (by repeat (first | (with_reducible first | exact HB.out | apply eA | apply eN | apply eD | refine eS ?_ GE281.out) | exact HB.out))) : w.heap.size ≤ gb282)); have n4_ := aM ((by rw [hg]; exact (below_size (by repeat (first | (with_reducible first | exact HB.out | apply eA | apply eN | apply eD | refine eS ?_ GE281.out) | exact HB.out))) : w.heap.size ≤ gb282)); have n5_ := aM ((by rw [hg]; exact Nat.ne_of_lt (blk_lt (g := gb281) (o := .cells #[.slice A0_0 l0_0.length c0_0, .int .i64 a0_1] 26 (0, 0)) (by (with_reducible repeat (first | refine bN ?_ _ | refine bD ?_ | refine bA ?_ _)); exact BK281.out)) : gb281 ≠ gb282)); have n6_ := aM ((by rw [hg]; exact Nat.ne_of_gt (blk_lt (g := gb281) (o := .cells #[.slice A0_0 l0_0.length c0_0, .int .i64 a0_1] 26 (0, 0)) (by (with_reducible repeat (first | refine bN ?_ _ | refine bD ?_ | refine bA ?_ _)); exact BK281.out)) : gb282 ≠ gb281)); clear BK281; clear HB; have BK281 := n0_; have HB := n1_; have BK282 := n2_; have GW282 := n3_; have GE282 := n4_; have NB281_282 := n5_; have NB282_281 := n6_; clear n0_ n1_ n2_ n3_ n4_ n5_ n6_; clear hb hbox hg; have hnb7 := NB281_282.out; have hnc7 := NB282_281.out; have hcz8_0 : w6.cell? ⟨gb281, 0, none⟩ = some (.slice A0_0 l0_0.length c0_0) := (bC BK281.out 0).trans rfl; have hcz8_1 : w6.cell? ⟨gb281, 1, none⟩ = some (.int .i64 a0_1) := (bC BK281.out 1).trans rfl; have hfz8_0 := bF BK281.out 0; have hfz8_1 := bF BK281.out 1))
 (try simp only [Act.put, sA, sZ, sU])
 go_cut [34] (fun v34 wc => ∃ (kq : Nat) (x34_3 : Bool), v34 = .bool x34_3 ∧ Aside0 (impl_MergeVoters.j0 kq a1 a2 x34_3 l0_0 a0_1 = some (r1, r2, r3)) ∧ Aside0 (kq ≤ k) ∧ Aside0 (wc.heap[gb281]? = some (.cells #[(.slice A0_0 l0_0.length c0_0), .int .i64 a0_1] 26 (0, 0))) ∧ Aside0 (wc.heap[gb282]? = some (.cells #[(.slice none 0 0), .int .i64 0] 26 (0, 0))) ∧ Aside0 (Below w.heap.size w wc))
 case first =>
  have H := HC4.out
  clear HC4
  replace H := oB.mp H
  obtain ⟨t283, A90, H⟩ := H
  replace H : (if t283 = true then ((impl_within.f a1 0 (wrap64 ((l0_0.length : Int) - 1))).bind fun t284 => (if t284 = true then ((impl_within.f a2 0 (wrap64 ((l0_0.length : Int) - 1))).bind fun t285 => (if t285 = true then (impl_MergeVoters.j0 k a1 a2 (a1 == a2) l0_0 a0_1) else (impl_MergeVoters.j0 k a1 a2 true l0_0 a0_1))) else (impl_MergeVoters.j0 k a1 a2 true l0_0 a0_1))) else (impl_MergeVoters.j0 k a1 a2 true l0_0 a0_1)) = some (r1, r2, r3) := H
  have A9 := aM A90
  clear A90
  by_cases c10 : t283 = true
  ·
   subst c10
   have H1 : ((impl_within.f a1 0 (wrap64 ((l0_0.length : Int) - 1))).bind fun t284 => (if t284 = true then ((impl_within.f a2 0 (wrap64 ((l0_0.length : Int) - 1))).bind fun t285 => (if t285 = true then (impl_MergeVoters.j0 k a1 a2 (a1 == a2) l0_0 a0_1) else (impl_MergeVoters.j0 k a1 a2 true l0_0 a0_1))) else (impl_MergeVoters.j0 k a1 a2 true l0_0 a0_1))) = some (r1, r2, r3) := by rw [if_pos rfl] at H; exact H
   clear H
   have H := H1
   clear H1
   replace H := oB.mp H
   obtain ⟨t284, A110, H⟩ := H
   replace H : (if t284 = true then ((impl_within.f a2 0 (wrap64 ((l0_0.length : Int) - 1))).bind fun t285 => (if t285 = true then (impl_MergeVoters.j0 k a1 a2 (a1 == a2) l0_0 a0_1) else (impl_MergeVoters.j0 k a1 a2 true l0_0 a0_1))) else (impl_MergeVoters.j0 k a1 a2 true l0_0 a0_1)) = some (r1, r2, r3) := H
   have A11 := aM A110
   clear A110
   by_cases c12 : t284 = true
   ·
    subst c12
    have H1 : ((impl_within.f a2 0 (wrap64 ((l0_0.length : Int) - 1))).bind fun t285 => (if t285 = true then (impl_MergeVoters.j0 k a1 a2 (a1 == a2) l0_0 a0_1) else (impl_MergeVoters.j0 k a1 a2 true l0_0 a0_1))) = some (r1, r2, r3) := by rw [if_pos rfl] at H; exact H
    clear H
    have H := H1
    clear H1
    replace H := oB.mp H
    obtain ⟨t285, A130, H⟩ := H
    replace H : (if t285 = true then (impl_MergeVoters.j0 k a1 a2 (a1 == a2) l0_0 a0_1) else (impl_MergeVoters.j0 k a1 a2 true l0_0 a0_1)) = some (r1, r2, r3) := H
    have A13 := aM A130
    clear A130
    by_cases c14 : t285 = true
    ·
     subst c14
     have H1 : (impl_MergeVoters.j0 k a1 a2 (a1 == a2) l0_0 a0_1) = some (r1, r2, r3) := by rw [if_pos rfl] at H; exact H
     clear H
     have H := H1
     clear H1
     have H' := aM H
     clear H
     have hnb15 := NB281_282.out
     have hnc15 := NB282_281.out
     have hcz16_0 : w6.cell? ⟨gb281, 0, none⟩ = some (.slice A0_0 l0_0.length c0_0) := (bC BK281.out 0).trans rfl
     have hcz16_1 : w6.cell? ⟨gb281, 1, none⟩ = some (.int .i64 a0_1) := (bC BK281.out 1).trans rfl
     have hfz16_0 := bF BK281.out 0
     have hfz16_1 := bF BK281.out 1
     go_wp2_with (first | ((with_reducible refine gate_callee (f := 30) rfl ?_); refine goesL_ (some 14) rfl rfl Try.func30 (by kernel_rfl) rfl #[.agg #[.slice A0_0 l0_0.length c0_0, .int .i64 a0_1]] rfl (by (try simp only [List.map_toArray, List.map_cons, List.map_nil]); first | done | rfl | (simp only [List.length_drop, List.length_take]; rfl)) ?_; (with_reducible refine (impl_IsVote.calls k _ _ l0_0 a0_1 true _ ?side1 ?side2 A9.out).mono ?_); (case side1 => repeat (first | exact (Kd.C_below HR0_0.out HB.out) | (with_reducible refine Kd.C_alloc ?_ _) | (with_reducible refine Kd.C_drewN ?_ _) | (with_reducible refine Kd.C_drew ?_))); (case side2 => exact HC0_0.out); rintro e w17 ⟨rfl, hb⟩; refine ⟨_, rfl, ?_⟩; have n0_ := aM (bB (g := gb281) (o := .cells #[.slice A0_0 l0_0.length c0_0, .int .i64 a0_1] 26 (0, 0)) (by (with_reducible repeat (first | refine bN ?_ _ | refine bD ?_ | refine bA ?_ _)); exact BK281.out) hb); have n1_ := aM (bB (g := gb282) (o := .cells #[.slice none 0 0, .int .i64 0] 26 (0, 0)) (by (with_reducible repeat (first | refine bN ?_ _ | refine bD ?_ | refine bA ?_ _)); exact BK282.out) hb); have n2_ := aM (below_step (by repeat (first | (with_reducible first | exact HB.out | apply eA | apply eN | apply eD | refine eS ?_ GE281.out | refine eS ?_ GE282.out) | exact HB.out)) hb); clear BK281; clear BK282; clear HB; have BK281 := n0_; have BK282 := n1_; have HB := n2_; clear n0_ n1_ n2_; (try clear hb); (try clear hb2); (try clear hk); (try clear hi)) | (go_at_call 50; (with_reducible refine (impl_within.calls a1 0 (wrap64 ((l0_0.length : Int) - 1)) true _ A11.out).mono ?_); rintro e w' ⟨rfl, ⟨nd, rfl⟩⟩) | (go_at_call 50; (with_reducible refine (impl_within.calls a2 0 (wrap64 ((l0_0.length : Int) - 1)) true _ A13.out).mono ?_); rintro e w' ⟨rfl, ⟨nd, rfl⟩⟩))
     go_meet
     case rel => exact ⟨_, ((a1 == a2)), (by first | rfl | (simp; done) | (simp [*]; done)), H', ⟨by first | omega | exact Nat.le_refl _⟩, ⟨by (with_reducible repeat (first | refine bN ?_ _ | refine bD ?_ | refine bA ?_ _)); exact BK281.out⟩, ⟨by (with_reducible repeat (first | refine bN ?_ _ | refine bD ?_ | refine bA ?_ _)); exact BK282.out⟩, ⟨by repeat (first | (with_reducible first | exact HB.out | apply eA | apply eN | apply eD | refine eS ?_ GE281.out | refine eS ?_ GE282.out) | exact HB.out)⟩⟩
    ·
     replace c14 := Bool.eq_false_iff.mpr c14
     subst c14
     have H1 : (impl_MergeVoters.j0 k a1 a2 true l0_0 a0_1) = some (r1, r2, r3) := by rw [if_neg (show ¬ (false = true) by decide)] at H; exact H
     clear H
     have H := H1
     clear H1
     have H' := aM H
     clear H
     have hnb18 := NB281_282.out
     have hnc18 := NB282_281.out
     have hcz19_0 : w6.cell? ⟨gb281, 0, none⟩ = some (.slice A0_0 l0_0.length c0_0) := (bC BK281.out 0).trans rfl
     have hcz19_1 : w6.cell? ⟨gb281, 1, none⟩ = some (.int .i64 a0_1) := (bC BK281.out 1).trans rfl
     have hfz19_0 := bF BK281.out 0
     have hfz19_1 := bF BK281.out 1
     go_wp2_with (first | ((with_reducible refine gate_callee (f := 30) rfl ?_); refine goesL_ (some 14) rfl rfl Try.func30 (by kernel_rfl) rfl #[.agg #[.slice A0_0 l0_0.length c0_0, .int .i64 a0_1]] rfl (by (try simp only [List.map_toArray, List.map_cons, List.map_nil]); first | done | rfl | (simp only [List.length_drop, List.length_take]; rfl)) ?_; (with_reducible refine (impl_IsVote.calls k _ _ l0_0 a0_1 true _ ?side1 ?side2 A9.out).mono ?_); (case side1 => repeat (first | exact (Kd.C_below HR0_0.out HB.out) | (with_reducible refine Kd.C_alloc ?_ _) | (with_reducible refine Kd.C_drewN ?_ _) | (with_reducible refine Kd.C_drew ?_))); (case side2 => exact HC0_0.out); rintro e w20 ⟨rfl, hb⟩; refine ⟨_, rfl, ?_⟩; have n0_ := aM (bB (g := gb281) (o := .cells #[.slice A0_0 l0_0.length c0_0, .int .i64 a0_1] 26 (0, 0)) (by (with_reducible repeat (first | refine bN ?_ _ | refine bD ?_ | refine bA ?_ _)); exact BK281.out) hb); have n1_ := aM (bB (g := gb282) (o := .cells #[.slice none 0 0, .int .i64 0] 26 (0, 0)) (by (with_reducible repeat (first | refine bN ?_ _ | refine bD ?_ | refine bA ?_ _)); exact BK282.out) hb); have n2_ := aM (below_step (by repeat (first | (with_reducible first | exact HB.out | apply eA | apply eN | apply eD | refine eS ?_ GE281.out | refine eS ?_ GE282.out) | exact HB.out)) hb); clear BK281; clear BK282; clear HB; have BK281 := n0_; have BK282 := n1_; have HB := n2_; clear n0_ n1_ n2_; (try clear hb); (try clear hb2); (try clear hk); (try clear hi)) | (go_at_call 50; (with_reducible refine (impl_within.calls a1 0 (wrap64 ((l0_0.length : Int) - 1)) true _ A11.out).mono ?_); rintro e w' ⟨rfl, ⟨nd, rfl⟩⟩) | (go_at_call 50; (with_reducible refine (impl_within.calls a2 0 (wrap64 ((l0_0.length : Int) - 1)) false _ A13.out).mono ?_); rintro e w' ⟨rfl, ⟨nd, rfl⟩⟩))
     go_meet
     case rel => exact ⟨_, (true), (by first | rfl | (simp; done) | (simp [*]; done)), H', ⟨by first | omega | exact Nat.le_refl _⟩, ⟨by (with_reducible repeat (first | refine bN ?_ _ | refine bD ?_ | refine bA ?_ _)); exact BK281.out⟩, ⟨by (with_reducible repeat (first | refine bN ?_ _ | refine bD ?_ | refine bA ?_ _)); exact BK282.out⟩, ⟨by repeat (first | (with_reducible first | exact HB.out | apply eA | apply eN | apply eD | refine eS ?_ GE281.out | refine eS ?_ GE282.out) | exact HB.out)⟩⟩
   ·
    replace c12 := Bool.eq_false_iff.mpr c12
    subst c12
    have H1 : (impl_MergeVoters.j0 k a1 a2 true l0_0 a0_1) = some (r1, r2, r3) := by rw [if_neg (show ¬ (false = true) by decide)] at H; exact H
    clear H
    have H := H1
    clear H1
    have H' := aM H
    clear H
    have hnb21 := NB281_282.out
    have hnc21 := NB282_281.out
    have hcz22_0 : w6.cell? ⟨gb281, 0, none⟩ = some (.slice A0_0 l0_0.length c0_0) := (bC BK281.out 0).trans rfl
    have hcz22_1 : w6.cell? ⟨gb281, 1, none⟩ = some (.int .i64 a0_1) := (bC BK281.out 1).trans rfl
    have hfz22_0 := bF BK281.out 0
    have hfz22_1 := bF BK281.out 1
    go_wp2_with (first | ((with_reducible refine gate_callee (f := 30) rfl ?_); refine goesL_ (some 14) rfl rfl Try.func30 (by kernel_rfl) rfl #[.agg #[.slice A0_0 l0_0.length c0_0, .int .i64 a0_1]] rfl (by (try simp only [List.map_toArray, List.map_cons, List.map_nil]); first | done | rfl | (simp only [List.length_drop, List.length_take]; rfl)) ?_; (with_reducible refine (impl_IsVote.calls k _ _ l0_0 a0_1 true _ ?side1 ?side2 A9.out).mono ?_); (case side1 => repeat (first | exact (Kd.C_below HR0_0.out HB.out) | (with_reducible refine Kd.C_alloc ?_ _) | (with_reducible refine Kd.C_drewN ?_ _) | (with_reducible refine Kd.C_drew ?_))); (case side2 => exact HC0_0.out); rintro e w23 ⟨rfl, hb⟩; refine ⟨_, rfl, ?_⟩; have n0_ := aM (bB (g := gb281) (o := .cells #[.slice A0_0 l0_0.length c0_0, .int .i64 a0_1] 26 (0, 0)) (by (with_reducible repeat (first | refine bN ?_ _ | refine bD ?_ | refine bA ?_ _)); exact BK281.out) hb); have n1_ := aM (bB (g := gb282) (o := .cells #[.slice none 0 0, .int .i64 0] 26 (0, 0)) (by (with_reducible repeat (first | refine bN ?_ _ | refine bD ?_ | refine bA ?_ _)); exact BK282.out) hb); have n2_ := aM (below_step (by repeat (first | (with_reducible first | exact HB.out | apply eA | apply eN | apply eD | refine eS ?_ GE281.out | refine eS ?_ GE282.out) | exact HB.out)) hb); clear BK281; clear BK282; clear HB; have BK281 := n0_; have BK282 := n1_; have HB := n2_; clear n0_ n1_ n2_; (try clear hb); (try clear hb2); (try clear hk); (try clear hi)) | (go_at_call 50; (with_reducible refine (impl_within.calls a1 0 (wrap64 ((l0_0.length : Int) - 1)) false _ A11.out).mono ?_); rintro e w' ⟨rfl, ⟨nd, rfl⟩⟩))
    go_meet
    case rel => exact ⟨_, (true), (by first | rfl | (simp; done) | (simp [*]; done)), H', ⟨by first | omega | exact Nat.le_refl _⟩, ⟨by (with_reducible repeat (first | refine bN ?_ _ | refine bD ?_ | refine bA ?_ _)); exact BK281.out⟩, ⟨by (with_reducible repeat (first | refine bN ?_ _ | refine bD ?_ | refine bA ?_ _)); exact BK282.out⟩, ⟨by repeat (first | (with_reducible first | exact HB.out | apply eA | apply eN | apply eD | refine eS ?_ GE281.out | refine eS ?_ GE282.out) | exact HB.out)⟩⟩
  ·
   replace c10 := Bool.eq_false_iff.mpr c10
   subst c10
   have H1 : (impl_MergeVoters.j0 k a1 a2 true l0_0 a0_1) = some (r1, r2, r3) := by rw [if_neg (show ¬ (false = true) by decide)] at H; exact H
   clear H
   have H := H1
   clear H1
   have H' := aM H
   clear H
   have hnb24 := NB281_282.out
   have hnc24 := NB282_281.out
   have hcz25_0 : w6.cell? ⟨gb281, 0, none⟩ = some (.slice A0_0 l0_0.length c0_0) := (bC BK281.out 0).trans rfl
   have hcz25_1 : w6.cell? ⟨gb281, 1, none⟩ = some (.int .i64 a0_1) := (bC BK281.out 1).trans rfl
   have hfz25_0 := bF BK281.out 0
   have hfz25_1 := bF BK281.out 1
   go_wp2_with (first | ((with_reducible refine gate_callee (f := 30) rfl ?_); refine goesL_ (some 14) rfl rfl Try.func30 (by kernel_rfl) rfl #[.agg #[.slice A0_0 l0_0.length c0_0, .int .i64 a0_1]] rfl (by (try simp only [List.map_toArray, List.map_cons, List.map_nil]); first | done | rfl | (simp only [List.length_drop, List.length_take]; rfl)) ?_; (with_reducible refine (impl_IsVote.calls k _ _ l0_0 a0_1 false _ ?side1 ?side2 A9.out).mono ?_); (case side1 => repeat (first | exact (Kd.C_below HR0_0.out HB.out) | (with_reducible refine Kd.C_alloc ?_ _) | (with_reducible refine Kd.C_drewN ?_ _) | (with_reducible refine Kd.C_drew ?_))); (case side2 => exact HC0_0.out); rintro e w26 ⟨rfl, hb⟩; refine ⟨_, rfl, ?_⟩; have n0_ := aM (bB (g := gb281) (o := .cells #[.slice A0_0 l0_0.length c0_0, .int .i64 a0_1] 26 (0, 0)) (by (with_reducible repeat (first | refine bN ?_ _ | refine bD ?_ | refine bA ?_ _)); exact BK281.out) hb); have n1_ := aM (bB (g := gb282) (o := .cells #[.slice none 0 0, .int .i64 0] 26 (0, 0)) (by (with_reducible repeat (first | refine bN ?_ _ | refine bD ?_ | refine bA ?_ _)); exact BK282.out) hb); have n2_ := aM (below_step (by repeat (first | (with_reducible first | exact HB.out | apply eA | apply eN | apply eD | refine eS ?_ GE281.out | refine eS ?_ GE282.out) | exact HB.out)) hb); clear BK281; clear BK282; clear HB; have BK281 := n0_; have BK282 := n1_; have HB := n2_; clear n0_ n1_ n2_; (try clear hb); (try clear hb2); (try clear hk); (try clear hi)))
   go_meet
   case rel => exact ⟨_, (true), (by first | rfl | (simp; done) | (simp [*]; done)), H', ⟨by first | omega | exact Nat.le_refl _⟩, ⟨by (with_reducible repeat (first | refine bN ?_ _ | refine bD ?_ | refine bA ?_ _)); exact BK281.out⟩, ⟨by (with_reducible repeat (first | refine bN ?_ _ | refine bD ?_ | refine bA ?_ _)); exact BK282.out⟩, ⟨by repeat (first | (with_reducible first | exact HB.out | apply eA | apply eN | apply eD | refine eS ?_ GE281.out | refine eS ?_ GE282.out) | exact HB.out)⟩⟩
 case rest =>
  clear HC4
  try clear c1; try clear c2; try clear p2; try clear c3; try clear p6; try clear c7; try clear c10; try clear c12; try clear c13; try clear c14; try clear c15; try clear c18; try clear c21; try clear c24; try clear hcz16_0; try clear hcz16_1; try clear hcz19_0; try clear hcz19_1; try clear hcz22_0; try clear hcz22_1; try clear hcz25_0; try clear hcz25_1; try clear hcz8_0; try clear hcz8_1; try clear hfz16_0; try clear hfz16_1; try clear hfz19_0; try clear hfz19_1; try clear hfz22_0; try clear hfz22_1; try clear hfz25_0; try clear hfz25_1; try clear hfz8_0; try clear hfz8_1
  obtain ⟨kq, x34_3, rfl, HA, HJ3, BK281, BK282, HB⟩ := hcut
  cases kq with
  | zero => exact absurd HA.out (by simp [impl_MergeVoters.j0])
  | succ kj3 =>
   have H := HA.out
   clear HA
   simp only [impl_MergeVoters.j0] at H
   by_cases c27 : x34_3 = true
   ·
    subst c27
    have H1 : (some (([] : List Int), 0, false)) = some (r1, r2, r3) := by rw [if_pos rfl] at H; exact H
    clear H
    have H := H1
    clear H1
    simp only [Option.some.injEq, Prod.mk.injEq] at H
    obtain ⟨rfl, rfl, rfl⟩ := H
    have hnb28 := NB282_281.out
    have hnc28 := NB281_282.out
    have hcz29_0 : wc.cell? ⟨gb282, 0, none⟩ = some (.slice none 0 0) := (bC BK282.out 0).trans rfl
    have hcz29_1 : wc.cell? ⟨gb282, 1, none⟩ = some (.int .i64 0) := (bC BK282.out 1).trans rfl
    have hfz29_0 := bF BK282.out 0
    have hfz29_1 := bF BK282.out 1
    go_wp2
    refine bodyPost_ret (results_ct rfl _ _ gb282 26 #[.slice none 0 0, .int .i64 0] (0, 0) _ rfl (by (with_reducible repeat (first | refine bN ?_ _ | refine bD ?_ | refine bA ?_ _)); refine blk_put (cs := #[.slice none 0 0, .int .i64 0]) ?_ 1 _ rfl; (with_reducible repeat (first | refine bN ?_ _ | refine bD ?_ | refine bA ?_ _)); refine blk_put (cs := #[.slice none 0 0, .int .i64 0]) ?_ 0 _ rfl; (with_reducible repeat (first | refine bN ?_ _ | refine bD ?_ | refine bA ?_ _)); exact BK282.out) Try.underlying26 rfl (by kernel_rfl)) rfl ?_
    exact ⟨_, by first | rfl | (simp [errW_none, errW_some] <;> rfl) | (simp [*, errW_none, errW_some] <;> rfl), by first | exact Kd.R_nil _ _ _ _ _ | exact Kd.N_nil _ _ _ _ _ | exact Kd.V_nil _ _ _ _ _ | exact Kd.Q_nil _ _ _ _ _ | exact Kd.S_nil _ _ _ _ _, by repeat (first | (with_reducible first | exact HB.out | apply eA | apply eN | apply eD | refine eS ?_ GE281.out | refine eS ?_ GE282.out) | exact HB.out)⟩
   ·
    replace c27 := Bool.eq_false_iff.mpr c27
    subst c27
    have H1 : ((impl_copied.f l0_0).bind fun t286 => (if 0 ≤ a1 then (if a1 < (t286.length : Int) then (if 0 ≤ a2 then (if a2 < (t286.length : Int) then ((slices_Delete_int_int.f (t286.set (a1 : Int).toNat (wrap64 ((rd t286 a1) + (rd t286 a2)))) a2 (wrap64 (a2 + 1))).bind fun t293 => ((impl_IsVote.f kj3 t293 a0_1).bind fun t296 => (if t296 = true then (some (t293, a0_1, true)) else (some (([] : List Int), 0, false))))) else (none)) else (none)) else (none)) else (none))) = some (r1, r2, r3) := by rw [if_neg (show ¬ (false = true) by decide)] at H; exact H
    clear H
    have H := H1
    clear H1
    replace H := oB.mp H
    obtain ⟨t286, A300, H⟩ := H
    replace H : (if 0 ≤ a1 then (if a1 < (t286.length : Int) then (if 0 ≤ a2 then (if a2 < (t286.length : Int) then ((slices_Delete_int_int.f (t286.set (a1 : Int).toNat (wrap64 ((rd t286 a1) + (rd t286 a2)))) a2 (wrap64 (a2 + 1))).bind fun t293 => ((impl_IsVote.f kj3 t293 a0_1).bind fun t296 => (if t296 = true then (some (t293, a0_1, true)) else (some (([] : List Int), 0, false))))) else (none)) else (none)) else (none)) else (none)) = some (r1, r2, r3) := H
    have A30 := aM A300
    clear A300
    by_cases c31 : 0 ≤ a1
    ·
     rw [if_pos c31] at H
     have c31b0 : decide (0 ≤ a1) = true := decide_eq_true c31
     clear c31
     by_cases c32 : a1 < (t286.length : Int)
     ·
      rw [if_pos c32] at H
      have c32b0 : decide (a1 < (t286.length : Int)) = true := decide_eq_true c32
      clear c32
      by_cases c33 : 0 ≤ a2
      ·
       rw [if_pos c33] at H
       have c33b0 : decide (0 ≤ a2) = true := decide_eq_true c33
       clear c33
       by_cases c34 : a2 < (t286.length : Int)
       ·
        rw [if_pos c34] at H
        have c34b0 : decide (a2 < (t286.length : Int)) = true := decide_eq_true c34
        clear c34
        obtain ⟨y292, hy292⟩ : ∃ y_ : List Int, y_ = (t286.set (a1 : Int).toNat (wrap64 ((rd t286 a1) + (rd t286 a2)))) := ⟨_, rfl⟩
        replace H : ((slices_Delete_int_int.f y292 a2 (wrap64 (a2 + 1))).bind fun t293 => ((impl_IsVote.f kj3 t293 a0_1).bind fun t296 => (if t296 = true then (some (t293, a0_1, true)) else (some (([] : List Int), 0, false))))) = some (r1, r2, r3) := by first | (rw [hy292]; with_reducible exact H) | (have H2_ := (Option.bind_some _ _).symm.trans H; rw [hy292]; with_reducible exact H2_) | (have H2_ := (Option.bind_some _ _).symm.trans H; with_reducible exact H2_) | with_reducible exact H | (rw [hy292]; exact H) | exact H
        have Ny292 := aM hy292
        clear hy292
        replace H := oB.mp H
        obtain ⟨t293, A360, H⟩ := H
        replace H : ((impl_IsVote.f kj3 t293 a0_1).bind fun t296 => (if t296 = true then (some (t293, a0_1, true)) else (some (([] : List Int), 0, false)))) = some (r1, r2, r3) := H
        have A36 := aM A360
        clear A360
        replace H := oB.mp H
        obtain ⟨t296, A370, H⟩ := H
        replace H : (if t296 = true then (some (t293, a0_1, true)) else (some (([] : List Int), 0, false))) = some (r1, r2, r3) := H
        have A37 := aM A370
        clear A370
        by_cases c38 : t296 = true
        ·
         subst c38
         have H1 : (some (t293, a0_1, true)) = some (r1, r2, r3) := by rw [if_pos rfl] at H; exact H
         clear H
         have H := H1
         clear H1
         simp only [Option.some.injEq, Prod.mk.injEq] at H
         obtain ⟨rfl, rfl, rfl⟩ := H
         try go_wp2
         have n0_ := aM (bD BK281.out)
         have n1_ := aM (bD BK282.out)
         have n2_ := aM (eD HB.out)
         clear BK281 BK282 HB
         have BK281 := n0_
         have BK282 := n1_
         have HB := n2_
         clear n0_ n1_ n2_
         refine start_ (n := 8) (S := fun w' => w'.cell? ⟨gb281, 0, none⟩ = some (.slice A0_0 l0_0.length c0_0) ∧ w'.cell? ⟨gb281, 1, none⟩ = some (.int .i64 a0_1)) (ds := []) #[false, false, false, false, false, false, false, false] (by kernel_rfl) rfl rfl ⟨(bC BK281.out 0).trans rfl, (bC BK281.out 1).trans rfl⟩ (fun hHeld => ?_); refine with_tabW impl_MergeVoters.tab4 impl_MergeVoters.bits4 (fun HT_ HW_ => ?_)
         generalize wc.drew = w39 at BK281 BK282 HB hHeld ⊢
         refine pure_ (i := 0) (N := some 36) (v := ?_) (a' := ?_) #[true, false, false, false, false, false, false, false] rfl rfl (any_of HT_.out (by kernel_rfl)) (fun _ _ _ h => h) (Or.inl ⟨by rfl, ?_⟩) ?_ ?_
         rotate_left
         ·
          intro w'
          go_simp
          with_reducible rfl
         rotate_left
         ·
          simp only [Act.put, sA, sZ, sU, i64_w, i32_w]
          rfl
         refine pure_ (i := 3) (N := some 39) (v := ?_) (a' := ?_) #[true, false, false, true, false, false, false, false] rfl rfl (any_of HT_.out (by kernel_rfl)) (fun _ _ _ h => h) (Or.inl ⟨by rfl, ?_⟩) ?_ ?_
         rotate_left
         ·
          intro w'
          go_simp
          with_reducible rfl
         rotate_left
         ·
          simp only [Act.put, sA, sZ, sU, i64_w, i32_w]
          rfl
         refine take_ (i := 1) (N := some 37) (v := ?_) (a' := ?_) #[true, true, false, true, false, false, false, false] rfl rfl (take_ofW HT_.out HW_.out (by kernel_rfl)) (fun _ _ _ h => h) (Or.inl ⟨by rfl, ?_⟩) hHeld ?_ ?_
         rotate_left
         ·
          rintro w' ⟨s0, s1⟩
          first | (go_simp; with_reducible rfl) | (simp only [add_plain] at s0 s1; go_simp; with_reducible rfl)
         rotate_left
         ·
          simp only [Act.put, sA, sZ, sU, i64_w, i32_w]
          rfl
         refine take_ (i := 4) (N := some 40) (v := ?_) (a' := ?_) #[true, true, false, true, true, false, false, false] rfl rfl (take_ofW HT_.out HW_.out (by kernel_rfl)) (fun _ _ _ h => h) (Or.inl ⟨by rfl, ?_⟩) hHeld ?_ ?_
         rotate_left
         ·
          rintro w' ⟨s0, s1⟩
          first | (go_simp; with_reducible rfl) | (simp only [add_plain] at s0 s1; go_simp; with_reducible rfl)
         rotate_left
         ·
          simp only [Act.put, sA, sZ, sU, i64_w, i32_w]
          rfl
         refine join_ (σ := Value × Nat) 1 #[true, true, true, true, true, true, true, false] (fun s_ => [(38, s_.1), (9, .pointer (some ⟨s_.2, 0, none⟩)), (41, .agg #[s_.1, .int .i64 a0_1])]) (fun s_ w' => (w'.cell? ⟨gb281, 0, none⟩ = some (.slice A0_0 l0_0.length c0_0) ∧ w'.cell? ⟨gb281, 1, none⟩ = some (.int .i64 a0_1)) ∧ (Kd.R (Kd.int .i64) 3 w' w.heap.size (fun _ => True) s_.1 t286) ∧ (w'.heap[gb281]? = some (.cells #[.slice A0_0 l0_0.length c0_0, .int .i64 a0_1] 26 (0, 0))) ∧ (w'.heap[gb282]? = some (.cells #[.slice none 0 0, .int .i64 0] 26 (0, 0))) ∧ (w'.heap[s_.2]? = some (.cells #[.slice none 0 0, .int .i64 0] 26 (0, 0))) ∧ (w.heap.size ≤ s_.2) ∧ (w.heap.size ≤ s_.2) ∧ (gb281 ≠ s_.2) ∧ (s_.2 ≠ gb281) ∧ (gb282 ≠ s_.2) ∧ (s_.2 ≠ gb282) ∧ (Below w.heap.size w w')) ?_ ?_
         rotate_left
         ·
          intro hCont
          refine two_ (i := 2) (j := 6) (Ni := some 38) (Nj := some 9) #[true, true, true, true, true, false, false, false] #[true, true, false, true, true, false, true, false] rfl rfl rfl rfl (two_of HT_.out (by kernel_rfl)) (by decide) (by decide) (fun K hK => ?_) (fun K hK => ?_)
          ·
           skip
           refine goes_ Try.func51 (by kernel_rfl) rfl #[.slice A0_0 l0_0.length c0_0] (by rfl) rfl rfl (by (try simp only [List.map_toArray, List.map_cons, List.map_nil]); first | done | rfl | (simp only [List.length_drop, List.length_take]; rfl)) ?_
           with_reducible refine (impl_copied.calls _ _ l0_0 t286 _ ?side1 ?side2 A30.out).mono ?_
           (case side1 => repeat (first | exact (Kd.C_below HR0_0.out HB.out) | (with_reducible refine Kd.C_alloc ?_ _) | (with_reducible refine Kd.C_drewN ?_ _) | (with_reducible refine Kd.C_drew ?_)))
           (case side2 => exact HC0_0.out)
           rintro e w40 ⟨v287, rfl, ho0, hb⟩
           refine ⟨_, rfl, ?_⟩
           have n0_ := aM (Kd.R_lower ho0 (below_size (by repeat (first | (with_reducible first | exact HB.out | apply eA | apply eN | apply eD | refine eS ?_ GE281.out | refine eS ?_ GE282.out) | exact HB.out))))
           have n1_ := aM (bB (g := gb281) (o := .cells #[.slice A0_0 l0_0.length c0_0, .int .i64 a0_1] 26 (0, 0)) (by (with_reducible repeat (first | refine bN ?_ _ | refine bD ?_ | refine bA ?_ _)); exact BK281.out) hb)
           have n2_ := aM (bB (g := gb282) (o := .cells #[.slice none 0 0, .int .i64 0] 26 (0, 0)) (by (with_reducible repeat (first | refine bN ?_ _ | refine bD ?_ | refine bA ?_ _)); exact BK282.out) hb)
           have n3_ := aM (below_step (by repeat (first | (with_reducible first | exact HB.out | apply eA | apply eN | apply eD | refine eS ?_ GE281.out | refine eS ?_ GE282.out) | exact HB.out)) hb)
           clear BK281 BK282 HB
           have HO288 := n0_
           have BK281 := n1_
           have BK282 := n2_
           have HB := n3_
           clear n0_ n1_ n2_ n3_
           (try clear hb)
           (try clear hb2)
           (try clear hk)
           (try clear hi)
           (try clear ho0)
           obtain ⟨Ao41, co41, eo41⟩ := Kd.R_slice HO288.out
           (first | subst eo41 | (injection eo41 with f1_ f2_ f3_; have f4_ := f1_.symm; have f5_ := f3_.symm; clear f1_ f2_ f3_; subst f4_; subst f5_))
           refine hK.out _ _ ⟨(bC BK281.out 0).trans rfl, (bC BK281.out 1).trans rfl⟩ (fun hHeld => ?_)
           clear hK K
           refine norm_ (a' := ?_) ?_ ?_
           rotate_left
           ·
            show Act.put _ (some 38) _ = _
            simp only [Act.put, sA, sZ, sU, i64_w, i32_w]
            rfl
           refine pure_ (i := 5) (N := some 41) (v := ?_) (a' := ?_) #[true, true, true, true, true, true, false, false] rfl rfl (any_of HT_.out (by kernel_rfl)) (fun _ _ _ h => h) (Or.inl ⟨by rfl, ?_⟩) ?_ ?_
           rotate_left
           ·
            intro w'
            go_simp
            with_reducible rfl
           rotate_left
           ·
            simp only [Act.put, sA, sZ, sU, i64_w, i32_w]
            rfl
           refine one_ (i := 6) (N := some 9) #[true, true, true, true, true, true, true, false] rfl rfl (one_of HT_.out (by kernel_rfl)) (by decide) (fun K hK => ?_)
           refine box_step ?hg (N := 9) ?hd (cs := #[.slice none 0 0, .int .i64 0]) (t := 26) ?hr ?_; (case hd => rfl); (case hg => rfl); (case hr => first | (go_simp; done) | (go_simp; rfl))
           intro gb289 hg w42 hbox hb
           have n0_ := aM (Kd.R_below (by (with_reducible repeat (first | apply rA | apply rN | apply rD)); exact HO288.out) hb)
           have n1_ := aM (bB (g := gb281) (o := .cells #[.slice A0_0 l0_0.length c0_0, .int .i64 a0_1] 26 (0, 0)) (by (with_reducible repeat (first | refine bN ?_ _ | refine bD ?_ | refine bA ?_ _)); exact BK281.out) hb)
           have n2_ := aM (bB (g := gb282) (o := .cells #[.slice none 0 0, .int .i64 0] 26 (0, 0)) (by (with_reducible repeat (first | refine bN ?_ _ | refine bD ?_ | refine bA ?_ _)); exact BK282.out) hb)
           have n3_ := aM (below_step (by repeat (first | (with_reducible first | exact HB.out | apply eA | apply eN | apply eD | refine eS ?_ GE281.out | refine eS ?_ GE282.out) | exact HB.out)) hb)
           have n4_ := aM (hbox)
           have n5_ := aM ((by rw [hg]; exact (below_size (by repeat (first | (with_reducible first | exact HB.out | apply eA | apply eN | apply eD | refine eS ?_ GE281.out | refine eS ?_ GE282.out) | exact HB.out))) : w.heap.size ≤ gb289))
           have n6_ := aM ((by rw [hg]; exact (below_size (by repeat (first | (with_reducible first | exact HB.out | apply eA | apply eN | apply eD | refine eS ?_ GE281.out | refine eS ?_ GE282.out) | exact HB.out))) : w.heap.size ≤ gb289))
           have n7_ := aM ((by rw [hg]; exact Nat.ne_of_lt (blk_lt (g := gb281) (o := .cells #[.slice A0_0 l0_0.length c0_0, .int .i64 a0_1] 26 (0, 0)) (by (with_reducible repeat (first | refine bN ?_ _ | refine bD ?_ | refine bA ?_ _)); exact BK281.out)) : gb281 ≠ gb289))
           have n8_ := aM ((by rw [hg]; exact Nat.ne_of_gt (blk_lt (g := gb281) (o := .cells #[.slice A0_0 l0_0.length c0_0, .int .i64 a0_1] 26 (0, 0)) (by (with_reducible repeat (first | refine bN ?_ _ | refine bD ?_ | refine bA ?_ _)); exact BK281.out)) : gb289 ≠ gb281))
           have n9_ := aM ((by rw [hg]; exact Nat.ne_of_lt (blk_lt (g := gb282) (o := .cells #[.slice none 0 0, .int .i64 0] 26 (0, 0)) (by (with_reducible repeat (first | refine bN ?_ _ | refine bD ?_ | refine bA ?_ _)); exact BK282.out)) : gb282 ≠ gb289))
           have n10_ := aM ((by rw [hg]; exact Nat.ne_of_gt (blk_lt (g := gb282) (o := .cells #[.slice none 0 0, .int .i64 0] 26 (0, 0)) (by (with_reducible repeat (first | refine bN ?_ _ | refine bD ?_ | refine bA ?_ _)); exact BK282.out)) : gb289 ≠ gb282))
           clear HO288 BK281 BK282 HB
           have HO288 := n0_
           have BK281 := n1_
           have BK282 := n2_
           have HB := n3_
           have BK289 := n4_
           have GW289 := n5_
           have GE289 := n6_
           have NB281_289 := n7_
           have NB289_281 := n8_
           have NB282_289 := n9_
           have NB289_282 := n10_
           clear n0_ n1_ n2_ n3_ n4_ n5_ n6_ n7_ n8_ n9_ n10_ hb hbox hg
           refine hK.out _ _ ⟨(bC BK281.out 0).trans rfl, (bC BK281.out 1).trans rfl⟩ (fun hHeld => ?_)
           clear hK K
           refine norm_ (a' := ?_) ?_ ?_
           rotate_left
           ·
            show Act.put _ (some 9) _ = _
            simp only [Act.put, sA, sZ, sU, i64_w, i32_w]
            rfl
           exact norm_ (by simp only [putAll, Act.put, sA, sZ, sU]) (hCont (.slice Ao41 t286.length co41, gb289) _ ⟨hHeld, (by (with_reducible repeat (first | apply rA | apply rN | apply rD)); exact HO288.out), (by (with_reducible repeat (first | refine bN ?_ _ | refine bD ?_ | refine bA ?_ _)); exact BK281.out), (by (with_reducible repeat (first | refine bN ?_ _ | refine bD ?_ | refine bA ?_ _)); exact BK282.out), (by (with_reducible repeat (first | refine bN ?_ _ | refine bD ?_ | refine bA ?_ _)); exact BK289.out), GW289.out, GE289.out, NB281_289.out, NB289_281.out, NB282_289.out, NB289_282.out, (by repeat (first | (with_reducible first | exact HB.out | apply eA | apply eN | apply eD | refine eS ?_ GE281.out | refine eS ?_ GE282.out | refine eS ?_ GE289.out) | exact HB.out))⟩)
          ·
           skip
           refine box_step ?hg (N := 9) ?hd (cs := #[.slice none 0 0, .int .i64 0]) (t := 26) ?hr ?_; (case hd => rfl); (case hg => rfl); (case hr => first | (go_simp; done) | (go_simp; rfl))
           intro gb289 hg w40 hbox hb
           have n0_ := aM (bB (g := gb281) (o := .cells #[.slice A0_0 l0_0.length c0_0, .int .i64 a0_1] 26 (0, 0)) (by (with_reducible repeat (first | refine bN ?_ _ | refine bD ?_ | refine bA ?_ _)); exact BK281.out) hb)
           have n1_ := aM (bB (g := gb282) (o := .cells #[.slice none 0 0, .int .i64 0] 26 (0, 0)) (by (with_reducible repeat (first | refine bN ?_ _ | refine bD ?_ | refine bA ?_ _)); exact BK282.out) hb)
           have n2_ := aM (below_step (by repeat (first | (with_reducible first | exact HB.out | apply eA | apply eN | apply eD | refine eS ?_ GE281.out | refine eS ?_ GE282.out) | exact HB.out)) hb)
           have n3_ := aM (hbox)
           have n4_ := aM ((by rw [hg]; exact (below_size (by repeat (first | (with_reducible first | exact HB.out | apply eA | apply eN | apply eD | refine eS ?_ GE281.out | refine eS ?_ GE282.out) | exact HB.out))) : w.heap.size ≤ gb289))
           have n5_ := aM ((by rw [hg]; exact (below_size (by repeat (first | (with_reducible first | exact HB.out | apply eA | apply eN | apply eD | refine eS ?_ GE281.out | refine eS ?_ GE282.out) | exact HB.out))) : w.heap.size ≤ gb289))
           have n6_ := aM ((by rw [hg]; exact Nat.ne_of_lt (blk_lt (g := gb281) (o := .cells #[.slice A0_0 l0_0.length c0_0, .int .i64 a0_1] 26 (0, 0)) (by (with_reducible repeat (first | refine bN ?_ _ | refine bD ?_ | refine bA ?_ _)); exact BK281.out)) : gb281 ≠ gb289))
           have n7_ := aM ((by rw [hg]; exact Nat.ne_of_gt (blk_lt (g := gb281) (o := .cells #[.slice A0_0 l0_0.length c0_0, .int .i64 a0_1] 26 (0, 0)) (by (with_reducible repeat (first | refine bN ?_ _ | refine bD ?_ | refine bA ?_ _)); exact BK281.out)) : gb289 ≠ gb281))
           have n8_ := aM ((by rw [hg]; exact Nat.ne_of_lt (blk_lt (g := gb282) (o := .cells #[.slice none 0 0, .int .i64 0] 26 (0, 0)) (by (with_reducible repeat (first | refine bN ?_ _ | refine bD ?_ | refine bA ?_ _)); exact BK282.out)) : gb282 ≠ gb289))
           have n9_ := aM ((by rw [hg]; exact Nat.ne_of_gt (blk_lt (g := gb282) (o := .cells #[.slice none 0 0, .int .i64 0] 26 (0, 0)) (by (with_reducible repeat (first | refine bN ?_ _ | refine bD ?_ | refine bA ?_ _)); exact BK282.out)) : gb289 ≠ gb282))
           clear BK281 BK282 HB
           have BK281 := n0_
           have BK282 := n1_
           have HB := n2_
           have BK289 := n3_
           have GW289 := n4_
           have GE289 := n5_
           have NB281_289 := n6_
           have NB289_281 := n7_
           have NB282_289 := n8_
           have NB289_282 := n9_
           clear n0_ n1_ n2_ n3_ n4_ n5_ n6_ n7_ n8_ n9_ hb hbox hg
           refine hK.out _ _ ⟨(bC BK281.out 0).trans rfl, (bC BK281.out 1).trans rfl⟩ (fun hHeld => ?_)
           clear hK K
           refine norm_ (a' := ?_) ?_ ?_
           rotate_left
           ·
            show Act.put _ (some 9) _ = _
            simp only [Act.put, sA, sZ, sU, i64_w, i32_w]
            rfl
           refine one_ (i := 2) (N := some 38) #[true, true, true, true, true, false, true, false] rfl rfl (one_of HT_.out (by kernel_rfl)) (by decide) (fun K hK => ?_)
           refine goes_ Try.func51 (by kernel_rfl) rfl #[.slice A0_0 l0_0.length c0_0] (by rfl) rfl rfl (by (try simp only [List.map_toArray, List.map_cons, List.map_nil]); first | done | rfl | (simp only [List.length_drop, List.length_take]; rfl)) ?_
           with_reducible refine (impl_copied.calls _ _ l0_0 t286 _ ?side1 ?side2 A30.out).mono ?_
           (case side1 => repeat (first | exact (Kd.C_below HR0_0.out HB.out) | (with_reducible refine Kd.C_alloc ?_ _) | (with_reducible refine Kd.C_drewN ?_ _) | (with_reducible refine Kd.C_drew ?_)))
           (case side2 => exact HC0_0.out)
           rintro e w41 ⟨v287, rfl, ho0, hb⟩
           refine ⟨_, rfl, ?_⟩
           have n0_ := aM (Kd.R_lower ho0 (below_size (by repeat (first | (with_reducible first | exact HB.out | apply eA | apply eN | apply eD | refine eS ?_ GE281.out | refine eS ?_ GE282.out | refine eS ?_ GE289.out) | exact HB.out))))
           have n1_ := aM (bB (g := gb281) (o := .cells #[.slice A0_0 l0_0.length c0_0, .int .i64 a0_1] 26 (0, 0)) (by (with_reducible repeat (first | refine bN ?_ _ | refine bD ?_ | refine bA ?_ _)); exact BK281.out) hb)
           have n2_ := aM (bB (g := gb282) (o := .cells #[.slice none 0 0, .int .i64 0] 26 (0, 0)) (by (with_reducible repeat (first | refine bN ?_ _ | refine bD ?_ | refine bA ?_ _)); exact BK282.out) hb)
           have n3_ := aM (bB (g := gb289) (o := .cells #[.slice none 0 0, .int .i64 0] 26 (0, 0)) (by (with_reducible repeat (first | refine bN ?_ _ | refine bD ?_ | refine bA ?_ _)); exact BK289.out) hb)
           have n4_ := aM (below_step (by repeat (first | (with_reducible first | exact HB.out | apply eA | apply eN | apply eD | refine eS ?_ GE281.out | refine eS ?_ GE282.out | refine eS ?_ GE289.out) | exact HB.out)) hb)
           clear BK281 BK282 BK289 HB
           have HO288 := n0_
           have BK281 := n1_
           have BK282 := n2_
           have BK289 := n3_
           have HB := n4_
           clear n0_ n1_ n2_ n3_ n4_
           (try clear hb)
           (try clear hb2)
           (try clear hk)
           (try clear hi)
           (try clear ho0)
           obtain ⟨Ao42, co42, eo42⟩ := Kd.R_slice HO288.out
           (first | subst eo42 | (injection eo42 with f1_ f2_ f3_; have f4_ := f1_.symm; have f5_ := f3_.symm; clear f1_ f2_ f3_; subst f4_; subst f5_))
           refine hK.out _ _ ⟨(bC BK281.out 0).trans rfl, (bC BK281.out 1).trans rfl⟩ (fun hHeld => ?_)
           clear hK K
           refine norm_ (a' := ?_) ?_ ?_
           rotate_left
           ·
            show Act.put _ (some 38) _ = _
            simp only [Act.put, sA, sZ, sU, i64_w, i32_w]
            rfl
           refine pure_ (i := 5) (N := some 41) (v := ?_) (a' := ?_) #[true, true, true, true, true, true, true, false] rfl rfl (any_of HT_.out (by kernel_rfl)) (fun _ _ _ h => h) (Or.inl ⟨by rfl, ?_⟩) ?_ ?_
           rotate_left
           ·
            intro w'
            go_simp
            with_reducible rfl
           rotate_left
           ·
            simp only [Act.put, sA, sZ, sU, i64_w, i32_w]
            rfl
           exact norm_ (by simp only [putAll, Act.put, sA, sZ, sU]) (hCont (.slice Ao42 t286.length co42, gb289) _ ⟨hHeld, (by (with_reducible repeat (first | apply rA | apply rN | apply rD)); exact HO288.out), (by (with_reducible repeat (first | refine bN ?_ _ | refine bD ?_ | refine bA ?_ _)); exact BK281.out), (by (with_reducible repeat (first | refine bN ?_ _ | refine bD ?_ | refine bA ?_ _)); exact BK282.out), (by (with_reducible repeat (first | refine bN ?_ _ | refine bD ?_ | refine bA ?_ _)); exact BK289.out), GW289.out, GE289.out, NB281_289.out, NB289_281.out, NB282_289.out, NB289_282.out, (by repeat (first | (with_reducible first | exact HB.out | apply eA | apply eN | apply eD | refine eS ?_ GE281.out | refine eS ?_ GE282.out | refine eS ?_ GE289.out) | exact HB.out))⟩)
         rintro ⟨v287, gb289⟩ w43 ⟨hS_, h0_, h1_, h2_, h3_, h4_, h5_, h6_, h7_, h8_, h9_, h10_⟩
         have n0_ : Aside0 (Kd.R (Kd.int .i64) 3 w43 w.heap.size (fun _ => True) v287 t286) := ⟨h0_⟩
         have n1_ : Aside0 (w43.heap[gb281]? = some (.cells #[.slice A0_0 l0_0.length c0_0, .int .i64 a0_1] 26 (0, 0))) := ⟨h1_⟩
         have n2_ : Aside0 (w43.heap[gb282]? = some (.cells #[.slice none 0 0, .int .i64 0] 26 (0, 0))) := ⟨h2_⟩
         have n3_ : Aside0 (w43.heap[gb289]? = some (.cells #[.slice none 0 0, .int .i64 0] 26 (0, 0))) := ⟨h3_⟩
         have n4_ : Aside0 (w.heap.size ≤ gb289) := ⟨h4_⟩
         have n5_ : Aside0 (w.heap.size ≤ gb289) := ⟨h5_⟩
         have n6_ : Aside0 (gb281 ≠ gb289) := ⟨h6_⟩
         have n7_ : Aside0 (gb289 ≠ gb281) := ⟨h7_⟩
         have n8_ : Aside0 (gb282 ≠ gb289) := ⟨h8_⟩
         have n9_ : Aside0 (gb289 ≠ gb282) := ⟨h9_⟩
         have n10_ : Aside0 (Below w.heap.size w w43) := ⟨h10_⟩
         clear BK281 BK282 HB h0_ h1_ h2_ h3_ h4_ h5_ h6_ h7_ h8_ h9_ h10_
         have HO288 := n0_
         have BK281 := n1_
         have BK282 := n2_
         have BK289 := n3_
         have GW289 := n4_
         have GE289 := n5_
         have NB281_289 := n6_
         have NB289_281 := n7_
         have NB282_289 := n8_
         have NB289_282 := n9_
         have HB := n10_
         clear n0_ n1_ n2_ n3_ n4_ n5_ n6_ n7_ n8_ n9_ n10_
         have hHeld : w43.cell? ⟨gb281, 0, none⟩ = some (.slice A0_0 l0_0.length c0_0) ∧ w43.cell? ⟨gb281, 1, none⟩ = some (.int .i64 a0_1) := hS_
         obtain ⟨Ao44, co44, eo44⟩ := Kd.R_slice HO288.out
         (first | subst eo44 | (injection eo44 with f1_ f2_ f3_; have f4_ := f1_.symm; have f5_ := f3_.symm; clear f1_ f2_ f3_; subst f4_; subst f5_))
         refine norm_ (a' := ?_) ?_ ?_
         rotate_left
         ·
          simp only [putAll, Act.put, sA, sZ, sU]
          rfl
         refine one_ (i := 7) (N := none) #[true, true, true, true, true, true, true, true] rfl rfl (one_of HT_.out (by kernel_rfl)) (by decide) (fun K hK => ?_)
         have hs45 : w43.cell? ⟨gb289, 0, none⟩ = some (.slice none 0 0) := (bC BK289.out 0).trans rfl
         have hfs45 := bF BK289.out 0
         have hns45_0 := NB281_289.out
         have hns45_1 := NB282_289.out
         have hms45_0 := NB289_281.out
         have hms45_1 := NB289_282.out
         have hs46 : w43.cell? ⟨gb289, 1, none⟩ = some (.int .i64 0) := (bC BK289.out 1).trans rfl
         have hfs46 := bF BK289.out 1
         have hns46_0 := NB281_289.out
         have hns46_1 := NB282_289.out
         have hms46_0 := NB289_281.out
         have hms46_1 := NB289_282.out
         refine skip_ (w1 := ?_) (by rfl) rfl ?_ ?_
         rotate_left
         ·
          go_simp
          rfl
         refine hK.out _ _ ⟨((cell_far (p := ⟨gb289, _, none⟩) NB281_289.out _).trans (((cell_far (p := ⟨gb289, _, none⟩) NB281_289.out _).trans (hHeld.1)))), ((cell_far (p := ⟨gb289, _, none⟩) NB281_289.out _).trans (((cell_far (p := ⟨gb289, _, none⟩) NB281_289.out _).trans (hHeld.2))))⟩ (fun hHeld => ?_)
         clear hK K
         refine done_ (done_of HT_.out (by kernel_rfl)) ?_
         try go_wp2
         have n0_ : Aside0 (Kd.R (Kd.int .i64) 3 ((w43.setCell ⟨gb289, 0, none⟩ (.slice Ao44 t286.length co44)).setCell ⟨gb289, 1, none⟩ (.int .i64 a0_1)) w.heap.size (fun _ => True) (.slice Ao44 t286.length co44) t286) := ⟨by (with_reducible repeat (first | apply rA | apply rN | apply rD)); exact rM (Kd.R_far (p := ⟨gb289, 1, none⟩) (Kd.R_far (p := ⟨gb289, 0, none⟩) (Kd.R_types HO288.out BK289.out (by decide)) (fun _ hk => hk.2) (.slice Ao44 t286.length co44)) (fun _ hk => hk.2) (.int .i64 a0_1)) (fun _ hk => trivial)⟩
         have n1_ : Aside0 (((w43.setCell ⟨gb289, 0, none⟩ (.slice Ao44 t286.length co44)).setCell ⟨gb289, 1, none⟩ (.int .i64 a0_1)).heap[gb281]? = some (.cells #[.slice A0_0 l0_0.length c0_0, .int .i64 a0_1] 26 (0, 0))) := ⟨by (with_reducible repeat (first | refine bN ?_ _ | refine bD ?_ | refine bA ?_ _)); refine blk_far ?_ NB281_289.out _; (with_reducible repeat (first | refine bN ?_ _ | refine bD ?_ | refine bA ?_ _)); refine blk_far ?_ NB281_289.out _; (with_reducible repeat (first | refine bN ?_ _ | refine bD ?_ | refine bA ?_ _)); exact BK281.out⟩
         have n2_ : Aside0 (((w43.setCell ⟨gb289, 0, none⟩ (.slice Ao44 t286.length co44)).setCell ⟨gb289, 1, none⟩ (.int .i64 a0_1)).heap[gb282]? = some (.cells #[.slice none 0 0, .int .i64 0] 26 (0, 0))) := ⟨by (with_reducible repeat (first | refine bN ?_ _ | refine bD ?_ | refine bA ?_ _)); refine blk_far ?_ NB282_289.out _; (with_reducible repeat (first | refine bN ?_ _ | refine bD ?_ | refine bA ?_ _)); refine blk_far ?_ NB282_289.out _; (with_reducible repeat (first | refine bN ?_ _ | refine bD ?_ | refine bA ?_ _)); exact BK282.out⟩
         have n3_ : Aside0 (((w43.setCell ⟨gb289, 0, none⟩ (.slice Ao44 t286.length co44)).setCell ⟨gb289, 1, none⟩ (.int .i64 a0_1)).heap[gb289]? = some (.cells #[.slice Ao44 t286.length co44, .int .i64 a0_1] 26 (0, 0))) := ⟨by (with_reducible repeat (first | refine bN ?_ _ | refine bD ?_ | refine bA ?_ _)); refine blk_put (cs := #[.slice Ao44 t286.length co44, .int .i64 0]) ?_ 1 _ rfl; (with_reducible repeat (first | refine bN ?_ _ | refine bD ?_ | refine bA ?_ _)); refine blk_put (cs := #[.slice none 0 0, .int .i64 0]) ?_ 0 _ rfl; (with_reducible repeat (first | refine bN ?_ _ | refine bD ?_ | refine bA ?_ _)); exact BK289.out⟩
         have n4_ : Aside0 (Below w.heap.size w ((w43.setCell ⟨gb289, 0, none⟩ (.slice Ao44 t286.length co44)).setCell ⟨gb289, 1, none⟩ (.int .i64 a0_1))) := ⟨by repeat (first | (with_reducible first | exact HB.out | apply eA | apply eN | apply eD | refine eS ?_ GE281.out | refine eS ?_ GE282.out | refine eS ?_ GE289.out) | exact HB.out)⟩
         (try clear HO288)
         (try clear BK281)
         (try clear BK282)
         (try clear BK289)
         (try clear HB)
         generalize ((w43.setCell ⟨gb289, 0, none⟩ (.slice Ao44 t286.length co44)).setCell ⟨gb289, 1, none⟩ (.int .i64 a0_1)) = w47 at n0_ n1_ n2_ n3_ n4_ ⊢
         have HO288 := n0_
         have BK281 := n1_
         have BK282 := n2_
         have BK289 := n3_
         have HB := n4_
         clear n0_ n1_ n2_ n3_ n4_
         have n0_ := aM (rD HO288.out)
         have n1_ := aM (bD BK281.out)
         have n2_ := aM (bD BK282.out)
         have n3_ := aM (bD BK289.out)
         have n4_ := aM (eD HB.out)
         clear HO288 BK281 BK282 BK289 HB
         have HO288 := n0_
         have BK281 := n1_
         have BK282 := n2_
         have BK289 := n3_
         have HB := n4_
         clear n0_ n1_ n2_ n3_ n4_
         have p290 : 0 ≤ (a1 : Int) := of_decide_eq_true (by first | (with_reducible assumption) | assumption)
         have q290 : a1 < (t286.length : Int) := of_decide_eq_true (by first | (with_reducible assumption) | assumption)
         obtain ⟨ad290, e290, hx290_0⟩ := Kd.at_int (Kd.R_reads' HO288.out).2.2 a1 p290 q290
         cases e290
         replace p290 := eq_true p290
         replace q290 := eq_true q290
         have p291 : 0 ≤ (a2 : Int) := of_decide_eq_true (by first | (with_reducible assumption) | assumption)
         have q291 : a2 < (t286.length : Int) := of_decide_eq_true (by first | (with_reducible assumption) | assumption)
         obtain ⟨ad291, e291, hx291_0⟩ := Kd.at_int (Kd.R_reads' HO288.out).2.2 a2 p291 q291
         obtain rfl : ad290 = ad291 := (by injection e291)
         replace p291 := eq_true p291
         replace q291 := eq_true q291
         have p35 : 0 ≤ (a1 : Int) := of_decide_eq_true (by first | (with_reducible assumption) | assumption)
         have q35 : (a1 : Int) < ((t286.length : Int) : Int) := of_decide_eq_true (by first | (with_reducible assumption) | assumption)
         obtain ⟨go35, co35, eo35, gb35, gl35, cl35, HG35⟩ := Kd.R_form HO288.out (by omega)
         (first | cases eo35 | (injection eo35 with ea_ en_ ec_; (first | subst ea_ | (injection ea_ with ea_; subst ea_)); subst ec_; clear en_))
         have GB35 := aM gb35
         have GG35 := aM HG35
         clear gb35 gl35 HG35
         (first | simp only [add_plain] at hx290_0 | skip)
         (first | simp only [add_plain] at hx291_0 | skip)
         obtain ⟨hx35_0, hf35_0⟩ := Kd.R_celln 0 HO288.out (a1 : Int) p35 q35
         replace p35 := eq_true p35
         replace q35 := eq_true q35
         have HP49 := Kd.R_putn HO288.out (a1 : Int) (wrap64 ((rd t286 a1) + (rd t286 a2)))
         rw [← Ny292.out] at HP49
         have HQ49 := aM HP49
         clear HP49
         refine start_ (n := 13) (S := fun w' => w'.cell? ⟨gb289, 0, none⟩ = some (.slice (some ⟨go35, 0, none⟩) t286.length co44) ∧ w'.cell? ⟨gb289, 1, none⟩ = some (.int .i64 a0_1) ∧ w'.cell? ⟨go35, (a1).toNat, none⟩ = some (.int .i64 (rd t286 a1)) ∧ w'.cell? ⟨go35, (a2).toNat, none⟩ = some (.int .i64 (rd t286 a2))) (ds := [12]) #[false, false, false, false, false, false, false, false, false, false, false, false, false] (by kernel_rfl) rfl rfl ⟨(bC BK289.out 0).trans rfl, (bC BK289.out 1).trans rfl, hx290_0, hx291_0⟩ (fun hHeld => ?_); refine with_tabW impl_MergeVoters.tab5 impl_MergeVoters.bits5 (fun HT_ HW_ => ?_)
         generalize w47.drew = w48 at HO288 BK281 BK282 BK289 HB GG35 HQ49 hf35_0 hx290_0 hx291_0 hx35_0 hHeld ⊢
         refine pure_ (i := 0) (N := some 42) (v := ?_) (a' := ?_) #[true, false, false, false, false, false, false, false, false, false, false, false, false] rfl rfl (any_of HT_.out (by kernel_rfl)) (fun _ _ _ h => h) (Or.inl ⟨by rfl, ?_⟩) ?_ ?_
         rotate_left
         ·
          intro w'
          go_simp
          with_reducible rfl
         rotate_left
         ·
          simp only [Act.put, sA, sZ, sU, i64_w, i32_w]
          rfl
         refine pure_ (i := 2) (N := some 44) (v := ?_) (a' := ?_) #[true, false, true, false, false, false, false, false, false, false, false, false, false] rfl rfl (any_of HT_.out (by kernel_rfl)) (fun _ _ _ h => h) (Or.inl ⟨by rfl, ?_⟩) ?_ ?_
         rotate_left
         ·
          intro w'
          go_simp
          with_reducible rfl
         rotate_left
         ·
          simp only [Act.put, sA, sZ, sU, i64_w, i32_w]
          rfl
         refine pure_ (i := 5) (N := some 47) (v := ?_) (a' := ?_) #[true, false, true, false, false, true, false, false, false, false, false, false, false] rfl rfl (any_of HT_.out (by kernel_rfl)) (fun _ _ _ h => h) (Or.inl ⟨by rfl, ?_⟩) ?_ ?_
         rotate_left
         ·
          intro w'
          go_simp
          with_reducible rfl
         rotate_left
         ·
          simp only [Act.put, sA, sZ, sU, i64_w, i32_w]
          rfl
         refine pure_ (i := 7) (N := some 49) (v := ?_) (a' := ?_) #[true, false, true, false, false, true, false, true, false, false, false, false, false] rfl rfl (any_of HT_.out (by kernel_rfl)) (fun _ _ _ h => h) (Or.inl ⟨by rfl, ?_⟩) ?_ ?_
         rotate_left
         ·
          intro w'
          go_simp
          with_reducible rfl
         rotate_left
         ·
          simp only [Act.put, sA, sZ, sU, i64_w, i32_w]
          rfl
         refine take_ (i := 1) (N := some 43) (v := ?_) (a' := ?_) #[true, true, true, false, false, true, false, true, false, false, false, false, false] rfl rfl (take_ofW HT_.out HW_.out (by kernel_rfl)) (fun _ _ _ h => h) (Or.inl ⟨by rfl, ?_⟩) hHeld ?_ ?_
         rotate_left
         ·
          rintro w' ⟨s0, s1, s2, s3⟩
          first | (go_simp; with_reducible rfl) | (simp only [add_plain] at s0 s1 s2 s3; go_simp; with_reducible rfl)
         rotate_left
         ·
          simp only [Act.put, sA, sZ, sU, i64_w, i32_w]
          rfl
         refine pure_ (i := 3) (N := some 45) (v := ?_) (a' := ?_) #[true, true, true, true, false, true, false, true, false, false, false, false, false] rfl rfl (any_of HT_.out (by kernel_rfl)) (fun _ _ _ h => h) (Or.inl ⟨by rfl, ?_⟩) ?_ ?_
         rotate_left
         ·
          intro w'
          go_simp
          with_reducible rfl
         rotate_left
         ·
          simp only [Act.put, sA, sZ, sU, i64_w, i32_w]
          rfl
         refine take_ (i := 4) (N := some 46) (v := ?_) (a' := ?_) #[true, true, true, true, true, true, false, true, false, false, false, false, false] rfl rfl (take_ofW HT_.out HW_.out (by kernel_rfl)) (fun _ _ _ h => h) (Or.inl ⟨by rfl, ?_⟩) hHeld ?_ ?_
         rotate_left
         ·
          rintro w' ⟨s0, s1, s2, s3⟩
          first | (go_simp; with_reducible rfl) | (simp only [add_plain] at s0 s1 s2 s3; go_simp; with_reducible rfl)
         rotate_left
         ·
          simp only [Act.put, sA, sZ, sU, i64_w, i32_w]
          rfl
         refine take_ (i := 6) (N := some 48) (v := ?_) (a' := ?_) #[true, true, true, true, true, true, true, true, false, false, false, false, false] rfl rfl (take_ofW HT_.out HW_.out (by kernel_rfl)) (fun _ _ _ h => h) (Or.inl ⟨by rfl, ?_⟩) hHeld ?_ ?_
         rotate_left
         ·
          rintro w' ⟨s0, s1, s2, s3⟩
          first | (go_simp; with_reducible rfl) | (simp only [add_plain] at s0 s1 s2 s3; go_simp; with_reducible rfl)
         rotate_left
         ·
          simp only [Act.put, sA, sZ, sU, i64_w, i32_w]
          rfl
         refine pure_ (i := 8) (N := some 50) (v := ?_) (a' := ?_) #[true, true, true, true, true, true, true, true, true, false, false, false, false] rfl rfl (any_of HT_.out (by kernel_rfl)) (fun _ _ _ h => h) (Or.inl ⟨by rfl, ?_⟩) ?_ ?_
         rotate_left
         ·
          intro w'
          go_simp
          with_reducible rfl
         rotate_left
         ·
          simp only [Act.put, sA, sZ, sU, i64_w, i32_w]
          rfl
         refine take_ (i := 9) (N := some 51) (v := ?_) (a' := ?_) #[true, true, true, true, true, true, true, true, true, true, false, false, false] rfl rfl (take_ofW HT_.out HW_.out (by kernel_rfl)) (fun _ _ _ h => h) (Or.inl ⟨by rfl, ?_⟩) hHeld ?_ ?_
         rotate_left
         ·
          rintro w' ⟨s0, s1, s2, s3⟩
          first | (go_simp; with_reducible rfl) | (simp only [add_plain] at s0 s1 s2 s3; go_simp; with_reducible rfl)
         rotate_left
         ·
          simp only [Act.put, sA, sZ, sU, i64_w, i32_w]
          rfl
         refine pure_ (i := 10) (N := some 52) (v := ?_) (a' := ?_) #[true, true, true, true, true, true, true, true, true, true, true, false, false] rfl rfl (any_of HT_.out (by kernel_rfl)) (fun _ _ _ h => h) (Or.inl ⟨by rfl, ?_⟩) ?_ ?_
         rotate_left
         ·
          intro w'
          go_simp
          with_reducible rfl
         rotate_left
         ·
          simp only [Act.put, sA, sZ, sU, i64_w, i32_w]
          rfl
         refine pure_ (i := 11) (N := some 53) (v := ?_) (a' := ?_) #[true, true, true, true, true, true, true, true, true, true, true, true, false] rfl rfl (any_of HT_.out (by kernel_rfl)) (fun _ _ _ h => h) (Or.inl ⟨by rfl, ?_⟩) ?_ ?_
         rotate_left
         ·
          intro w'
          go_simp
          with_reducible rfl
         rotate_left
         ·
          simp only [Act.put, sA, sZ, sU, i64_w, i32_w]
          rfl
         refine last_ (i := 12) (N := none) #[true, true, true, true, true, true, true, true, true, true, true, true, true] rfl rfl (one_of HT_.out (by kernel_rfl)) (by decide) (fun K hK => ?_)
         refine skip_ (w1 := ?_) (by rfl) rfl ?_ ?_
         rotate_left
         ·
          go_simp
          rfl
         refine hK.out _ _ ?_
         clear hK K
         refine done_ (done_of HT_.out (by kernel_rfl)) ?_
         have n0_ : Aside0 (Kd.R (Kd.int .i64) 3 (w48.setCell ⟨go35, (a1 : Int).toNat, none⟩ (.int .i64 (wrap64 ((rd t286 a1) + (rd t286 a2))))) w.heap.size (fun _ => True) (.slice (some ⟨go35, 0, none⟩) t286.length co44) y292) := ⟨by (with_reducible repeat (first | apply rA | apply rN | apply rD)); exact HQ49.out⟩
         have n1_ : Aside0 ((w48.setCell ⟨go35, (a1 : Int).toNat, none⟩ (.int .i64 (wrap64 ((rd t286 a1) + (rd t286 a2))))).heap[gb281]? = some (.cells #[.slice A0_0 l0_0.length c0_0, .int .i64 a0_1] 26 (0, 0))) := ⟨by (with_reducible repeat (first | refine bN ?_ _ | refine bD ?_ | refine bA ?_ _)); refine blk_far ?_ (by have h_ := Kd.R_ne HO288.out BK281.out (by decide); intro e_; exact h_ (by rw [e_]; rfl)) _; (with_reducible repeat (first | refine bN ?_ _ | refine bD ?_ | refine bA ?_ _)); exact BK281.out⟩
         have n2_ : Aside0 ((w48.setCell ⟨go35, (a1 : Int).toNat, none⟩ (.int .i64 (wrap64 ((rd t286 a1) + (rd t286 a2))))).heap[gb282]? = some (.cells #[.slice none 0 0, .int .i64 0] 26 (0, 0))) := ⟨by (with_reducible repeat (first | refine bN ?_ _ | refine bD ?_ | refine bA ?_ _)); refine blk_far ?_ (by have h_ := Kd.R_ne HO288.out BK282.out (by decide); intro e_; exact h_ (by rw [e_]; rfl)) _; (with_reducible repeat (first | refine bN ?_ _ | refine bD ?_ | refine bA ?_ _)); exact BK282.out⟩
         have n3_ : Aside0 ((w48.setCell ⟨go35, (a1 : Int).toNat, none⟩ (.int .i64 (wrap64 ((rd t286 a1) + (rd t286 a2))))).heap[gb289]? = some (.cells #[.slice (some ⟨go35, 0, none⟩) t286.length co44, .int .i64 a0_1] 26 (0, 0))) := ⟨by (with_reducible repeat (first | refine bN ?_ _ | refine bD ?_ | refine bA ?_ _)); refine blk_far ?_ (by have h_ := Kd.R_ne HO288.out BK289.out (by decide); intro e_; exact h_ (by rw [e_]; rfl)) _; (with_reducible repeat (first | refine bN ?_ _ | refine bD ?_ | refine bA ?_ _)); exact BK289.out⟩
         have n4_ : Aside0 (Below w.heap.size w (w48.setCell ⟨go35, (a1 : Int).toNat, none⟩ (.int .i64 (wrap64 ((rd t286 a1) + (rd t286 a2)))))) := ⟨by repeat (first | (with_reducible first | exact HB.out | apply eA | apply eN | apply eD | refine eS ?_ GB35.out | refine eS ?_ GE281.out | refine eS ?_ GE282.out | refine eS ?_ GE289.out) | exact HB.out)⟩
         (try clear HO288)
         (try clear BK281)
         (try clear BK282)
         (try clear BK289)
         (try clear HB)
         generalize (w48.setCell ⟨go35, (a1 : Int).toNat, none⟩ (.int .i64 (wrap64 ((rd t286 a1) + (rd t286 a2))))) = w50 at n0_ n1_ n2_ n3_ n4_ ⊢
         have HO288 := n0_
         have BK281 := n1_
         have BK282 := n2_
         have BK289 := n3_
         have HB := n4_
         clear n0_ n1_ n2_ n3_ n4_
         have hnb51 := NB289_281.out
         have hnc51 := NB281_289.out
         have hnb52 := NB289_282.out
         have hnc52 := NB282_289.out
         have hcz53_0 : w50.cell? ⟨gb289, 0, none⟩ = some (.slice (some ⟨go35, 0, none⟩) t286.length co44) := (bC BK289.out 0).trans rfl
         have hcz53_1 : w50.cell? ⟨gb289, 1, none⟩ = some (.int .i64 a0_1) := (bC BK289.out 1).trans rfl
         have hfz53_0 := bF BK289.out 0
         have hfz53_1 := bF BK289.out 1
         try go_wp2_with (first | ((with_reducible refine gate_callee (f := 55) rfl ?_); refine goesL_ (some 59) rfl rfl Try.func55 (by kernel_rfl) rfl #[.slice (some ⟨go35, 0, none⟩) t286.length co44, .int .i64 a2, .int .i64 (wrap64 (a2 + 1))] rfl (by (try simp only [List.map_toArray, List.map_cons, List.map_nil]); first | done | rfl | (simp only [List.length_drop, List.length_take]; rfl)) ?_; (with_reducible refine (slices_Delete_int_int.calls (fun k_ => some k_ = (.slice (some ⟨go35, 0, none⟩) t286.length co44 : Value).ownBlock) (.slice (some ⟨go35, 0, none⟩) t286.length co44) y292 a2 (wrap64 (a2 + 1)) t293 w _ ?side1 ?side2 A36.out).mono ?_); (case side1 => repeat (first | (with_reducible first | exact HB.out | apply eA | apply eN | apply eD | refine eS ?_ GE281.out | refine eS ?_ GE282.out | refine eS ?_ GE289.out) | exact HB.out)); (case side2 => exact Kd.R_tight rfl HO288.out); rintro e w54 ⟨v294, rfl, ho0, hb, hkp⟩; refine ⟨_, rfl, ?_⟩; have n0_ := aM (blk_kept (by (with_reducible repeat (first | refine bN ?_ _ | refine bD ?_ | refine bA ?_ _)); exact BK281.out) hkp (fun hs_ => (fun e_ => (Kd.R_ne HO288.out BK281.out (by decide)) e_) hs_)); have n1_ := aM (blk_kept (by (with_reducible repeat (first | refine bN ?_ _ | refine bD ?_ | refine bA ?_ _)); exact BK282.out) hkp (fun hs_ => (fun e_ => (Kd.R_ne HO288.out BK282.out (by decide)) e_) hs_)); have n2_ := aM (blk_kept (by (with_reducible repeat (first | refine bN ?_ _ | refine bD ?_ | refine bA ?_ _)); exact BK289.out) hkp (fun hs_ => (fun e_ => (Kd.R_ne HO288.out BK289.out (by decide)) e_) hs_)); have n3_ := aM (rM (ok' := fun k_ => True) ho0 (fun k_ hk_ => trivial)); have n4_ := aM (hb); clear BK281; clear BK282; clear BK289; clear HB; clear HO288; have BK281 := n0_; have BK282 := n1_; have BK289 := n2_; have HO295 := n3_; have HB := n4_; clear n0_ n1_ n2_ n3_ n4_; (try clear hb); (try clear hkp); (try clear ho0); obtain ⟨Ao55, co55, eo55⟩ := Kd.R_slice HO295.out; subst eo55; have hcz56_0 : w54.cell? ⟨gb289, 0, none⟩ = some (.slice (some ⟨go35, 0, none⟩) t286.length co44) := (bC BK289.out 0).trans rfl; have hcz56_1 : w54.cell? ⟨gb289, 1, none⟩ = some (.int .i64 a0_1) := (bC BK289.out 1).trans rfl; have hfz56_0 := bF BK289.out 0; have hfz56_1 := bF BK289.out 1) | ((with_reducible refine gate_callee (f := 30) rfl ?_); refine goesL_ (some 62) rfl rfl Try.func30 (by kernel_rfl) rfl #[.agg #[.slice Ao55 t293.length co55, .int .i64 a0_1]] rfl (by (try simp only [List.map_toArray, List.map_cons, List.map_nil]); first | done | rfl | (simp only [List.length_drop, List.length_take]; rfl)) ?_; (with_reducible refine (impl_IsVote.calls kj3 _ _ t293 a0_1 true _ ?side1 ?side2 A37.out).mono ?_); (case side1 => refine (Kd.R_reads' (e := 3) (base := w.heap.size) (ok := fun k_ => True) (n := t293.length) (c := co55) ?_).2.2; exact (by (with_reducible repeat (first | apply rA | apply rN | apply rD)); exact (rM (Kd.R_far (p := ⟨gb289, 0, none⟩) (Kd.R_types HO295.out BK289.out (by decide)) (fun _ hk => hk.2) (.slice Ao55 t293.length co55)) (fun _ h_ => h_.1)))); (case side2 => exact (Kd.R_reads' HO295.out).2.1); rintro e w57 ⟨rfl, hb⟩; refine ⟨_, rfl, ?_⟩; have n0_ := aM (Kd.R_below (by (with_reducible repeat (first | apply rA | apply rN | apply rD)); exact (rM (Kd.R_far (p := ⟨gb289, 0, none⟩) (Kd.R_types HO295.out BK289.out (by decide)) (fun _ hk => hk.2) (.slice Ao55 t293.length co55)) (fun _ h_ => h_.1))) hb); have n1_ := aM (bB (g := gb281) (o := .cells #[.slice A0_0 l0_0.length c0_0, .int .i64 a0_1] 26 (0, 0)) (by (with_reducible repeat (first | refine bN ?_ _ | refine bD ?_ | refine bA ?_ _)); refine blk_far ?_ NB281_289.out _; (with_reducible repeat (first | refine bN ?_ _ | refine bD ?_ | refine bA ?_ _)); exact BK281.out) hb); have n2_ := aM (bB (g := gb282) (o := .cells #[.slice none 0 0, .int .i64 0] 26 (0, 0)) (by (with_reducible repeat (first | refine bN ?_ _ | refine bD ?_ | refine bA ?_ _)); refine blk_far ?_ NB282_289.out _; (with_reducible repeat (first | refine bN ?_ _ | refine bD ?_ | refine bA ?_ _)); exact BK282.out) hb); have n3_ := aM (bB (g := gb289) (o := .cells #[.slice Ao55 t293.length co55, .int .i64 a0_1] 26 (0, 0)) (by (with_reducible repeat (first | refine bN ?_ _ | refine bD ?_ | refine bA ?_ _)); refine blk_put (cs := #[.slice (some ⟨go35, 0, none⟩) t286.length co44, .int .i64 a0_1]) ?_ 0 _ rfl; (with_reducible repeat (first | refine bN ?_ _ | refine bD ?_ | refine bA ?_ _)); exact BK289.out) hb); have n4_ := aM (below_step (by repeat (first | (with_reducible first | exact HB.out | apply eA | apply eN | apply eD | refine eS ?_ GE281.out | refine eS ?_ GE282.out | refine eS ?_ GE289.out) | exact HB.out)) hb); clear HO295; clear BK281; clear BK282; clear BK289; clear HB; have HO295 := n0_; have BK281 := n1_; have BK282 := n2_; have BK289 := n3_; have HB := n4_; clear n0_ n1_ n2_ n3_ n4_; (try clear hb); (try clear hb2); (try clear hk); (try clear hi); have hcz58_0 : w57.cell? ⟨gb289, 0, none⟩ = some (.slice Ao55 t293.length co55) := (bC BK289.out 0).trans rfl; have hcz58_1 : w57.cell? ⟨gb289, 1, none⟩ = some (.int .i64 a0_1) := (bC BK289.out 1).trans rfl; have hfz58_0 := bF BK289.out 0; have hfz58_1 := bF BK289.out 1; have hnb59 := NB282_281.out; have hnc59 := NB281_282.out; have hcz60_0 : w57.cell? ⟨gb282, 0, none⟩ = some (.slice none 0 0) := (bC BK282.out 0).trans rfl; have hcz60_1 : w57.cell? ⟨gb282, 1, none⟩ = some (.int .i64 0) := (bC BK282.out 1).trans rfl; have hfz60_0 := bF BK282.out 0; have hfz60_1 := bF BK282.out 1))
         refine bodyPost_ret (results_ct rfl _ _ gb282 26 #[.slice Ao55 t293.length co55, .int .i64 a0_1] (0, 0) _ rfl (by (with_reducible repeat (first | refine bN ?_ _ | refine bD ?_ | refine bA ?_ _)); refine blk_put (cs := #[.slice Ao55 t293.length co55, .int .i64 0]) ?_ 1 _ rfl; (with_reducible repeat (first | refine bN ?_ _ | refine bD ?_ | refine bA ?_ _)); refine blk_put (cs := #[.slice none 0 0, .int .i64 0]) ?_ 0 _ rfl; (with_reducible repeat (first | refine bN ?_ _ | refine bD ?_ | refine bA ?_ _)); exact BK282.out) Try.underlying26 rfl (by kernel_rfl)) rfl ?_
         exact ⟨_, by first | rfl | (simp [errW_none, errW_some] <;> rfl) | (simp [*, errW_none, errW_some] <;> rfl), by (with_reducible repeat (first | apply rA | apply rN | apply rD)); exact rM (Kd.R_far (p := ⟨gb282, 1, none⟩) (Kd.R_far (p := ⟨gb282, 0, none⟩) (Kd.R_types HO295.out BK282.out (by decide)) (fun _ hk => hk.2) (.slice Ao55 t293.length co55)) (fun _ hk => hk.2) (.int .i64 a0_1)) (fun _ hk => trivial), by repeat (first | (with_reducible first | exact HB.out | apply eA | apply eN | apply eD | refine eS ?_ GE281.out | refine eS ?_ GE282.out | refine eS ?_ GE289.out) | exact HB.out)⟩
        ·
         replace c38 := Bool.eq_false_iff.mpr c38
         subst c38
         have H1 : (some (([] : List Int), 0, false)) = some (r1, r2, r3) := by rw [if_neg (show ¬ (false = true) by decide)] at H; exact H
         clear H
         have H := H1
         clear H1
         simp only [Option.some.injEq, Prod.mk.injEq] at H
         obtain ⟨rfl, rfl, rfl⟩ := H
         try go_wp2
         have n0_ := aM (bD BK281.out)
         have n1_ := aM (bD BK282.out)
         have n2_ := aM (eD HB.out)
         clear BK281 BK282 HB
         have BK281 := n0_
         have BK282 := n1_
         have HB := n2_
         clear n0_ n1_ n2_
         refine start_ (n := 8) (S := fun w' => w'.cell? ⟨gb281, 0, none⟩ = some (.slice A0_0 l0_0.length c0_0) ∧ w'.cell? ⟨gb281, 1, none⟩ = some (.int .i64 a0_1)) (ds := []) #[false, false, false, false, false, false, false, false] (by kernel_rfl) rfl rfl ⟨(bC BK281.out 0).trans rfl, (bC BK281.out 1).trans rfl⟩ (fun hHeld => ?_); refine with_tabW impl_MergeVoters.tab4 impl_MergeVoters.bits4 (fun HT_ HW_ => ?_)
         generalize wc.drew = w61 at BK281 BK282 HB hHeld ⊢
         refine pure_ (i := 0) (N := some 36) (v := ?_) (a' := ?_) #[true, false, false, false, false, false, false, false] rfl rfl (any_of HT_.out (by kernel_rfl)) (fun _ _ _ h => h) (Or.inl ⟨by rfl, ?_⟩) ?_ ?_
         rotate_left
         ·
          intro w'
          go_simp
          with_reducible rfl
         rotate_left
         ·
          simp only [Act.put, sA, sZ, sU, i64_w, i32_w]
          rfl
         refine pure_ (i := 3) (N := some 39) (v := ?_) (a' := ?_) #[true, false, false, true, false, false, false, false] rfl rfl (any_of HT_.out (by kernel_rfl)) (fun _ _ _ h => h) (Or.inl ⟨by rfl, ?_⟩) ?_ ?_
         rotate_left
         ·
          intro w'
          go_simp
          with_reducible rfl
         rotate_left
         ·
          simp only [Act.put, sA, sZ, sU, i64_w, i32_w]
          rfl
         refine take_ (i := 1) (N := some 37) (v := ?_) (a' := ?_) #[true, true, false, true, false, false, false, false] rfl rfl (take_ofW HT_.out HW_.out (by kernel_rfl)) (fun _ _ _ h => h) (Or.inl ⟨by rfl, ?_⟩) hHeld ?_ ?_
         rotate_left
         ·
          rintro w' ⟨s0, s1⟩
          first | (go_simp; with_reducible rfl) | (simp only [add_plain] at s0 s1; go_simp; with_reducible rfl)
         rotate_left
         ·
          simp only [Act.put, sA, sZ, sU, i64_w, i32_w]
          rfl
         refine take_ (i := 4) (N := some 40) (v := ?_) (a' := ?_) #[true, true, false, true, true, false, false, false] rfl rfl (take_ofW HT_.out HW_.out (by kernel_rfl)) (fun _ _ _ h => h) (Or.inl ⟨by rfl, ?_⟩) hHeld ?_ ?_
         rotate_left
         ·
          rintro w' ⟨s0, s1⟩
          first | (go_simp; with_reducible rfl) | (simp only [add_plain] at s0 s1; go_simp; with_reducible rfl)
         rotate_left
         ·
          simp only [Act.put, sA, sZ, sU, i64_w, i32_w]
          rfl
         refine join_ (σ := Value × Nat) 1 #[true, true, true, true, true, true, true, false] (fun s_ => [(38, s_.1), (9, .pointer (some ⟨s_.2, 0, none⟩)), (41, .agg #[s_.1, .int .i64 a0_1])]) (fun s_ w' => (w'.cell? ⟨gb281, 0, none⟩ = some (.slice A0_0 l0_0.length c0_0) ∧ w'.cell? ⟨gb281, 1, none⟩ = some (.int .i64 a0_1)) ∧ (Kd.R (Kd.int .i64) 3 w' w.heap.size (fun _ => True) s_.1 t286) ∧ (w'.heap[gb281]? = some (.cells #[.slice A0_0 l0_0.length c0_0, .int .i64 a0_1] 26 (0, 0))) ∧ (w'.heap[gb282]? = some (.cells #[.slice none 0 0, .int .i64 0] 26 (0, 0))) ∧ (w'.heap[s_.2]? = some (.cells #[.slice none 0 0, .int .i64 0] 26 (0, 0))) ∧ (w.heap.size ≤ s_.2) ∧ (w.heap.size ≤ s_.2) ∧ (gb281 ≠ s_.2) ∧ (s_.2 ≠ gb281) ∧ (gb282 ≠ s_.2) ∧ (s_.2 ≠ gb282) ∧ (Below w.heap.size w w')) ?_ ?_
         rotate_left
         ·
          intro hCont
          refine two_ (i := 2) (j := 6) (Ni := some 38) (Nj := some 9) #[true, true, true, true, true, false, false, false] #[true, true, false, true, true, false, true, false] rfl rfl rfl rfl (two_of HT_.out (by kernel_rfl)) (by decide) (by decide) (fun K hK => ?_) (fun K hK => ?_)
          ·
           skip
           refine goes_ Try.func51 (by kernel_rfl) rfl #[.slice A0_0 l0_0.length c0_0] (by rfl) rfl rfl (by (try simp only [List.map_toArray, List.map_cons, List.map_nil]); first | done | rfl | (simp only [List.length_drop, List.length_take]; rfl)) ?_
           with_reducible refine (impl_copied.calls _ _ l0_0 t286 _ ?side1 ?side2 A30.out).mono ?_
           (case side1 => repeat (first | exact (Kd.C_below HR0_0.out HB.out) | (with_reducible refine Kd.C_alloc ?_ _) | (with_reducible refine Kd.C_drewN ?_ _) | (with_reducible refine Kd.C_drew ?_)))
           (case side2 => exact HC0_0.out)
           rintro e w62 ⟨v287, rfl, ho0, hb⟩
           refine ⟨_, rfl, ?_⟩
           have n0_ := aM (Kd.R_lower ho0 (below_size (by repeat (first | (with_reducible first | exact HB.out | apply eA | apply eN | apply eD | refine eS ?_ GE281.out | refine eS ?_ GE282.out) | exact HB.out))))
           have n1_ := aM (bB (g := gb281) (o := .cells #[.slice A0_0 l0_0.length c0_0, .int .i64 a0_1] 26 (0, 0)) (by (with_reducible repeat (first | refine bN ?_ _ | refine bD ?_ | refine bA ?_ _)); exact BK281.out) hb)
           have n2_ := aM (bB (g := gb282) (o := .cells #[.slice none 0 0, .int .i64 0] 26 (0, 0)) (by (with_reducible repeat (first | refine bN ?_ _ | refine bD ?_ | refine bA ?_ _)); exact BK282.out) hb)
           have n3_ := aM (below_step (by repeat (first | (with_reducible first | exact HB.out | apply eA | apply eN | apply eD | refine eS ?_ GE281.out | refine eS ?_ GE282.out) | exact HB.out)) hb)
           clear BK281 BK282 HB
           have HO288 := n0_
           have BK281 := n1_
           have BK282 := n2_
           have HB := n3_
           clear n0_ n1_ n2_ n3_
           (try clear hb)
           (try clear hb2)
           (try clear hk)
           (try clear hi)
           (try clear ho0)
           obtain ⟨Ao63, co63, eo63⟩ := Kd.R_slice HO288.out
           (first | subst eo63 | (injection eo63 with f1_ f2_ f3_; have f4_ := f1_.symm; have f5_ := f3_.symm; clear f1_ f2_ f3_; subst f4_; subst f5_))
           refine hK.out _ _ ⟨(bC BK281.out 0).trans rfl, (bC BK281.out 1).trans rfl⟩ (fun hHeld => ?_)
           clear hK K
           refine norm_ (a' := ?_) ?_ ?_
           rotate_left
           ·
            show Act.put _ (some 38) _ = _
            simp only [Act.put, sA, sZ, sU, i64_w, i32_w]
            rfl
           refine pure_ (i := 5) (N := some 41) (v := ?_) (a' := ?_) #[true, true, true, true, true, true, false, false] rfl rfl (any_of HT_.out (by kernel_rfl)) (fun _ _ _ h => h) (Or.inl ⟨by rfl, ?_⟩) ?_ ?_
           rotate_left
           ·
            intro w'
            go_simp
            with_reducible rfl
           rotate_left
           ·
            simp only [Act.put, sA, sZ, sU, i64_w, i32_w]
            rfl
           refine one_ (i := 6) (N := some 9) #[true, true, true, true, true, true, true, false] rfl rfl (one_of HT_.out (by kernel_rfl)) (by decide) (fun K hK => ?_)
           refine box_step ?hg (N := 9) ?hd (cs := #[.slice none 0 0, .int .i64 0]) (t := 26) ?hr ?_; (case hd => rfl); (case hg => rfl); (case hr => first | (go_simp; done) | (go_simp; rfl))
           intro gb289 hg w64 hbox hb
           have n0_ := aM (Kd.R_below (by (with_reducible repeat (first | apply rA | apply rN | apply rD)); exact HO288.out) hb)
           have n1_ := aM (bB (g := gb281) (o := .cells #[.slice A0_0 l0_0.length c0_0, .int .i64 a0_1] 26 (0, 0)) (by (with_reducible repeat (first | refine bN ?_ _ | refine bD ?_ | refine bA ?_ _)); exact BK281.out) hb)
           have n2_ := aM (bB (g := gb282) (o := .cells #[.slice none 0 0, .int .i64 0] 26 (0, 0)) (by (with_reducible repeat (first | refine bN ?_ _ | refine bD ?_ | refine bA ?_ _)); exact BK282.out) hb)
           have n3_ := aM (below_step (by repeat (first | (with_reducible first | exact HB.out | apply eA | apply eN | apply eD | refine eS ?_ GE281.out | refine eS ?_ GE282.out) | exact HB.out)) hb)
           have n4_ := aM (hbox)
           have n5_ := aM ((by rw [hg]; exact (below_size (by repeat (first | (with_reducible first | exact HB.out | apply eA | apply eN | apply eD | refine eS ?_ GE281.out | refine eS ?_ GE282.out) | exact HB.out))) : w.heap.size ≤ gb289))
           have n6_ := aM ((by rw [hg]; exact (below_size (by repeat (first | (with_reducible first | exact HB.out | apply eA | apply eN | apply eD | refine eS ?_ GE281.out | refine eS ?_ GE282.out) | exact HB.out))) : w.heap.size ≤ gb289))
           have n7_ := aM ((by rw [hg]; exact Nat.ne_of_lt (blk_lt (g := gb281) (o := .cells #[.slice A0_0 l0_0.length c0_0, .int .i64 a0_1] 26 (0, 0)) (by (with_reducible repeat (first | refine bN ?_ _ | refine bD ?_ | refine bA ?_ _)); exact BK281.out)) : gb281 ≠ gb289))
           have n8_ := aM ((by rw [hg]; exact Nat.ne_of_gt (blk_lt (g := gb281) (o := .cells #[.slice A0_0 l0_0.length c0_0, .int .i64 a0_1] 26 (0, 0)) (by (with_reducible repeat (first | refine bN ?_ _ | refine bD ?_ | refine bA ?_ _)); exact BK281.out)) : gb289 ≠ gb281))
           have n9_ := aM ((by rw [hg]; exact Nat.ne_of_lt (blk_lt (g := gb282) (o := .cells #[.slice none 0 0, .int .i64 0] 26 (0, 0)) (by (with_reducible repeat (first | refine bN ?_ _ | refine bD ?_ | refine bA ?_ _)); exact BK282.out)) : gb282 ≠ gb289))
           have n10_ := aM ((by rw [hg]; exact Nat.ne_of_gt (blk_lt (g := gb282) (o := .cells #[.slice none 0 0, .int .i64 0] 26 (0, 0)) (by (with_reducible repeat (first | refine bN ?_ _ | refine bD ?_ | refine bA ?_ _)); exact BK282.out)) : gb289 ≠ gb282))
           clear HO288 BK281 BK282 HB
           have HO288 := n0_
           have BK281 := n1_
           have BK282 := n2_
           have HB := n3_
           have BK289 := n4_
           have GW289 := n5_
           have GE289 := n6_
           have NB281_289 := n7_
           have NB289_281 := n8_
           have NB282_289 := n9_
           have NB289_282 := n10_
           clear n0_ n1_ n2_ n3_ n4_ n5_ n6_ n7_ n8_ n9_ n10_ hb hbox hg
           refine hK.out _ _ ⟨(bC BK281.out 0).trans rfl, (bC BK281.out 1).trans rfl⟩ (fun hHeld => ?_)
           clear hK K
           refine norm_ (a' := ?_) ?_ ?_
           rotate_left
           ·
            show Act.put _ (some 9) _ = _
            simp only [Act.put, sA, sZ, sU, i64_w, i32_w]
            rfl
           exact norm_ (by simp only [putAll, Act.put, sA, sZ, sU]) (hCont (.slice Ao63 t286.length co63, gb289) _ ⟨hHeld, (by (with_reducible repeat (first | apply rA | apply rN | apply rD)); exact HO288.out), (by (with_reducible repeat (first | refine bN ?_ _ | refine bD ?_ | refine bA ?_ _)); exact BK281.out), (by (with_reducible repeat (first | refine bN ?_ _ | refine bD ?_ | refine bA ?_ _)); exact BK282.out), (by (with_reducible repeat (first | refine bN ?_ _ | refine bD ?_ | refine bA ?_ _)); exact BK289.out), GW289.out, GE289.out, NB281_289.out, NB289_281.out, NB282_289.out, NB289_282.out, (by repeat (first | (with_reducible first | exact HB.out | apply eA | apply eN | apply eD | refine eS ?_ GE281.out | refine eS ?_ GE282.out | refine eS ?_ GE289.out) | exact HB.out))⟩)
          ·
           skip
           refine box_step ?hg (N := 9) ?hd (cs := #[.slice none 0 0, .int .i64 0]) (t := 26) ?hr ?_; (case hd => rfl); (case hg => rfl); (case hr => first | (go_simp; done) | (go_simp; rfl))
           intro gb289 hg w62 hbox hb
           have n0_ := aM (bB (g := gb281) (o := .cells #[.slice A0_0 l0_0.length c0_0, .int .i64 a0_1] 26 (0, 0)) (by (with_reducible repeat (first | refine bN ?_ _ | refine bD ?_ | refine bA ?_ _)); exact BK281.out) hb)
           have n1_ := aM (bB (g := gb282) (o := .cells #[.slice none 0 0, .int .i64 0] 26 (0, 0)) (by (with_reducible repeat (first | refine bN ?_ _ | refine bD ?_ | refine bA ?_ _)); exact BK282.out) hb)
           have n2_ := aM (below_step (by repeat (first | (with_reducible first | exact HB.out | apply eA | apply eN | apply eD | refine eS ?_ GE281.out | refine eS ?_ GE282.out) | exact HB.out)) hb)
           have n3_ := aM (hbox)
           have n4_ := aM ((by rw [hg]; exact (below_size (by repeat (first | (with_reducible first | exact HB.out | apply eA | apply eN | apply eD | refine eS ?_ GE281.out | refine eS ?_ GE282.out) | exact HB.out))) : w.heap.size ≤ gb289))
           have n5_ := aM ((by rw [hg]; exact (below_size (by repeat (first | (with_reducible first | exact HB.out | apply eA | apply eN | apply eD | refine eS ?_ GE281.out | refine eS ?_ GE282.out) | exact HB.out))) : w.heap.size ≤ gb289))
           have n6_ := aM ((by rw [hg]; exact Nat.ne_of_lt (blk_lt (g := gb281) (o := .cells #[.slice A0_0 l0_0.length c0_0, .int .i64 a0_1] 26 (0, 0)) (by (with_reducible repeat (first | refine bN ?_ _ | refine bD ?_ | refine bA ?_ _)); exact BK281.out)) : gb281 ≠ gb289))
           have n7_ := aM ((by rw [hg]; exact Nat.ne_of_gt (blk_lt (g := gb281) (o := .cells #[.slice A0_0 l0_0.length c0_0, .int .i64 a0_1] 26 (0, 0)) (by (with_reducible repeat (first | refine bN ?_ _ | refine bD ?_ | refine bA ?_ _)); exact BK281.out)) : gb289 ≠ gb281))
           have n8_ := aM ((by rw [hg]; exact Nat.ne_of_lt (blk_lt (g := gb282) (o := .cells #[.slice none 0 0, .int .i64 0] 26 (0, 0)) (by (with_reducible repeat (first | refine bN ?_ _ | refine bD ?_ | refine bA ?_ _)); exact BK282.out)) : gb282 ≠ gb289))
           have n9_ := aM ((by rw [hg]; exact Nat.ne_of_gt (blk_lt (g := gb282) (o := .cells #[.slice none 0 0, .int .i64 0] 26 (0, 0)) (by (with_reducible repeat (first | refine bN ?_ _ | refine bD ?_ | refine bA ?_ _)); exact BK282.out)) : gb289 ≠ gb282))
           clear BK281 BK282 HB
           have BK281 := n0_
           have BK282 := n1_
           have HB := n2_
           have BK289 := n3_
           have GW289 := n4_
           have GE289 := n5_
           have NB281_289 := n6_
           have NB289_281 := n7_
           have NB282_289 := n8_
           have NB289_282 := n9_
           clear n0_ n1_ n2_ n3_ n4_ n5_ n6_ n7_ n8_ n9_ hb hbox hg
           refine hK.out _ _ ⟨(bC BK281.out 0).trans rfl, (bC BK281.out 1).trans rfl⟩ (fun hHeld => ?_)
           clear hK K
           refine norm_ (a' := ?_) ?_ ?_
           rotate_left
           ·
            show Act.put _ (some 9) _ = _
            simp only [Act.put, sA, sZ, sU, i64_w, i32_w]
            rfl
           refine one_ (i := 2) (N := some 38) #[true, true, true, true, true, false, true, false] rfl rfl (one_of HT_.out (by kernel_rfl)) (by decide) (fun K hK => ?_)
           refine goes_ Try.func51 (by kernel_rfl) rfl #[.slice A0_0 l0_0.length c0_0] (by rfl) rfl rfl (by (try simp only [List.map_toArray, List.map_cons, List.map_nil]); first | done | rfl | (simp only [List.length_drop, List.length_take]; rfl)) ?_
           with_reducible refine (impl_copied.calls _ _ l0_0 t286 _ ?side1 ?side2 A30.out).mono ?_
           (case side1 => repeat (first | exact (Kd.C_below HR0_0.out HB.out) | (with_reducible refine Kd.C_alloc ?_ _) | (with_reducible refine Kd.C_drewN ?_ _) | (with_reducible refine Kd.C_drew ?_)))
           (case side2 => exact HC0_0.out)
           rintro e w63 ⟨v287, rfl, ho0, hb⟩
           refine ⟨_, rfl, ?_⟩
           have n0_ := aM (Kd.R_lower ho0 (below_size (by repeat (first | (with_reducible first | exact HB.out | apply eA | apply eN | apply eD | refine eS ?_ GE281.out | refine eS ?_ GE282.out | refine eS ?_ GE289.out) | exact HB.out))))
           have n1_ := aM (bB (g := gb281) (o := .cells #[.slice A0_0 l0_0.length c0_0, .int .i64 a0_1] 26 (0, 0)) (by (with_reducible repeat (first | refine bN ?_ _ | refine bD ?_ | refine bA ?_ _)); exact BK281.out) hb)
           have n2_ := aM (bB (g := gb282) (o := .cells #[.slice none 0 0, .int .i64 0] 26 (0, 0)) (by (with_reducible repeat (first | refine bN ?_ _ | refine bD ?_ | refine bA ?_ _)); exact BK282.out) hb)
           have n3_ := aM (bB (g := gb289) (o := .cells #[.slice none 0 0, .int .i64 0] 26 (0, 0)) (by (with_reducible repeat (first | refine bN ?_ _ | refine bD ?_ | refine bA ?_ _)); exact BK289.out) hb)
           have n4_ := aM (below_step (by repeat (first | (with_reducible first | exact HB.out | apply eA | apply eN | apply eD | refine eS ?_ GE281.out | refine eS ?_ GE282.out | refine eS ?_ GE289.out) | exact HB.out)) hb)
           clear BK281 BK282 BK289 HB
           have HO288 := n0_
           have BK281 := n1_
           have BK282 := n2_
           have BK289 := n3_
           have HB := n4_
           clear n0_ n1_ n2_ n3_ n4_
           (try clear hb)
           (try clear hb2)
           (try clear hk)
           (try clear hi)
           (try clear ho0)
           obtain ⟨Ao64, co64, eo64⟩ := Kd.R_slice HO288.out
           (first | subst eo64 | (injection eo64 with f1_ f2_ f3_; have f4_ := f1_.symm; have f5_ := f3_.symm; clear f1_ f2_ f3_; subst f4_; subst f5_))
           refine hK.out _ _ ⟨(bC BK281.out 0).trans rfl, (bC BK281.out 1).trans rfl⟩ (fun hHeld => ?_)
           clear hK K
           refine norm_ (a' := ?_) ?_ ?_
           rotate_left
           ·
            show Act.put _ (some 38) _ = _
            simp only [Act.put, sA, sZ, sU, i64_w, i32_w]
            rfl
           refine pure_ (i := 5) (N := some 41) (v := ?_) (a' := ?_) #[true, true, true, true, true, true, true, false] rfl rfl (any_of HT_.out (by kernel_rfl)) (fun _ _ _ h => h) (Or.inl ⟨by rfl, ?_⟩) ?_ ?_
           rotate_left
           ·
            intro w'
            go_simp
            with_reducible rfl
           rotate_left
           ·
            simp only [Act.put, sA, sZ, sU, i64_w, i32_w]
            rfl
           exact norm_ (by simp only [putAll, Act.put, sA, sZ, sU]) (hCont (.slice Ao64 t286.length co64, gb289) _ ⟨hHeld, (by (with_reducible repeat (first | apply rA | apply rN | apply rD)); exact HO288.out), (by (with_reducible repeat (first | refine bN ?_ _ | refine bD ?_ | refine bA ?_ _)); exact BK281.out), (by (with_reducible repeat (first | refine bN ?_ _ | refine bD ?_ | refine bA ?_ _)); exact BK282.out), (by (with_reducible repeat (first | refine bN ?_ _ | refine bD ?_ | refine bA ?_ _)); exact BK289.out), GW289.out, GE289.out, NB281_289.out, NB289_281.out, NB282_289.out, NB289_282.out, (by repeat (first | (with_reducible first | exact HB.out | apply eA | apply eN | apply eD | refine eS ?_ GE281.out | refine eS ?_ GE282.out | refine eS ?_ GE289.out) | exact HB.out))⟩)
         rintro ⟨v287, gb289⟩ w65 ⟨hS_, h0_, h1_, h2_, h3_, h4_, h5_, h6_, h7_, h8_, h9_, h10_⟩
         have n0_ : Aside0 (Kd.R (Kd.int .i64) 3 w65 w.heap.size (fun _ => True) v287 t286) := ⟨h0_⟩
         have n1_ : Aside0 (w65.heap[gb281]? = some (.cells #[.slice A0_0 l0_0.length c0_0, .int .i64 a0_1] 26 (0, 0))) := ⟨h1_⟩
         have n2_ : Aside0 (w65.heap[gb282]? = some (.cells #[.slice none 0 0, .int .i64 0] 26 (0, 0))) := ⟨h2_⟩
         have n3_ : Aside0 (w65.heap[gb289]? = some (.cells #[.slice none 0 0, .int .i64 0] 26 (0, 0))) := ⟨h3_⟩
         have n4_ : Aside0 (w.heap.size ≤ gb289) := ⟨h4_⟩
         have n5_ : Aside0 (w.heap.size ≤ gb289) := ⟨h5_⟩
         have n6_ : Aside0 (gb281 ≠ gb289) := ⟨h6_⟩
         have n7_ : Aside0 (gb289 ≠ gb281) := ⟨h7_⟩
         have n8_ : Aside0 (gb282 ≠ gb289) := ⟨h8_⟩
         have n9_ : Aside0 (gb289 ≠ gb282) := ⟨h9_⟩
         have n10_ : Aside0 (Below w.heap.size w w65) := ⟨h10_⟩
         clear BK281 BK282 HB h0_ h1_ h2_ h3_ h4_ h5_ h6_ h7_ h8_ h9_ h10_
         have HO288 := n0_
         have BK281 := n1_
         have BK282 := n2_
         have BK289 := n3_
         have GW289 := n4_
         have GE289 := n5_
         have NB281_289 := n6_
         have NB289_281 := n7_
         have NB282_289 := n8_
         have NB289_282 := n9_
         have HB := n10_
         clear n0_ n1_ n2_ n3_ n4_ n5_ n6_ n7_ n8_ n9_ n10_
         have hHeld : w65.cell? ⟨gb281, 0, none⟩ = some (.slice A0_0 l0_0.length c0_0) ∧ w65.cell? ⟨gb281, 1, none⟩ = some (.int .i64 a0_1) := hS_
         obtain ⟨Ao66, co66, eo66⟩ := Kd.R_slice HO288.out
         (first | subst eo66 | (injection eo66 with f1_ f2_ f3_; have f4_ := f1_.symm; have f5_ := f3_.symm; clear f1_ f2_ f3_; subst f4_; subst f5_))
         refine norm_ (a' := ?_) ?_ ?_
         rotate_left
         ·
          simp only [putAll, Act.put, sA, sZ, sU]
          rfl
         refine one_ (i := 7) (N := none) #[true, true, true, true, true, true, true, true] rfl rfl (one_of HT_.out (by kernel_rfl)) (by decide) (fun K hK => ?_)
         have hs67 : w65.cell? ⟨gb289, 0, none⟩ = some (.slice none 0 0) := (bC BK289.out 0).trans rfl
         have hfs67 := bF BK289.out 0
         have hns67_0 := NB281_289.out
         have hns67_1 := NB282_289.out
         have hms67_0 := NB289_281.out
         have hms67_1 := NB289_282.out
         have hs68 : w65.cell? ⟨gb289, 1, none⟩ = some (.int .i64 0) := (bC BK289.out 1).trans rfl
         have hfs68 := bF BK289.out 1
         have hns68_0 := NB281_289.out
         have hns68_1 := NB282_289.out
         have hms68_0 := NB289_281.out
         have hms68_1 := NB289_282.out
         refine skip_ (w1 := ?_) (by rfl) rfl ?_ ?_
         rotate_left
         ·
          go_simp
          rfl
         refine hK.out _ _ ⟨((cell_far (p := ⟨gb289, _, none⟩) NB281_289.out _).trans (((cell_far (p := ⟨gb289, _, none⟩) NB281_289.out _).trans (hHeld.1)))), ((cell_far (p := ⟨gb289, _, none⟩) NB281_289.out _).trans (((cell_far (p := ⟨gb289, _, none⟩) NB281_289.out _).trans (hHeld.2))))⟩ (fun hHeld => ?_)
         clear hK K
         refine done_ (done_of HT_.out (by kernel_rfl)) ?_
         try go_wp2
         have n0_ : Aside0 (Kd.R (Kd.int .i64) 3 ((w65.setCell ⟨gb289, 0, none⟩ (.slice Ao66 t286.length co66)).setCell ⟨gb289, 1, none⟩ (.int .i64 a0_1)) w.heap.size (fun _ => True) (.slice Ao66 t286.length co66) t286) := ⟨by (with_reducible repeat (first | apply rA | apply rN | apply rD)); exact rM (Kd.R_far (p := ⟨gb289, 1, none⟩) (Kd.R_far (p := ⟨gb289, 0, none⟩) (Kd.R_types HO288.out BK289.out (by decide)) (fun _ hk => hk.2) (.slice Ao66 t286.length co66)) (fun _ hk => hk.2) (.int .i64 a0_1)) (fun _ hk => trivial)⟩
         have n1_ : Aside0 (((w65.setCell ⟨gb289, 0, none⟩ (.slice Ao66 t286.length co66)).setCell ⟨gb289, 1, none⟩ (.int .i64 a0_1)).heap[gb281]? = some (.cells #[.slice A0_0 l0_0.length c0_0, .int .i64 a0_1] 26 (0, 0))) := ⟨by (with_reducible repeat (first | refine bN ?_ _ | refine bD ?_ | refine bA ?_ _)); refine blk_far ?_ NB281_289.out _; (with_reducible repeat (first | refine bN ?_ _ | refine bD ?_ | refine bA ?_ _)); refine blk_far ?_ NB281_289.out _; (with_reducible repeat (first | refine bN ?_ _ | refine bD ?_ | refine bA ?_ _)); exact BK281.out⟩
         have n2_ : Aside0 (((w65.setCell ⟨gb289, 0, none⟩ (.slice Ao66 t286.length co66)).setCell ⟨gb289, 1, none⟩ (.int .i64 a0_1)).heap[gb282]? = some (.cells #[.slice none 0 0, .int .i64 0] 26 (0, 0))) := ⟨by (with_reducible repeat (first | refine bN ?_ _ | refine bD ?_ | refine bA ?_ _)); refine blk_far ?_ NB282_289.out _; (with_reducible repeat (first | refine bN ?_ _ | refine bD ?_ | refine bA ?_ _)); refine blk_far ?_ NB282_289.out _; (with_reducible repeat (first | refine bN ?_ _ | refine bD ?_ | refine bA ?_ _)); exact BK282.out⟩
         have n3_ : Aside0 (((w65.setCell ⟨gb289, 0, none⟩ (.slice Ao66 t286.length co66)).setCell ⟨gb289, 1, none⟩ (.int .i64 a0_1)).heap[gb289]? = some (.cells #[.slice Ao66 t286.length co66, .int .i64 a0_1] 26 (0, 0))) := ⟨by (with_reducible repeat (first | refine bN ?_ _ | refine bD ?_ | refine bA ?_ _)); refine blk_put (cs := #[.slice Ao66 t286.length co66, .int .i64 0]) ?_ 1 _ rfl; (with_reducible repeat (first | refine bN ?_ _ | refine bD ?_ | refine bA ?_ _)); refine blk_put (cs := #[.slice none 0 0, .int .i64 0]) ?_ 0 _ rfl; (with_reducible repeat (first | refine bN ?_ _ | refine bD ?_ | refine bA ?_ _)); exact BK289.out⟩
         have n4_ : Aside0 (Below w.heap.size w ((w65.setCell ⟨gb289, 0, none⟩ (.slice Ao66 t286.length co66)).setCell ⟨gb289, 1, none⟩ (.int .i64 a0_1))) := ⟨by repeat (first | (with_reducible first | exact HB.out | apply eA | apply eN | apply eD | refine eS ?_ GE281.out | refine eS ?_ GE282.out | refine eS ?_ GE289.out) | exact HB.out)⟩
         (try clear HO288)
         (try clear BK281)
         (try clear BK282)
         (try clear BK289)
         (try clear HB)
         generalize ((w65.setCell ⟨gb289, 0, none⟩ (.slice Ao66 t286.length co66)).setCell ⟨gb289, 1, none⟩ (.int .i64 a0_1)) = w69 at n0_ n1_ n2_ n3_ n4_ ⊢
         have HO288 := n0_
         have BK281 := n1_
         have BK282 := n2_
         have BK289 := n3_
         have HB := n4_
         clear n0_ n1_ n2_ n3_ n4_
         have n0_ := aM (rD HO288.out)
         have n1_ := aM (bD BK281.out)
         have n2_ := aM (bD BK282.out)
         have n3_ := aM (bD BK289.out)
         have n4_ := aM (eD HB.out)
         clear HO288 BK281 BK282 BK289 HB
         have HO288 := n0_
         have BK281 := n1_
         have BK282 := n2_
         have BK289 := n3_
         have HB := n4_
         clear n0_ n1_ n2_ n3_ n4_
         have p290 : 0 ≤ (a1 : Int) := of_decide_eq_true (by first | (with_reducible assumption) | assumption)
         have q290 : a1 < (t286.length : Int) := of_decide_eq_true (by first | (with_reducible assumption) | assumption)
         obtain ⟨ad290, e290, hx290_0⟩ := Kd.at_int (Kd.R_reads' HO288.out).2.2 a1 p290 q290
         cases e290
         replace p290 := eq_true p290
         replace q290 := eq_true q290
         have p291 : 0 ≤ (a2 : Int) := of_decide_eq_true (by first | (with_reducible assumption) | assumption)
         have q291 : a2 < (t286.length : Int) := of_decide_eq_true (by first | (with_reducible assumption) | assumption)
         obtain ⟨ad291, e291, hx291_0⟩ := Kd.at_int (Kd.R_reads' HO288.out).2.2 a2 p291 q291
         obtain rfl : ad290 = ad291 := (by injection e291)
         replace p291 := eq_true p291
         replace q291 := eq_true q291
         have p35 : 0 ≤ (a1 : Int) := of_decide_eq_true (by first | (with_reducible assumption) | assumption)
         have q35 : (a1 : Int) < ((t286.length : Int) : Int) := of_decide_eq_true (by first | (with_reducible assumption) | assumption)
         obtain ⟨go35, co35, eo35, gb35, gl35, cl35, HG35⟩ := Kd.R_form HO288.out (by omega)
         (first | cases eo35 | (injection eo35 with ea_ en_ ec_; (first | subst ea_ | (injection ea_ with ea_; subst ea_)); subst ec_; clear en_))
         have GB35 := aM gb35
         have GG35 := aM HG35
         clear gb35 gl35 HG35
         (first | simp only [add_plain] at hx290_0 | skip)
         (first | simp only [add_plain] at hx291_0 | skip)
         obtain ⟨hx35_0, hf35_0⟩ := Kd.R_celln 0 HO288.out (a1 : Int) p35 q35
         replace p35 := eq_true p35
         replace q35 := eq_true q35
         have HP71 := Kd.R_putn HO288.out (a1 : Int) (wrap64 ((rd t286 a1) + (rd t286 a2)))
         rw [← Ny292.out] at HP71
         have HQ71 := aM HP71
         clear HP71
         refine start_ (n := 13) (S := fun w' => w'.cell? ⟨gb289, 0, none⟩ = some (.slice (some ⟨go35, 0, none⟩) t286.length co66) ∧ w'.cell? ⟨gb289, 1, none⟩ = some (.int .i64 a0_1) ∧ w'.cell? ⟨go35, (a1).toNat, none⟩ = some (.int .i64 (rd t286 a1)) ∧ w'.cell? ⟨go35, (a2).toNat, none⟩ = some (.int .i64 (rd t286 a2))) (ds := [12]) #[false, false, false, false, false, false, false, false, false, false, false, false, false] (by kernel_rfl) rfl rfl ⟨(bC BK289.out 0).trans rfl, (bC BK289.out 1).trans rfl, hx290_0, hx291_0⟩ (fun hHeld => ?_); refine with_tabW impl_MergeVoters.tab5 impl_MergeVoters.bits5 (fun HT_ HW_ => ?_)
         generalize w69.drew = w70 at HO288 BK281 BK282 BK289 HB GG35 HQ71 hf35_0 hx290_0 hx291_0 hx35_0 hHeld ⊢
         refine pure_ (i := 0) (N := some 42) (v := ?_) (a' := ?_) #[true, false, false, false, false, false, false, false, false, false, false, false, false] rfl rfl (any_of HT_.out (by kernel_rfl)) (fun _ _ _ h => h) (Or.inl ⟨by rfl, ?_⟩) ?_ ?_
         rotate_left
         ·
          intro w'
          go_simp
          with_reducible rfl
         rotate_left
         ·
          simp only [Act.put, sA, sZ, sU, i64_w, i32_w]
          rfl
         refine pure_ (i := 2) (N := some 44) (v := ?_) (a' := ?_) #[true, false, true, false, false, false, false, false, false, false, false, false, false] rfl rfl (any_of HT_.out (by kernel_rfl)) (fun _ _ _ h => h) (Or.inl ⟨by rfl, ?_⟩) ?_ ?_
         rotate_left
         ·
          intro w'
          go_simp
          with_reducible rfl
         rotate_left
         ·
          simp only [Act.put, sA, sZ, sU, i64_w, i32_w]
          rfl
         refine pure_ (i := 5) (N := some 47) (v := ?_) (a' := ?_) #[true, false, true, false, false, true, false, false, false, false, false, false, false] rfl rfl (any_of HT_.out (by kernel_rfl)) (fun _ _ _ h => h) (Or.inl ⟨by rfl, ?_⟩) ?_ ?_
         rotate_left
         ·
          intro w'
          go_simp
          with_reducible rfl
         rotate_left
         ·
          simp only [Act.put, sA, sZ, sU, i64_w, i32_w]
          rfl
         refine pure_ (i := 7) (N := some 49) (v := ?_) (a' := ?_) #[true, false, true, false, false, true, false, true, false, false, false, false, false] rfl rfl (any_of HT_.out (by kernel_rfl)) (fun _ _ _ h => h) (Or.inl ⟨by rfl, ?_⟩) ?_ ?_
         rotate_left
         ·
          intro w'
          go_simp
          with_reducible rfl
         rotate_left
         ·
          simp only [Act.put, sA, sZ, sU, i64_w, i32_w]
          rfl
         refine take_ (i := 1) (N := some 43) (v := ?_) (a' := ?_) #[true, true, true, false, false, true, false, true, false, false, false, false, false] rfl rfl (take_ofW HT_.out HW_.out (by kernel_rfl)) (fun _ _ _ h => h) (Or.inl ⟨by rfl, ?_⟩) hHeld ?_ ?_
         rotate_left
         ·
          rintro w' ⟨s0, s1, s2, s3⟩
          first | (go_simp; with_reducible rfl) | (simp only [add_plain] at s0 s1 s2 s3; go_simp; with_reducible rfl)
         rotate_left
         ·
          simp only [Act.put, sA, sZ, sU, i64_w, i32_w]
          rfl
         refine pure_ (i := 3) (N := some 45) (v := ?_) (a' := ?_) #[true, true, true, true, false, true, false, true, false, false, false, false, false] rfl rfl (any_of HT_.out (by kernel_rfl)) (fun _ _ _ h => h) (Or.inl ⟨by rfl, ?_⟩) ?_ ?_
         rotate_left
         ·
          intro w'
          go_simp
          with_reducible rfl
         rotate_left
         ·
          simp only [Act.put, sA, sZ, sU, i64_w, i32_w]
          rfl
         refine take_ (i := 4) (N := some 46) (v := ?_) (a' := ?_) #[true, true, true, true, true, true, false, true, false, false, false, false, false] rfl rfl (take_ofW HT_.out HW_.out (by kernel_rfl)) (fun _ _ _ h => h) (Or.inl ⟨by rfl, ?_⟩) hHeld ?_ ?_
         rotate_left
         ·
          rintro w' ⟨s0, s1, s2, s3⟩
          first | (go_simp; with_reducible rfl) | (simp only [add_plain] at s0 s1 s2 s3; go_simp; with_reducible rfl)
         rotate_left
         ·
          simp only [Act.put, sA, sZ, sU, i64_w, i32_w]
          rfl
         refine take_ (i := 6) (N := some 48) (v := ?_) (a' := ?_) #[true, true, true, true, true, true, true, true, false, false, false, false, false] rfl rfl (take_ofW HT_.out HW_.out (by kernel_rfl)) (fun _ _ _ h => h) (Or.inl ⟨by rfl, ?_⟩) hHeld ?_ ?_
         rotate_left
         ·
          rintro w' ⟨s0, s1, s2, s3⟩
          first | (go_simp; with_reducible rfl) | (simp only [add_plain] at s0 s1 s2 s3; go_simp; with_reducible rfl)
         rotate_left
         ·
          simp only [Act.put, sA, sZ, sU, i64_w, i32_w]
          rfl
         refine pure_ (i := 8) (N := some 50) (v := ?_) (a' := ?_) #[true, true, true, true, true, true, true, true, true, false, false, false, false] rfl rfl (any_of HT_.out (by kernel_rfl)) (fun _ _ _ h => h) (Or.inl ⟨by rfl, ?_⟩) ?_ ?_
         rotate_left
         ·
          intro w'
          go_simp
          with_reducible rfl
         rotate_left
         ·
          simp only [Act.put, sA, sZ, sU, i64_w, i32_w]
          rfl
         refine take_ (i := 9) (N := some 51) (v := ?_) (a' := ?_) #[true, true, true, true, true, true, true, true, true, true, false, false, false] rfl rfl (take_ofW HT_.out HW_.out (by kernel_rfl)) (fun _ _ _ h => h) (Or.inl ⟨by rfl, ?_⟩) hHeld ?_ ?_
         rotate_left
         ·
          rintro w' ⟨s0, s1, s2, s3⟩
          first | (go_simp; with_reducible rfl) | (simp only [add_plain] at s0 s1 s2 s3; go_simp; with_reducible rfl)
         rotate_left
         ·
          simp only [Act.put, sA, sZ, sU, i64_w, i32_w]
          rfl
         refine pure_ (i := 10) (N := some 52) (v := ?_) (a' := ?_) #[true, true, true, true, true, true, true, true, true, true, true, false, false] rfl rfl (any_of HT_.out (by kernel_rfl)) (fun _ _ _ h => h) (Or.inl ⟨by rfl, ?_⟩) ?_ ?_
         rotate_left
         ·
          intro w'
          go_simp
          with_reducible rfl
         rotate_left
         ·
          simp only [Act.put, sA, sZ, sU, i64_w, i32_w]
          rfl
         refine pure_ (i := 11) (N := some 53) (v := ?_) (a' := ?_) #[true, true, true, true, true, true, true, true, true, true, true, true, false] rfl rfl (any_of HT_.out (by kernel_rfl)) (fun _ _ _ h => h) (Or.inl ⟨by rfl, ?_⟩) ?_ ?_
         rotate_left
         ·
          intro w'
          go_simp
          with_reducible rfl
         rotate_left
         ·
          simp only [Act.put, sA, sZ, sU, i64_w, i32_w]
          rfl
         refine last_ (i := 12) (N := none) #[true, true, true, true, true, true, true, true, true, true, true, true, true] rfl rfl (one_of HT_.out (by kernel_rfl)) (by decide) (fun K hK => ?_)
         refine skip_ (w1 := ?_) (by rfl) rfl ?_ ?_
         rotate_left
         ·
          go_simp
          rfl
         refine hK.out _ _ ?_
         clear hK K
         refine done_ (done_of HT_.out (by kernel_rfl)) ?_
         have n0_ : Aside0 (Kd.R (Kd.int .i64) 3 (w70.setCell ⟨go35, (a1 : Int).toNat, none⟩ (.int .i64 (wrap64 ((rd t286 a1) + (rd t286 a2))))) w.heap.size (fun _ => True) (.slice (some ⟨go35, 0, none⟩) t286.length co66) y292) := ⟨by (with_reducible repeat (first | apply rA | apply rN | apply rD)); exact HQ71.out⟩
         have n1_ : Aside0 ((w70.setCell ⟨go35, (a1 : Int).toNat, none⟩ (.int .i64 (wrap64 ((rd t286 a1) + (rd t286 a2))))).heap[gb281]? = some (.cells #[.slice A0_0 l0_0.length c0_0, .int .i64 a0_1] 26 (0, 0))) := ⟨by (with_reducible repeat (first | refine bN ?_ _ | refine bD ?_ | refine bA ?_ _)); refine blk_far ?_ (by have h_ := Kd.R_ne HO288.out BK281.out (by decide); intro e_; exact h_ (by rw [e_]; rfl)) _; (with_reducible repeat (first | refine bN ?_ _ | refine bD ?_ | refine bA ?_ _)); exact BK281.out⟩
         have n2_ : Aside0 ((w70.setCell ⟨go35, (a1 : Int).toNat, none⟩ (.int .i64 (wrap64 ((rd t286 a1) + (rd t286 a2))))).heap[gb282]? = some (.cells #[.slice none 0 0, .int .i64 0] 26 (0, 0))) := ⟨by (with_reducible repeat (first | refine bN ?_ _ | refine bD ?_ | refine bA ?_ _)); refine blk_far ?_ (by have h_ := Kd.R_ne HO288.out BK282.out (by decide); intro e_; exact h_ (by rw [e_]; rfl)) _; (with_reducible repeat (first | refine bN ?_ _ | refine bD ?_ | refine bA ?_ _)); exact BK282.out⟩
         have n3_ : Aside0 ((w70.setCell ⟨go35, (a1 : Int).toNat, none⟩ (.int .i64 (wrap64 ((rd t286 a1) + (rd t286 a2))))).heap[gb289]? = some (.cells #[.slice (some ⟨go35, 0, none⟩) t286.length co66, .int .i64 a0_1] 26 (0, 0))) := ⟨by (with_reducible repeat (first | refine bN ?_ _ | refine bD ?_ | refine bA ?_ _)); refine blk_far ?_ (by have h_ := Kd.R_ne HO288.out BK289.out (by decide); intro e_; exact h_ (by rw [e_]; rfl)) _; (with_reducible repeat (first | refine bN ?_ _ | refine bD ?_ | refine bA ?_ _)); exact BK289.out⟩
         have n4_ : Aside0 (Below w.heap.size w (w70.setCell ⟨go35, (a1 : Int).toNat, none⟩ (.int .i64 (wrap64 ((rd t286 a1) + (rd t286 a2)))))) := ⟨by repeat (first | (with_reducible first | exact HB.out | apply eA | apply eN | apply eD | refine eS ?_ GB35.out | refine eS ?_ GE281.out | refine eS ?_ GE282.out | refine eS ?_ GE289.out) | exact HB.out)⟩
         (try clear HO288)
         (try clear BK281)
         (try clear BK282)
         (try clear BK289)
         (try clear HB)
         generalize (w70.setCell ⟨go35, (a1 : Int).toNat, none⟩ (.int .i64 (wrap64 ((rd t286 a1) + (rd t286 a2))))) = w72 at n0_ n1_ n2_ n3_ n4_ ⊢
         have HO288 := n0_
         have BK281 := n1_
         have BK282 := n2_
         have BK289 := n3_
         have HB := n4_
         clear n0_ n1_ n2_ n3_ n4_
         have hnb73 := NB289_281.out
         have hnc73 := NB281_289.out
         have hnb74 := NB289_282.out
         have hnc74 := NB282_289.out
         have hcz75_0 : w72.cell? ⟨gb289, 0, none⟩ = some (.slice (some ⟨go35, 0, none⟩) t286.length co66) := (bC BK289.out 0).trans rfl
         have hcz75_1 : w72.cell? ⟨gb289, 1, none⟩ = some (.int .i64 a0_1) := (bC BK289.out 1).trans rfl
         have hfz75_0 := bF BK289.out 0
         have hfz75_1 := bF BK289.out 1
         try go_wp2_with (first | ((with_reducible refine gate_callee (f := 55) rfl ?_); refine goesL_ (some 59) rfl rfl Try.func55 (by kernel_rfl) rfl #[.slice (some ⟨go35, 0, none⟩) t286.length co66, .int .i64 a2, .int .i64 (wrap64 (a2 + 1))] rfl (by (try simp only [List.map_toArray, List.map_cons, List.map_nil]); first | done | rfl | (simp only [List.length_drop, List.length_take]; rfl)) ?_; (with_reducible refine (slices_Delete_int_int.calls (fun k_ => some k_ = (.slice (some ⟨go35, 0, none⟩) t286.length co66 : Value).ownBlock) (.slice (some ⟨go35, 0, none⟩) t286.length co66) y292 a2 (wrap64 (a2 + 1)) t293 w _ ?side1 ?side2 A36.out).mono ?_); (case side1 => repeat (first | (with_reducible first | exact HB.out | apply eA | apply eN | apply eD | refine eS ?_ GE281.out | refine eS ?_ GE282.out | refine eS ?_ GE289.out) | exact HB.out)); (case side2 => exact Kd.R_tight rfl HO288.out); rintro e w76 ⟨v294, rfl, ho0, hb, hkp⟩; refine ⟨_, rfl, ?_⟩; have n0_ := aM (blk_kept (by (with_reducible repeat (first | refine bN ?_ _ | refine bD ?_ | refine bA ?_ _)); exact BK281.out) hkp (fun hs_ => (fun e_ => (Kd.R_ne HO288.out BK281.out (by decide)) e_) hs_)); have n1_ := aM (blk_kept (by (with_reducible repeat (first | refine bN ?_ _ | refine bD ?_ | refine bA ?_ _)); exact BK282.out) hkp (fun hs_ => (fun e_ => (Kd.R_ne HO288.out BK282.out (by decide)) e_) hs_)); have n2_ := aM (blk_kept (by (with_reducible repeat (first | refine bN ?_ _ | refine bD ?_ | refine bA ?_ _)); exact BK289.out) hkp (fun hs_ => (fun e_ => (Kd.R_ne HO288.out BK289.out (by decide)) e_) hs_)); have n3_ := aM (rM (ok' := fun k_ => True) ho0 (fun k_ hk_ => trivial)); have n4_ := aM (hb); clear BK281; clear BK282; clear BK289; clear HB; clear HO288; have BK281 := n0_; have BK282 := n1_; have BK289 := n2_; have HO295 := n3_; have HB := n4_; clear n0_ n1_ n2_ n3_ n4_; (try clear hb); (try clear hkp); (try clear ho0); obtain ⟨Ao77, co77, eo77⟩ := Kd.R_slice HO295.out; subst eo77; have hcz78_0 : w76.cell? ⟨gb289, 0, none⟩ = some (.slice (some ⟨go35, 0, none⟩) t286.length co66) := (bC BK289.out 0).trans rfl; have hcz78_1 : w76.cell? ⟨gb289, 1, none⟩ = some (.int .i64 a0_1) := (bC BK289.out 1).trans rfl; have hfz78_0 := bF BK289.out 0; have hfz78_1 := bF BK289.out 1) | ((with_reducible refine gate_callee (f := 30) rfl ?_); refine goesL_ (some 62) rfl rfl Try.func30 (by kernel_rfl) rfl #[.agg #[.slice Ao77 t293.length co77, .int .i64 a0_1]] rfl (by (try simp only [List.map_toArray, List.map_cons, List.map_nil]); first | done | rfl | (simp only [List.length_drop, List.length_take]; rfl)) ?_; (with_reducible refine (impl_IsVote.calls kj3 _ _ t293 a0_1 false _ ?side1 ?side2 A37.out).mono ?_); (case side1 => refine (Kd.R_reads' (e := 3) (base := w.heap.size) (ok := fun k_ => True) (n := t293.length) (c := co77) ?_).2.2; exact (by (with_reducible repeat (first | apply rA | apply rN | apply rD)); exact (rM (Kd.R_far (p := ⟨gb289, 0, none⟩) (Kd.R_types HO295.out BK289.out (by decide)) (fun _ hk => hk.2) (.slice Ao77 t293.length co77)) (fun _ h_ => h_.1)))); (case side2 => exact (Kd.R_reads' HO295.out).2.1); rintro e w79 ⟨rfl, hb⟩; refine ⟨_, rfl, ?_⟩; have n0_ := aM (Kd.R_below (by (with_reducible repeat (first | apply rA | apply rN | apply rD)); exact (rM (Kd.R_far (p := ⟨gb289, 0, none⟩) (Kd.R_types HO295.out BK289.out (by decide)) (fun _ hk => hk.2) (.slice Ao77 t293.length co77)) (fun _ h_ => h_.1))) hb); have n1_ := aM (bB (g := gb281) (o := .cells #[.slice A0_0 l0_0.length c0_0, .int .i64 a0_1] 26 (0, 0)) (by (with_reducible repeat (first | refine bN ?_ _ | refine bD ?_ | refine bA ?_ _)); refine blk_far ?_ NB281_289.out _; (with_reducible repeat (first | refine bN ?_ _ | refine bD ?_ | refine bA ?_ _)); exact BK281.out) hb); have n2_ := aM (bB (g := gb282) (o := .cells #[.slice none 0 0, .int .i64 0] 26 (0, 0)) (by (with_reducible repeat (first | refine bN ?_ _ | refine bD ?_ | refine bA ?_ _)); refine blk_far ?_ NB282_289.out _; (with_reducible repeat (first | refine bN ?_ _ | refine bD ?_ | refine bA ?_ _)); exact BK282.out) hb); have n3_ := aM (bB (g := gb289) (o := .cells #[.slice Ao77 t293.length co77, .int .i64 a0_1] 26 (0, 0)) (by (with_reducible repeat (first | refine bN ?_ _ | refine bD ?_ | refine bA ?_ _)); refine blk_put (cs := #[.slice (some ⟨go35, 0, none⟩) t286.length co66, .int .i64 a0_1]) ?_ 0 _ rfl; (with_reducible repeat (first | refine bN ?_ _ | refine bD ?_ | refine bA ?_ _)); exact BK289.out) hb); have n4_ := aM (below_step (by repeat (first | (with_reducible first | exact HB.out | apply eA | apply eN | apply eD | refine eS ?_ GE281.out | refine eS ?_ GE282.out | refine eS ?_ GE289.out) | exact HB.out)) hb); clear HO295; clear BK281; clear BK282; clear BK289; clear HB; have HO295 := n0_; have BK281 := n1_; have BK282 := n2_; have BK289 := n3_; have HB := n4_; clear n0_ n1_ n2_ n3_ n4_; (try clear hb); (try clear hb2); (try clear hk); (try clear hi); have hnb80 := NB282_281.out; have hnc80 := NB281_282.out; have hcz81_0 : w79.cell? ⟨gb282, 0, none⟩ = some (.slice none 0 0) := (bC BK282.out 0).trans rfl; have hcz81_1 : w79.cell? ⟨gb282, 1, none⟩ = some (.int .i64 0) := (bC BK282.out 1).trans rfl; have hfz81_0 := bF BK282.out 0; have hfz81_1 := bF BK282.out 1))
         refine bodyPost_ret (results_ct rfl _ _ gb282 26 #[.slice none 0 0, .int .i64 0] (0, 0) _ rfl (by (with_reducible repeat (first | refine bN ?_ _ | refine bD ?_ | refine bA ?_ _)); refine blk_put (cs := #[.slice none 0 0, .int .i64 0]) ?_ 1 _ rfl; (with_reducible repeat (first | refine bN ?_ _ | refine bD ?_ | refine bA ?_ _)); refine blk_put (cs := #[.slice none 0 0, .int .i64 0]) ?_ 0 _ rfl; (with_reducible repeat (first | refine bN ?_ _ | refine bD ?_ | refine bA ?_ _)); exact BK282.out) Try.underlying26 rfl (by kernel_rfl)) rfl ?_
         exact ⟨_, by first | rfl | (simp [errW_none, errW_some] <;> rfl) | (simp [*, errW_none, errW_some] <;> rfl), by first | exact Kd.R_nil _ _ _ _ _ | exact Kd.N_nil _ _ _ _ _ | exact Kd.V_nil _ _ _ _ _ | exact Kd.Q_nil _ _ _ _ _ | exact Kd.S_nil _ _ _ _ _, by repeat (first | (with_reducible first | exact HB.out | apply eA | apply eN | apply eD | refine eS ?_ GE281.out | refine eS ?_ GE282.out | refine eS ?_ GE289.out) | exact HB.out)⟩
       ·
        rw [if_neg c34] at H
        exact absurd H (by simp)
      ·
       rw [if_neg c33] at H
       exact absurd H (by simp)
     ·
      rw [if_neg c32] at H
      exact absurd H (by simp)
    ·
     rw [if_neg c31] at H
     exact absurd H (by simp)
end Go.Proofs.Ytoecohjjbgenbaa.PFnVoters
