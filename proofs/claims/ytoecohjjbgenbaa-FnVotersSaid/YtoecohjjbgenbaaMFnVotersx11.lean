-- Laid for this claim by a program of the session's own (wip/tool/myprint.py).
import Derived.Test.YtoecohjjbgenbaaMFnVotersx0
import Derived.Test.YtoecohjjbgenbaaMFnVotersx1
import Derived.Test.YtoecohjjbgenbaaMFnVotersx3
import Derived.Test.YtoecohjjbgenbaaMFnVotersx4
import Derived.Test.YtoecohjjbgenbaaMFnVotersx6
import Derived.Test.YtoecohjjbgenbaaMFnVotersx7
import Derived.Test.YtoecohjjbgenbaaMFnVotersx8
import Derived.Test.YtoecohjjbgenbaaMFnVotersx9
import Derived.Test.YtoecohjjbgenbaaMFnVotersx10
namespace Go.Proofs.Ytoecohjjbgenbaa.PFnVoters
open Go.RowKit Go.Proofs.YtoecohjjbgenbaaW.PrintWords Go.Proofs.YtoecohjjbgenbaaW.PrintLast Go.Proofs.YtoecohjjbgenbaaW.PrintMore
attribute [local go_sem] max2_int min2_int max_two min_two max_three min_three max_four min_four
set_option linter.unusedVariables false
set_option linter.unusedSimpArgs false
mutual
def laws_FnVoters.j0 : Nat → List Int → Int → Bool → Bool → List Int → Int → List Int → Int → Option (Bool)
 | 0, _, _, _, _, _, _, _, _ => none
 | k + 1, x0, x4, x7, x59, x341000, x341001, x347000, x347001 => if x59 = true then (none) else ((spec_DrawMergeVoters.f k x0).bind fun bt354 => ((impl_MergeVoters.f k bt354.1 bt354.2.1 bt354.2.2.1 bt354.2.2.2).bind fun bt361 => ((spec_MergeVoters.f k bt354.1 bt354.2.1 bt354.2.2.1 bt354.2.2.2).bind fun bt367 => (if (bt361.2.2 != bt367.2.2) = true then (laws_FnVoters.j1 k x4 x7 bt354.2.2.1 bt354.2.2.2 bt361.2.2 true x341000 x341001 x347000 x347001 bt354.1 bt354.2.1 bt361.1 bt361.2.1) else ((laws_rVote.f k bt361.1 bt361.2.1 bt367.1 bt367.2.1).bind fun t373 => (laws_FnVoters.j1 k x4 x7 bt354.2.2.1 bt354.2.2.2 bt361.2.2 (!t373) x341000 x341001 x347000 x347001 bt354.1 bt354.2.1 bt361.1 bt361.2.1))))))
def laws_FnVoters.j1 : Nat → Int → Bool → Int → Int → Bool → Bool → List Int → Int → List Int → Int → List Int → Int → List Int → Int → Option (Bool)
 | 0, _, _, _, _, _, _, _, _, _, _, _, _, _, _ => none
 | k + 1, x4, x7, x11, x12, x14, x88, x341000, x341001, x347000, x347001, x361000, x361001, x367000, x367001 => if x88 = true then (none) else (if x7 = true then ((impl_MergeVoters.f k x347000 x347001 x4 (x341000.length : Int)).bind fun bt374 => (if bt374.2.2 = true then ((laws_rVote.f k bt374.1 bt374.2.1 x341000 x341001).bind fun t380 => (if t380 = true then (laws_FnVoters.j2 k x11 x12 x14 x361000 x361001 x367000 x367001) else (none))) else (none))) else (laws_FnVoters.j2 k x11 x12 x14 x361000 x361001 x367000 x367001))
def laws_FnVoters.j2 : Nat → Int → Int → Bool → List Int → Int → List Int → Int → Option (Bool)
 | 0, _, _, _, _, _, _, _ => none
 | k + 1, x11, x12, x14, x361000, x361001, x367000, x367001 => if x14 = true then (laws_FnVoters.l0 k x11 x12 0 x361000 x361001 x367000 x367001) else (some true)
def laws_FnVoters.l0 : Nat → Int → Int → Int → List Int → Int → List Int → Int → Option (Bool)
 | 0, _, _, _, _, _, _, _ => none
 | k + 1, x11, x12, x19, x361000, x361001, x367000, x367001 => if x19 < (shl .i64 1 (x367000.length : Int)) then (laws_FnVoters.l1 k x11 x12 x19 (([] : List Int)) (([] : List Int)) 0 x361000 x361001 x367000 x367001) else (some true)
def laws_FnVoters.l1 : Nat → Int → Int → Int → List Int → List Int → Int → List Int → Int → List Int → Int → Option (Bool)
 | 0, _, _, _, _, _, _, _, _, _, _ => none
 | k + 1, x11, x12, x19, x20, x21, x22, x361000, x361001, x367000, x367001 => if x22 < (x361000.length : Int) then (if x22 > x12 then (laws_FnVoters.j5 k x11 x12 x19 x20 x21 x22 (wrap64 (x22 - 1)) x361000 x361001 x367000 x367001) else (laws_FnVoters.j5 k x11 x12 x19 x20 x21 x22 x22 x361000 x361001 x367000 x367001)) else (laws_FnVoters.l2 k x11 x12 x19 x20 x21 0 x361000 x361001 x367000 x367001)
def laws_FnVoters.j5 : Nat → Int → Int → Int → List Int → List Int → Int → Int → List Int → Int → List Int → Int → Option (Bool)
 | 0, _, _, _, _, _, _, _, _, _, _, _ => none
 | k + 1, x11, x12, x19, x20, x21, x22, x23, x361000, x361001, x367000, x367001 => if x22 = x12 then (if x11 > x12 then (if 0 ≤ (wrap64 (x11 - 1)) then (if (Go.bits .and .i64 (shr .i64 x19 (wrap64 (x11 - 1))) 1) = 1 then (if x21.length < 17592186044416 then (laws_FnVoters.l1 k x11 x12 x19 x20 (x21 ++ [x22]) (wrap64 (x22 + 1)) x361000 x361001 x367000 x367001) else (none)) else (laws_FnVoters.l1 k x11 x12 x19 x20 x21 (wrap64 (x22 + 1)) x361000 x361001 x367000 x367001)) else (none)) else (if 0 ≤ x11 then (if (Go.bits .and .i64 (shr .i64 x19 x11) 1) = 1 then (if x21.length < 17592186044416 then (laws_FnVoters.l1 k x11 x12 x19 x20 (x21 ++ [x22]) (wrap64 (x22 + 1)) x361000 x361001 x367000 x367001) else (none)) else (laws_FnVoters.l1 k x11 x12 x19 x20 x21 (wrap64 (x22 + 1)) x361000 x361001 x367000 x367001)) else (none))) else (if 0 ≤ x23 then (if (Go.bits .and .i64 (shr .i64 x19 x23) 1) = 1 then (if x21.length < 17592186044416 then (laws_FnVoters.l1 k x11 x12 x19 x20 (x21 ++ [x22]) (wrap64 (x22 + 1)) x361000 x361001 x367000 x367001) else (none)) else (laws_FnVoters.l1 k x11 x12 x19 x20 x21 (wrap64 (x22 + 1)) x361000 x361001 x367000 x367001)) else (none))
def laws_FnVoters.l2 : Nat → Int → Int → Int → List Int → List Int → Int → List Int → Int → List Int → Int → Option (Bool)
 | 0, _, _, _, _, _, _, _, _, _, _ => none
 | k + 1, x11, x12, x19, x20, x21, x24, x361000, x361001, x367000, x367001 => if x24 < (x367000.length : Int) then (if 0 ≤ x24 then (if (Go.bits .and .i64 (shr .i64 x19 x24) 1) = 1 then (if x20.length < 17592186044416 then (laws_FnVoters.l2 k x11 x12 x19 (x20 ++ [x24]) x21 (wrap64 (x24 + 1)) x361000 x361001 x367000 x367001) else (none)) else (laws_FnVoters.l2 k x11 x12 x19 x20 x21 (wrap64 (x24 + 1)) x361000 x361001 x367000 x367001)) else (none)) else ((impl_WinsWith.f k x367000 x367001 x20).bind fun bt399 => ((impl_WinsWith.f k x361000 x361001 x21).bind fun bt401 => (if bt399.2 = true then (if bt401.2 = true then (if (bt399.1 != bt401.1) = true then (none) else (laws_FnVoters.l0 k x11 x12 (wrap64 (x19 + 1)) x361000 x361001 x367000 x367001)) else (none)) else (none))))
end
def laws_FnVoters.f (k : Nat) (l0 : List Int) : Option (Bool) := (laws_rBig.f l0).bind fun t333 => (if t333 = true then (some true) else ((spec_DrawSplitVoter.f k l0).bind fun bt334 => ((impl_SplitVoter.f k bt334.1 bt334.2.1 bt334.2.2.1 bt334.2.2.2).bind fun bt341 => ((spec_SplitVoter.f k bt334.1 bt334.2.1 bt334.2.2.1 bt334.2.2.2).bind fun bt347 => (if (bt341.2.2 != bt347.2.2) = true then (laws_FnVoters.j0 k l0 bt334.2.2.1 bt341.2.2 true bt334.1 bt334.2.1 bt341.1 bt341.2.1) else ((laws_rVote.f k bt341.1 bt341.2.1 bt347.1 bt347.2.1).bind fun t353 => (laws_FnVoters.j0 k l0 bt334.2.2.1 bt341.2.2 (!t353) bt334.1 bt334.2.1 bt341.1 bt341.2.1)))))))
theorem laws_FnVoters.mono_l : ∀ k, (∀ y0 y1 y2 y3 y4 y5 y6 y7, LeO (laws_FnVoters.j0 k y0 y1 y2 y3 y4 y5 y6 y7) (laws_FnVoters.j0 (k + 1) y0 y1 y2 y3 y4 y5 y6 y7)) ∧ (∀ y0 y1 y2 y3 y4 y5 y6 y7 y8 y9 y10 y11 y12 y13, LeO (laws_FnVoters.j1 k y0 y1 y2 y3 y4 y5 y6 y7 y8 y9 y10 y11 y12 y13) (laws_FnVoters.j1 (k + 1) y0 y1 y2 y3 y4 y5 y6 y7 y8 y9 y10 y11 y12 y13)) ∧ (∀ y0 y1 y2 y3 y4 y5 y6, LeO (laws_FnVoters.j2 k y0 y1 y2 y3 y4 y5 y6) (laws_FnVoters.j2 (k + 1) y0 y1 y2 y3 y4 y5 y6)) ∧ (∀ y0 y1 y2 y3 y4 y5 y6, LeO (laws_FnVoters.l0 k y0 y1 y2 y3 y4 y5 y6) (laws_FnVoters.l0 (k + 1) y0 y1 y2 y3 y4 y5 y6)) ∧ (∀ y0 y1 y2 y3 y4 y5 y6 y7 y8 y9, LeO (laws_FnVoters.l1 k y0 y1 y2 y3 y4 y5 y6 y7 y8 y9) (laws_FnVoters.l1 (k + 1) y0 y1 y2 y3 y4 y5 y6 y7 y8 y9)) ∧ (∀ y0 y1 y2 y3 y4 y5 y6 y7 y8 y9 y10, LeO (laws_FnVoters.j5 k y0 y1 y2 y3 y4 y5 y6 y7 y8 y9 y10) (laws_FnVoters.j5 (k + 1) y0 y1 y2 y3 y4 y5 y6 y7 y8 y9 y10)) ∧ (∀ y0 y1 y2 y3 y4 y5 y6 y7 y8 y9, LeO (laws_FnVoters.l2 k y0 y1 y2 y3 y4 y5 y6 y7 y8 y9) (laws_FnVoters.l2 (k + 1) y0 y1 y2 y3 y4 y5 y6 y7 y8 y9))
 | 0 => ⟨fun _ _ _ _ _ _ _ _ r h => by simp [laws_FnVoters.j0] at h, fun _ _ _ _ _ _ _ _ _ _ _ _ _ _ r h => by simp [laws_FnVoters.j1] at h, fun _ _ _ _ _ _ _ r h => by simp [laws_FnVoters.j2] at h, fun _ _ _ _ _ _ _ r h => by simp [laws_FnVoters.l0] at h, fun _ _ _ _ _ _ _ _ _ _ r h => by simp [laws_FnVoters.l1] at h, fun _ _ _ _ _ _ _ _ _ _ _ r h => by simp [laws_FnVoters.j5] at h, fun _ _ _ _ _ _ _ _ _ _ r h => by simp [laws_FnVoters.l2] at h⟩
 | k + 1 => by
  obtain ⟨ih0, ih1, ih2, ih3, ih4, ih5, ih6⟩ := laws_FnVoters.mono_l k
  refine ⟨?_, ?_, ?_, ?_, ?_, ?_, ?_⟩
  ·
   intro y0 y1 y2 y3 y4 y5 y6 y7
   unfold laws_FnVoters.j0
   repeat' first
   | (with_reducible exact ih0 _ _ _ _ _ _ _ _)
   | (with_reducible exact ih1 _ _ _ _ _ _ _ _ _ _ _ _ _ _)
   | (with_reducible exact ih2 _ _ _ _ _ _ _)
   | (with_reducible exact ih3 _ _ _ _ _ _ _)
   | (with_reducible exact ih4 _ _ _ _ _ _ _ _ _ _)
   | (with_reducible exact ih5 _ _ _ _ _ _ _ _ _ _ _)
   | (with_reducible exact ih6 _ _ _ _ _ _ _ _ _ _)
   | (with_reducible exact impl_MergeVoters.mono _ _ _ _ _)
   | (with_reducible exact impl_SplitVoter.mono _ _ _ _ _)
   | (with_reducible exact impl_WinsWith.mono _ _ _ _)
   | (with_reducible exact laws_rVote.mono _ _ _ _ _)
   | (with_reducible exact spec_DrawMergeVoters.mono _ _)
   | (with_reducible exact spec_DrawSplitVoter.mono _ _)
   | (with_reducible exact spec_MergeVoters.mono _ _ _ _ _)
   | (with_reducible exact spec_SplitVoter.mono _ _ _ _ _)
   | (with_reducible exact LeO.refl _)
   | (with_reducible exact LeO.none _)
   | (with_reducible refine LeO.ite ?_ ?_)
   | (with_reducible refine LeO.bind ?_ (fun _ => ?_))
   | exact ih0 _ _ _ _ _ _ _ _
   | exact ih1 _ _ _ _ _ _ _ _ _ _ _ _ _ _
   | exact ih2 _ _ _ _ _ _ _
   | exact ih3 _ _ _ _ _ _ _
   | exact ih4 _ _ _ _ _ _ _ _ _ _
   | exact ih5 _ _ _ _ _ _ _ _ _ _ _
   | exact ih6 _ _ _ _ _ _ _ _ _ _
   | exact impl_MergeVoters.mono _ _ _ _ _
   | exact impl_SplitVoter.mono _ _ _ _ _
   | exact impl_WinsWith.mono _ _ _ _
   | exact laws_rVote.mono _ _ _ _ _
   | exact spec_DrawMergeVoters.mono _ _
   | exact spec_DrawSplitVoter.mono _ _
   | exact spec_MergeVoters.mono _ _ _ _ _
   | exact spec_SplitVoter.mono _ _ _ _ _
   | exact LeO.none _
   | refine LeO.ite ?_ ?_
   | refine LeO.bind ?_ (fun _ => ?_)
  ·
   intro y0 y1 y2 y3 y4 y5 y6 y7 y8 y9 y10 y11 y12 y13
   unfold laws_FnVoters.j1
   repeat' first
   | (with_reducible exact ih0 _ _ _ _ _ _ _ _)
   | (with_reducible exact ih1 _ _ _ _ _ _ _ _ _ _ _ _ _ _)
   | (with_reducible exact ih2 _ _ _ _ _ _ _)
   | (with_reducible exact ih3 _ _ _ _ _ _ _)
   | (with_reducible exact ih4 _ _ _ _ _ _ _ _ _ _)
   | (with_reducible exact ih5 _ _ _ _ _ _ _ _ _ _ _)
   | (with_reducible exact ih6 _ _ _ _ _ _ _ _ _ _)
   | (with_reducible exact impl_MergeVoters.mono _ _ _ _ _)
   | (with_reducible exact impl_SplitVoter.mono _ _ _ _ _)
   | (with_reducible exact impl_WinsWith.mono _ _ _ _)
   | (with_reducible exact laws_rVote.mono _ _ _ _ _)
   | (with_reducible exact spec_DrawMergeVoters.mono _ _)
   | (with_reducible exact spec_DrawSplitVoter.mono _ _)
   | (with_reducible exact spec_MergeVoters.mono _ _ _ _ _)
   | (with_reducible exact spec_SplitVoter.mono _ _ _ _ _)
   | (with_reducible exact LeO.refl _)
   | (with_reducible exact LeO.none _)
   | (with_reducible refine LeO.ite ?_ ?_)
   | (with_reducible refine LeO.bind ?_ (fun _ => ?_))
   | exact ih0 _ _ _ _ _ _ _ _
   | exact ih1 _ _ _ _ _ _ _ _ _ _ _ _ _ _
   | exact ih2 _ _ _ _ _ _ _
   | exact ih3 _ _ _ _ _ _ _
   | exact ih4 _ _ _ _ _ _ _ _ _ _
   | exact ih5 _ _ _ _ _ _ _ _ _ _ _
   | exact ih6 _ _ _ _ _ _ _ _ _ _
   | exact impl_MergeVoters.mono _ _ _ _ _
   | exact impl_SplitVoter.mono _ _ _ _ _
   | exact impl_WinsWith.mono _ _ _ _
   | exact laws_rVote.mono _ _ _ _ _
   | exact spec_DrawMergeVoters.mono _ _
   | exact spec_DrawSplitVoter.mono _ _
   | exact spec_MergeVoters.mono _ _ _ _ _
   | exact spec_SplitVoter.mono _ _ _ _ _
   | exact LeO.none _
   | refine LeO.ite ?_ ?_
   | refine LeO.bind ?_ (fun _ => ?_)
  ·
   intro y0 y1 y2 y3 y4 y5 y6
   unfold laws_FnVoters.j2
   repeat' first
   | (with_reducible exact ih0 _ _ _ _ _ _ _ _)
   | (with_reducible exact ih1 _ _ _ _ _ _ _ _ _ _ _ _ _ _)
   | (with_reducible exact ih2 _ _ _ _ _ _ _)
   | (with_reducible exact ih3 _ _ _ _ _ _ _)
   | (with_reducible exact ih4 _ _ _ _ _ _ _ _ _ _)
   | (with_reducible exact ih5 _ _ _ _ _ _ _ _ _ _ _)
   | (with_reducible exact ih6 _ _ _ _ _ _ _ _ _ _)
   | (with_reducible exact impl_MergeVoters.mono _ _ _ _ _)
   | (with_reducible exact impl_SplitVoter.mono _ _ _ _ _)
   | (with_reducible exact impl_WinsWith.mono _ _ _ _)
   | (with_reducible exact laws_rVote.mono _ _ _ _ _)
   | (with_reducible exact spec_DrawMergeVoters.mono _ _)
   | (with_reducible exact spec_DrawSplitVoter.mono _ _)
   | (with_reducible exact spec_MergeVoters.mono _ _ _ _ _)
   | (with_reducible exact spec_SplitVoter.mono _ _ _ _ _)
   | (with_reducible exact LeO.refl _)
   | (with_reducible exact LeO.none _)
   | (with_reducible refine LeO.ite ?_ ?_)
   | (with_reducible refine LeO.bind ?_ (fun _ => ?_))
   | exact ih0 _ _ _ _ _ _ _ _
   | exact ih1 _ _ _ _ _ _ _ _ _ _ _ _ _ _
   | exact ih2 _ _ _ _ _ _ _
   | exact ih3 _ _ _ _ _ _ _
   | exact ih4 _ _ _ _ _ _ _ _ _ _
   | exact ih5 _ _ _ _ _ _ _ _ _ _ _
   | exact ih6 _ _ _ _ _ _ _ _ _ _
   | exact impl_MergeVoters.mono _ _ _ _ _
   | exact impl_SplitVoter.mono _ _ _ _ _
   | exact impl_WinsWith.mono _ _ _ _
   | exact laws_rVote.mono _ _ _ _ _
   | exact spec_DrawMergeVoters.mono _ _
   | exact spec_DrawSplitVoter.mono _ _
   | exact spec_MergeVoters.mono _ _ _ _ _
   | exact spec_SplitVoter.mono _ _ _ _ _
   | exact LeO.none _
   | refine LeO.ite ?_ ?_
   | refine LeO.bind ?_ (fun _ => ?_)
  ·
   intro y0 y1 y2 y3 y4 y5 y6
   unfold laws_FnVoters.l0
   repeat' first
   | (with_reducible exact ih0 _ _ _ _ _ _ _ _)
   | (with_reducible exact ih1 _ _ _ _ _ _ _ _ _ _ _ _ _ _)
   | (with_reducible exact ih2 _ _ _ _ _ _ _)
   | (with_reducible exact ih3 _ _ _ _ _ _ _)
   | (with_reducible exact ih4 _ _ _ _ _ _ _ _ _ _)
   | (with_reducible exact ih5 _ _ _ _ _ _ _ _ _ _ _)
   | (with_reducible exact ih6 _ _ _ _ _ _ _ _ _ _)
   | (with_reducible exact impl_MergeVoters.mono _ _ _ _ _)
   | (with_reducible exact impl_SplitVoter.mono _ _ _ _ _)
   | (with_reducible exact impl_WinsWith.mono _ _ _ _)
   | (with_reducible exact laws_rVote.mono _ _ _ _ _)
   | (with_reducible exact spec_DrawMergeVoters.mono _ _)
   | (with_reducible exact spec_DrawSplitVoter.mono _ _)
   | (with_reducible exact spec_MergeVoters.mono _ _ _ _ _)
   | (with_reducible exact spec_SplitVoter.mono _ _ _ _ _)
   | (with_reducible exact LeO.refl _)
   | (with_reducible exact LeO.none _)
   | (with_reducible refine LeO.ite ?_ ?_)
   | (with_reducible refine LeO.bind ?_ (fun _ => ?_))
   | exact ih0 _ _ _ _ _ _ _ _
   | exact ih1 _ _ _ _ _ _ _ _ _ _ _ _ _ _
   | exact ih2 _ _ _ _ _ _ _
   | exact ih3 _ _ _ _ _ _ _
   | exact ih4 _ _ _ _ _ _ _ _ _ _
   | exact ih5 _ _ _ _ _ _ _ _ _ _ _
   | exact ih6 _ _ _ _ _ _ _ _ _ _
   | exact impl_MergeVoters.mono _ _ _ _ _
   | exact impl_SplitVoter.mono _ _ _ _ _
   | exact impl_WinsWith.mono _ _ _ _
   | exact laws_rVote.mono _ _ _ _ _
   | exact spec_DrawMergeVoters.mono _ _
   | exact spec_DrawSplitVoter.mono _ _
   | exact spec_MergeVoters.mono _ _ _ _ _
   | exact spec_SplitVoter.mono _ _ _ _ _
   | exact LeO.none _
   | refine LeO.ite ?_ ?_
   | refine LeO.bind ?_ (fun _ => ?_)
  ·
   intro y0 y1 y2 y3 y4 y5 y6 y7 y8 y9
   unfold laws_FnVoters.l1
   repeat' first
   | (with_reducible exact ih0 _ _ _ _ _ _ _ _)
   | (with_reducible exact ih1 _ _ _ _ _ _ _ _ _ _ _ _ _ _)
   | (with_reducible exact ih2 _ _ _ _ _ _ _)
   | (with_reducible exact ih3 _ _ _ _ _ _ _)
   | (with_reducible exact ih4 _ _ _ _ _ _ _ _ _ _)
   | (with_reducible exact ih5 _ _ _ _ _ _ _ _ _ _ _)
   | (with_reducible exact ih6 _ _ _ _ _ _ _ _ _ _)
   | (with_reducible exact impl_MergeVoters.mono _ _ _ _ _)
   | (with_reducible exact impl_SplitVoter.mono _ _ _ _ _)
   | (with_reducible exact impl_WinsWith.mono _ _ _ _)
   | (with_reducible exact laws_rVote.mono _ _ _ _ _)
   | (with_reducible exact spec_DrawMergeVoters.mono _ _)
   | (with_reducible exact spec_DrawSplitVoter.mono _ _)
   | (with_reducible exact spec_MergeVoters.mono _ _ _ _ _)
   | (with_reducible exact spec_SplitVoter.mono _ _ _ _ _)
   | (with_reducible exact LeO.refl _)
   | (with_reducible exact LeO.none _)
   | (with_reducible refine LeO.ite ?_ ?_)
   | (with_reducible refine LeO.bind ?_ (fun _ => ?_))
   | exact ih0 _ _ _ _ _ _ _ _
   | exact ih1 _ _ _ _ _ _ _ _ _ _ _ _ _ _
   | exact ih2 _ _ _ _ _ _ _
   | exact ih3 _ _ _ _ _ _ _
   | exact ih4 _ _ _ _ _ _ _ _ _ _
   | exact ih5 _ _ _ _ _ _ _ _ _ _ _
   | exact ih6 _ _ _ _ _ _ _ _ _ _
   | exact impl_MergeVoters.mono _ _ _ _ _
   | exact impl_SplitVoter.mono _ _ _ _ _
   | exact impl_WinsWith.mono _ _ _ _
   | exact laws_rVote.mono _ _ _ _ _
   | exact spec_DrawMergeVoters.mono _ _
   | exact spec_DrawSplitVoter.mono _ _
   | exact spec_MergeVoters.mono _ _ _ _ _
   | exact spec_SplitVoter.mono _ _ _ _ _
   | exact LeO.none _
   | refine LeO.ite ?_ ?_
   | refine LeO.bind ?_ (fun _ => ?_)
  ·
   intro y0 y1 y2 y3 y4 y5 y6 y7 y8 y9 y10
   unfold laws_FnVoters.j5
   repeat' first
   | (with_reducible exact ih0 _ _ _ _ _ _ _ _)
   | (with_reducible exact ih1 _ _ _ _ _ _ _ _ _ _ _ _ _ _)
   | (with_reducible exact ih2 _ _ _ _ _ _ _)
   | (with_reducible exact ih3 _ _ _ _ _ _ _)
   | (with_reducible exact ih4 _ _ _ _ _ _ _ _ _ _)
   | (with_reducible exact ih5 _ _ _ _ _ _ _ _ _ _ _)
   | (with_reducible exact ih6 _ _ _ _ _ _ _ _ _ _)
   | (with_reducible exact impl_MergeVoters.mono _ _ _ _ _)
   | (with_reducible exact impl_SplitVoter.mono _ _ _ _ _)
   | (with_reducible exact impl_WinsWith.mono _ _ _ _)
   | (with_reducible exact laws_rVote.mono _ _ _ _ _)
   | (with_reducible exact spec_DrawMergeVoters.mono _ _)
   | (with_reducible exact spec_DrawSplitVoter.mono _ _)
   | (with_reducible exact spec_MergeVoters.mono _ _ _ _ _)
   | (with_reducible exact spec_SplitVoter.mono _ _ _ _ _)
   | (with_reducible exact LeO.refl _)
   | (with_reducible exact LeO.none _)
   | (with_reducible refine LeO.ite ?_ ?_)
   | (with_reducible refine LeO.bind ?_ (fun _ => ?_))
   | exact ih0 _ _ _ _ _ _ _ _
   | exact ih1 _ _ _ _ _ _ _ _ _ _ _ _ _ _
   | exact ih2 _ _ _ _ _ _ _
   | exact ih3 _ _ _ _ _ _ _
   | exact ih4 _ _ _ _ _ _ _ _ _ _
   | exact ih5 _ _ _ _ _ _ _ _ _ _ _
   | exact ih6 _ _ _ _ _ _ _ _ _ _
   | exact impl_MergeVoters.mono _ _ _ _ _
   | exact impl_SplitVoter.mono _ _ _ _ _
   | exact impl_WinsWith.mono _ _ _ _
   | exact laws_rVote.mono _ _ _ _ _
   | exact spec_DrawMergeVoters.mono _ _
   | exact spec_DrawSplitVoter.mono _ _
   | exact spec_MergeVoters.mono _ _ _ _ _
   | exact spec_SplitVoter.mono _ _ _ _ _
   | exact LeO.none _
   | refine LeO.ite ?_ ?_
   | refine LeO.bind ?_ (fun _ => ?_)
  ·
   intro y0 y1 y2 y3 y4 y5 y6 y7 y8 y9
   unfold laws_FnVoters.l2
   repeat' first
   | (with_reducible exact ih0 _ _ _ _ _ _ _ _)
   | (with_reducible exact ih1 _ _ _ _ _ _ _ _ _ _ _ _ _ _)
   | (with_reducible exact ih2 _ _ _ _ _ _ _)
   | (with_reducible exact ih3 _ _ _ _ _ _ _)
   | (with_reducible exact ih4 _ _ _ _ _ _ _ _ _ _)
   | (with_reducible exact ih5 _ _ _ _ _ _ _ _ _ _ _)
   | (with_reducible exact ih6 _ _ _ _ _ _ _ _ _ _)
   | (with_reducible exact impl_MergeVoters.mono _ _ _ _ _)
   | (with_reducible exact impl_SplitVoter.mono _ _ _ _ _)
   | (with_reducible exact impl_WinsWith.mono _ _ _ _)
   | (with_reducible exact laws_rVote.mono _ _ _ _ _)
   | (with_reducible exact spec_DrawMergeVoters.mono _ _)
   | (with_reducible exact spec_DrawSplitVoter.mono _ _)
   | (with_reducible exact spec_MergeVoters.mono _ _ _ _ _)
   | (with_reducible exact spec_SplitVoter.mono _ _ _ _ _)
   | (with_reducible exact LeO.refl _)
   | (with_reducible exact LeO.none _)
   | (with_reducible refine LeO.ite ?_ ?_)
   | (with_reducible refine LeO.bind ?_ (fun _ => ?_))
   | exact ih0 _ _ _ _ _ _ _ _
   | exact ih1 _ _ _ _ _ _ _ _ _ _ _ _ _ _
   | exact ih2 _ _ _ _ _ _ _
   | exact ih3 _ _ _ _ _ _ _
   | exact ih4 _ _ _ _ _ _ _ _ _ _
   | exact ih5 _ _ _ _ _ _ _ _ _ _ _
   | exact ih6 _ _ _ _ _ _ _ _ _ _
   | exact impl_MergeVoters.mono _ _ _ _ _
   | exact impl_SplitVoter.mono _ _ _ _ _
   | exact impl_WinsWith.mono _ _ _ _
   | exact laws_rVote.mono _ _ _ _ _
   | exact spec_DrawMergeVoters.mono _ _
   | exact spec_DrawSplitVoter.mono _ _
   | exact spec_MergeVoters.mono _ _ _ _ _
   | exact spec_SplitVoter.mono _ _ _ _ _
   | exact LeO.none _
   | refine LeO.ite ?_ ?_
   | refine LeO.bind ?_ (fun _ => ?_)
theorem laws_FnVoters.mono : ∀ a0 k, LeO (laws_FnVoters.f k a0) (laws_FnVoters.f (k + 1) a0) := by
 intro a0 k
 obtain ⟨ih0, ih1, ih2, ih3, ih4, ih5, ih6⟩ := laws_FnVoters.mono_l k
 unfold laws_FnVoters.f
 repeat' first
   | (with_reducible exact ih0 _ _ _ _ _ _ _ _)
   | (with_reducible exact ih1 _ _ _ _ _ _ _ _ _ _ _ _ _ _)
   | (with_reducible exact ih2 _ _ _ _ _ _ _)
   | (with_reducible exact ih3 _ _ _ _ _ _ _)
   | (with_reducible exact ih4 _ _ _ _ _ _ _ _ _ _)
   | (with_reducible exact ih5 _ _ _ _ _ _ _ _ _ _ _)
   | (with_reducible exact ih6 _ _ _ _ _ _ _ _ _ _)
   | (with_reducible exact impl_MergeVoters.mono _ _ _ _ _)
   | (with_reducible exact impl_SplitVoter.mono _ _ _ _ _)
   | (with_reducible exact impl_WinsWith.mono _ _ _ _)
   | (with_reducible exact laws_rVote.mono _ _ _ _ _)
   | (with_reducible exact spec_DrawMergeVoters.mono _ _)
   | (with_reducible exact spec_DrawSplitVoter.mono _ _)
   | (with_reducible exact spec_MergeVoters.mono _ _ _ _ _)
   | (with_reducible exact spec_SplitVoter.mono _ _ _ _ _)
   | (with_reducible exact LeO.refl _)
   | (with_reducible exact LeO.none _)
   | (with_reducible refine LeO.ite ?_ ?_)
   | (with_reducible refine LeO.bind ?_ (fun _ => ?_))
   | exact ih0 _ _ _ _ _ _ _ _
   | exact ih1 _ _ _ _ _ _ _ _ _ _ _ _ _ _
   | exact ih2 _ _ _ _ _ _ _
   | exact ih3 _ _ _ _ _ _ _
   | exact ih4 _ _ _ _ _ _ _ _ _ _
   | exact ih5 _ _ _ _ _ _ _ _ _ _ _
   | exact ih6 _ _ _ _ _ _ _ _ _ _
   | exact impl_MergeVoters.mono _ _ _ _ _
   | exact impl_SplitVoter.mono _ _ _ _ _
   | exact impl_WinsWith.mono _ _ _ _
   | exact laws_rVote.mono _ _ _ _ _
   | exact spec_DrawMergeVoters.mono _ _
   | exact spec_DrawSplitVoter.mono _ _
   | exact spec_MergeVoters.mono _ _ _ _ _
   | exact spec_SplitVoter.mono _ _ _ _ _
   | exact LeO.none _
   | refine LeO.ite ?_ ?_
   | refine LeO.bind ?_ (fun _ => ?_)
end Go.Proofs.Ytoecohjjbgenbaa.PFnVoters
