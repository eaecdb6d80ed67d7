-- Laid for this claim by a program of the session's own (wip/tool/myprint.py).
import Derived.Test.YtlbleemoiabmdaaMFnTeachingx0
import Derived.Test.YtlbleemoiabmdaaMFnTeachingx1
import Derived.Test.YtlbleemoiabmdaaMFnTeachingx2
import Derived.Test.YtlbleemoiabmdaaMFnTeachingx5
import Derived.Test.YtlbleemoiabmdaaMFnTeachingx8
import Derived.Test.YtlbleemoiabmdaaMFnTeachingx9
import Derived.Test.YtlbleemoiabmdaaMFnTeachingx10
import Derived.Test.YtlbleemoiabmdaaMFnTeachingx11
namespace Go.Proofs.Ytlbleemoiabmdaa.PFnTeaching
open Go.RowKit Go.Proofs.YtlbleemoiabmdaaW.PrintWords Go.Proofs.YtlbleemoiabmdaaW.PrintLast Go.Proofs.YtlbleemoiabmdaaW.PrintMore
attribute [local go_sem] max2_int min2_int max_two min_two max_three min_three max_four min_four
set_option linter.unusedVariables false
set_option linter.unusedSimpArgs false
mutual
def laws_FnTeaching.j0 : Nat → List (List Int) → Int → List Int → Bool → Int → Bool → List (List Int) → List Int → List Int → List Int → Bool → Bool → Option (Bool)
 | 0, _, _, _, _, _, _, _, _, _, _, _, _ => none
 | k + 1, x3, x4, x5, x6, x9, x10, x13, x14, x15, x16, x17, x111 => if x111 = true then (none) else (laws_FnTeaching.l0 k x3 x4 x5 x6 x9 x10 x13 x14 x15 x16 x17 0)
def laws_FnTeaching.l0 : Nat → List (List Int) → Int → List Int → Bool → Int → Bool → List (List Int) → List Int → List Int → List Int → Bool → Int → Option (Bool)
 | 0, _, _, _, _, _, _, _, _, _, _, _, _ => none
 | k + 1, x3, x4, x5, x6, x9, x10, x13, x14, x15, x16, x17, x20 => if x17 = true then (laws_FnTeaching.j2 k x3 x4 x5 x6 x9 x10 x13 x14 x15 x16 x17 x20 (decide (x20 < (x13.length : Int)))) else (laws_FnTeaching.j2 k x3 x4 x5 x6 x9 x10 x13 x14 x15 x16 x17 x20 false)
def laws_FnTeaching.j2 : Nat → List (List Int) → Int → List Int → Bool → Int → Bool → List (List Int) → List Int → List Int → List Int → Bool → Int → Bool → Option (Bool)
 | 0, _, _, _, _, _, _, _, _, _, _, _, _, _ => none
 | k + 1, x3, x4, x5, x6, x9, x10, x13, x14, x15, x16, x17, x20, x118 => if x118 = true then (laws_FnTeaching.l1 k x3 x4 x5 x6 x9 x10 x13 x14 x15 x16 x17 x20 true 0) else (if x6 = true then (laws_FnTeaching.l2 k x3 x4 x5 x9 x10 (([] : List Int)) 0) else (some true))
def laws_FnTeaching.l1 : Nat → List (List Int) → Int → List Int → Bool → Int → Bool → List (List Int) → List Int → List Int → List Int → Bool → Int → Bool → Int → Option (Bool)
 | 0, _, _, _, _, _, _, _, _, _, _, _, _, _, _ => none
 | k + 1, x3, x4, x5, x6, x9, x10, x13, x14, x15, x16, x17, x20, x21, x22 => if x22 < (x14.length : Int) then (if x21 = true then (if 0 ≤ x20 then (if x20 < (x13.length : Int) then (if 0 ≤ x22 then (if 0 ≤ (rd x14 x22) then (if (rd x14 x22) < ((rd_L2 x13 x20).length : Int) then (if x22 < (x15.length : Int) then (laws_FnTeaching.l1 k x3 x4 x5 x6 x9 x10 x13 x14 x15 x16 x17 x20 ((rd (rd_L2 x13 x20) (rd x14 x22)) == (rd x15 x22)) (wrap64 (x22 + 1))) else (none)) else (none)) else (none)) else (none)) else (none)) else (none)) else (laws_FnTeaching.l1 k x3 x4 x5 x6 x9 x10 x13 x14 x15 x16 x17 x20 false (wrap64 (x22 + 1)))) else ((laws_vHas.f k x16 x20).bind fun t484 => (if (x21 != t484) = true then (none) else (laws_FnTeaching.l0 k x3 x4 x5 x6 x9 x10 x13 x14 x15 x16 x17 (wrap64 (x20 + 1)))))
def laws_FnTeaching.l2 : Nat → List (List Int) → Int → List Int → Int → Bool → List Int → Int → Option (Bool)
 | 0, _, _, _, _, _, _, _ => none
 | k + 1, x3, x4, x5, x9, x10, x23, x24 => if x24 < (x5.length : Int) then (if 0 ≤ x4 then (if x4 < (x3.length : Int) then (if 0 ≤ x24 then (if 0 ≤ (rd x5 x24) then (if (rd x5 x24) < ((rd_L2 x3 x4).length : Int) then (if x23.length < 17592186044416 then (laws_FnTeaching.l2 k x3 x4 x5 x9 x10 (x23 ++ [rd (rd_L2 x3 x4) (rd x5 x24)]) (wrap64 (x24 + 1))) else (none)) else (none)) else (none)) else (none)) else (none)) else (none)) else ((impl_VersionOf.f k x3 x5 x23).bind fun bt494 => (if bt494.2 = true then ((laws_vInts.f k bt494.1 (([x4] : List Int))).bind fun t501 => (if t501 = true then (laws_FnTeaching.j5 k x3 x5 x10 x23 (decide ((x5.length : Int) > x9))) else (laws_FnTeaching.j5 k x3 x5 x10 x23 true))) else (laws_FnTeaching.j5 k x3 x5 x10 x23 true)))
def laws_FnTeaching.j5 : Nat → List (List Int) → List Int → Bool → List Int → Bool → Option (Bool)
 | 0, _, _, _, _, _ => none
 | k + 1, x3, x5, x10, x23, x193 => if x193 = true then (none) else (laws_FnTeaching.l3 k x3 x5 x10 x23 0)
def laws_FnTeaching.l3 : Nat → List (List Int) → List Int → Bool → List Int → Int → Option (Bool)
 | 0, _, _, _, _, _ => none
 | k + 1, x3, x5, x10, x23, x27 => if x27 < (x5.length : Int) then ((some (([] : List Int) : List Int)).bind fun y502 => (if 0 ≤ x27 then (if x27 ≤ (x5.length : Int) then ((some (x5.take (x27 : Int).toNat : List Int)).bind fun y505 => (if y502.length + y505.length < 17592186044416 then ((some (y502 ++ y505 : List Int)).bind fun y510 => (if 0 ≤ (wrap64 (x27 + 1)) then (if (wrap64 (x27 + 1)) ≤ (x5.length : Int) then ((some (x5.drop ((wrap64 (x27 + 1)) : Int).toNat : List Int)).bind fun y513 => (if y510.length + y513.length < 17592186044416 then ((some (([] : List Int) : List Int)).bind fun y521 => (if x27 ≤ (x23.length : Int) then ((some (x23.take (x27 : Int).toNat : List Int)).bind fun y524 => (if y521.length + y524.length < 17592186044416 then ((some (y521 ++ y524 : List Int)).bind fun y529 => (if (wrap64 (x27 + 1)) ≤ (x23.length : Int) then ((some (x23.drop ((wrap64 (x27 + 1)) : Int).toNat : List Int)).bind fun y532 => (if y529.length + y532.length < 17592186044416 then ((impl_VersionOf.f k x3 (y510 ++ y513) (y529 ++ y532)).bind fun bt540 => (if bt540.2 = true then (if (bt540.1.length : Int) < 2 then (none) else (laws_FnTeaching.l3 k x3 x5 x10 x23 (wrap64 (x27 + 1)))) else (none))) else (none))) else (none))) else (none))) else (none))) else (none))) else (none)) else (none))) else (none))) else (none)) else (none))) else (some x10)
end
def laws_FnTeaching.f (k : Nat) (l0 : List Int) : Option (Bool) := (laws_vBig.f l0).bind fun t441 => (if t441 = true then (some true) else ((spec_DrawTeachingSet.f k l0).bind fun bt442 => ((impl_TeachingSet.f k bt442.1 bt442.2).bind fun bt446 => ((spec_TeachingSet.f k bt442.1 bt442.2).bind fun bt450 => ((impl_TeachingNumber.f k bt442.1).bind fun bt454 => ((spec_TeachingNumber.f k bt442.1).bind fun bt456 => ((laws_vCut.f l0 1).bind fun t458 => ((spec_DrawVersionOf.f k t458).bind fun bt461 => ((impl_VersionOf.f k bt461.1 bt461.2.1 bt461.2.2).bind fun bt470 => ((spec_VersionOf.f k bt461.1 bt461.2.1 bt461.2.2).bind fun bt474 => (if (bt446.2 != bt450.2) = true then (laws_FnTeaching.j0 k bt442.1 bt442.2 bt446.1 bt446.2 bt454.1 bt454.2 bt461.1 bt461.2.1 bt461.2.2 bt470.1 bt470.2 true) else ((laws_vInts.f k bt446.1 bt450.1).bind fun t478 => (if t478 = true then (if bt454.1 = bt456.1 then (if (bt454.2 != bt456.2) = true then (laws_FnTeaching.j0 k bt442.1 bt442.2 bt446.1 bt446.2 bt454.1 bt454.2 bt461.1 bt461.2.1 bt461.2.2 bt470.1 bt470.2 true) else (if (bt470.2 != bt474.2) = true then (laws_FnTeaching.j0 k bt442.1 bt442.2 bt446.1 bt446.2 bt454.1 bt454.2 bt461.1 bt461.2.1 bt461.2.2 bt470.1 bt470.2 true) else ((laws_vInts.f k bt470.1 bt474.1).bind fun t479 => (laws_FnTeaching.j0 k bt442.1 bt442.2 bt446.1 bt446.2 bt454.1 bt454.2 bt461.1 bt461.2.1 bt461.2.2 bt470.1 bt470.2 (!t479))))) else (laws_FnTeaching.j0 k bt442.1 bt442.2 bt446.1 bt446.2 bt454.1 bt454.2 bt461.1 bt461.2.1 bt461.2.2 bt470.1 bt470.2 true)) else (laws_FnTeaching.j0 k bt442.1 bt442.2 bt446.1 bt446.2 bt454.1 bt454.2 bt461.1 bt461.2.1 bt461.2.2 bt470.1 bt470.2 true))))))))))))))
theorem laws_FnTeaching.mono_l : ∀ k, (∀ y0 y1 y2 y3 y4 y5 y6 y7 y8 y9 y10 y11, LeO (laws_FnTeaching.j0 k y0 y1 y2 y3 y4 y5 y6 y7 y8 y9 y10 y11) (laws_FnTeaching.j0 (k + 1) y0 y1 y2 y3 y4 y5 y6 y7 y8 y9 y10 y11)) ∧ (∀ y0 y1 y2 y3 y4 y5 y6 y7 y8 y9 y10 y11, LeO (laws_FnTeaching.l0 k y0 y1 y2 y3 y4 y5 y6 y7 y8 y9 y10 y11) (laws_FnTeaching.l0 (k + 1) y0 y1 y2 y3 y4 y5 y6 y7 y8 y9 y10 y11)) ∧ (∀ y0 y1 y2 y3 y4 y5 y6 y7 y8 y9 y10 y11 y12, LeO (laws_FnTeaching.j2 k y0 y1 y2 y3 y4 y5 y6 y7 y8 y9 y10 y11 y12) (laws_FnTeaching.j2 (k + 1) y0 y1 y2 y3 y4 y5 y6 y7 y8 y9 y10 y11 y12)) ∧ (∀ y0 y1 y2 y3 y4 y5 y6 y7 y8 y9 y10 y11 y12 y13, LeO (laws_FnTeaching.l1 k y0 y1 y2 y3 y4 y5 y6 y7 y8 y9 y10 y11 y12 y13) (laws_FnTeaching.l1 (k + 1) y0 y1 y2 y3 y4 y5 y6 y7 y8 y9 y10 y11 y12 y13)) ∧ (∀ y0 y1 y2 y3 y4 y5 y6, LeO (laws_FnTeaching.l2 k y0 y1 y2 y3 y4 y5 y6) (laws_FnTeaching.l2 (k + 1) y0 y1 y2 y3 y4 y5 y6)) ∧ (∀ y0 y1 y2 y3 y4, LeO (laws_FnTeaching.j5 k y0 y1 y2 y3 y4) (laws_FnTeaching.j5 (k + 1) y0 y1 y2 y3 y4)) ∧ (∀ y0 y1 y2 y3 y4, LeO (laws_FnTeaching.l3 k y0 y1 y2 y3 y4) (laws_FnTeaching.l3 (k + 1) y0 y1 y2 y3 y4))
 | 0 => ⟨fun _ _ _ _ _ _ _ _ _ _ _ _ r h => by simp [laws_FnTeaching.j0] at h, fun _ _ _ _ _ _ _ _ _ _ _ _ r h => by simp [laws_FnTeaching.l0] at h, fun _ _ _ _ _ _ _ _ _ _ _ _ _ r h => by simp [laws_FnTeaching.j2] at h, fun _ _ _ _ _ _ _ _ _ _ _ _ _ _ r h => by simp [laws_FnTeaching.l1] at h, fun _ _ _ _ _ _ _ r h => by simp [laws_FnTeaching.l2] at h, fun _ _ _ _ _ r h => by simp [laws_FnTeaching.j5] at h, fun _ _ _ _ _ r h => by simp [laws_FnTeaching.l3] at h⟩
 | k + 1 => by
  obtain ⟨ih0, ih1, ih2, ih3, ih4, ih5, ih6⟩ := laws_FnTeaching.mono_l k
  refine ⟨?_, ?_, ?_, ?_, ?_, ?_, ?_⟩
  ·
   intro y0 y1 y2 y3 y4 y5 y6 y7 y8 y9 y10 y11
   unfold laws_FnTeaching.j0
   repeat' first
   | (with_reducible exact ih0 _ _ _ _ _ _ _ _ _ _ _ _)
   | (with_reducible exact ih1 _ _ _ _ _ _ _ _ _ _ _ _)
   | (with_reducible exact ih2 _ _ _ _ _ _ _ _ _ _ _ _ _)
   | (with_reducible exact ih3 _ _ _ _ _ _ _ _ _ _ _ _ _ _)
   | (with_reducible exact ih4 _ _ _ _ _ _ _)
   | (with_reducible exact ih5 _ _ _ _ _)
   | (with_reducible exact ih6 _ _ _ _ _)
   | (with_reducible exact impl_TeachingNumber.mono _ _)
   | (with_reducible exact impl_TeachingSet.mono _ _ _)
   | (with_reducible exact impl_VersionOf.mono _ _ _ _)
   | (with_reducible exact laws_vHas.mono _ _ _)
   | (with_reducible exact laws_vInts.mono _ _ _)
   | (with_reducible exact spec_DrawTeachingSet.mono _ _)
   | (with_reducible exact spec_DrawVersionOf.mono _ _)
   | (with_reducible exact spec_TeachingNumber.mono _ _)
   | (with_reducible exact spec_TeachingSet.mono _ _ _)
   | (with_reducible exact spec_VersionOf.mono _ _ _ _)
   | (with_reducible exact LeO.refl _)
   | (with_reducible exact LeO.none _)
   | (with_reducible refine LeO.ite ?_ ?_)
   | (with_reducible refine LeO.bind ?_ (fun _ => ?_))
   | exact ih0 _ _ _ _ _ _ _ _ _ _ _ _
   | exact ih1 _ _ _ _ _ _ _ _ _ _ _ _
   | exact ih2 _ _ _ _ _ _ _ _ _ _ _ _ _
   | exact ih3 _ _ _ _ _ _ _ _ _ _ _ _ _ _
   | exact ih4 _ _ _ _ _ _ _
   | exact ih5 _ _ _ _ _
   | exact ih6 _ _ _ _ _
   | exact impl_TeachingNumber.mono _ _
   | exact impl_TeachingSet.mono _ _ _
   | exact impl_VersionOf.mono _ _ _ _
   | exact laws_vHas.mono _ _ _
   | exact laws_vInts.mono _ _ _
   | exact spec_DrawTeachingSet.mono _ _
   | exact spec_DrawVersionOf.mono _ _
   | exact spec_TeachingNumber.mono _ _
   | exact spec_TeachingSet.mono _ _ _
   | exact spec_VersionOf.mono _ _ _ _
   | exact LeO.none _
   | refine LeO.ite ?_ ?_
   | refine LeO.bind ?_ (fun _ => ?_)
  ·
   intro y0 y1 y2 y3 y4 y5 y6 y7 y8 y9 y10 y11
   unfold laws_FnTeaching.l0
   repeat' first
   | (with_reducible exact ih0 _ _ _ _ _ _ _ _ _ _ _ _)
   | (with_reducible exact ih1 _ _ _ _ _ _ _ _ _ _ _ _)
   | (with_reducible exact ih2 _ _ _ _ _ _ _ _ _ _ _ _ _)
   | (with_reducible exact ih3 _ _ _ _ _ _ _ _ _ _ _ _ _ _)
   | (with_reducible exact ih4 _ _ _ _ _ _ _)
   | (with_reducible exact ih5 _ _ _ _ _)
   | (with_reducible exact ih6 _ _ _ _ _)
   | (with_reducible exact impl_TeachingNumber.mono _ _)
   | (with_reducible exact impl_TeachingSet.mono _ _ _)
   | (with_reducible exact impl_VersionOf.mono _ _ _ _)
   | (with_reducible exact laws_vHas.mono _ _ _)
   | (with_reducible exact laws_vInts.mono _ _ _)
   | (with_reducible exact spec_DrawTeachingSet.mono _ _)
   | (with_reducible exact spec_DrawVersionOf.mono _ _)
   | (with_reducible exact spec_TeachingNumber.mono _ _)
   | (with_reducible exact spec_TeachingSet.mono _ _ _)
   | (with_reducible exact spec_VersionOf.mono _ _ _ _)
   | (with_reducible exact LeO.refl _)
   | (with_reducible exact LeO.none _)
   | (with_reducible refine LeO.ite ?_ ?_)
   | (with_reducible refine LeO.bind ?_ (fun _ => ?_))
   | exact ih0 _ _ _ _ _ _ _ _ _ _ _ _
   | exact ih1 _ _ _ _ _ _ _ _ _ _ _ _
   | exact ih2 _ _ _ _ _ _ _ _ _ _ _ _ _
   | exact ih3 _ _ _ _ _ _ _ _ _ _ _ _ _ _
   | exact ih4 _ _ _ _ _ _ _
   | exact ih5 _ _ _ _ _
   | exact ih6 _ _ _ _ _
   | exact impl_TeachingNumber.mono _ _
   | exact impl_TeachingSet.mono _ _ _
   | exact impl_VersionOf.mono _ _ _ _
   | exact laws_vHas.mono _ _ _
   | exact laws_vInts.mono _ _ _
   | exact spec_DrawTeachingSet.mono _ _
   | exact spec_DrawVersionOf.mono _ _
   | exact spec_TeachingNumber.mono _ _
   | exact spec_TeachingSet.mono _ _ _
   | exact spec_VersionOf.mono _ _ _ _
   | exact LeO.none _
   | refine LeO.ite ?_ ?_
   | refine LeO.bind ?_ (fun _ => ?_)
  ·
   intro y0 y1 y2 y3 y4 y5 y6 y7 y8 y9 y10 y11 y12
   unfold laws_FnTeaching.j2
   repeat' first
   | (with_reducible exact ih0 _ _ _ _ _ _ _ _ _ _ _ _)
   | (with_reducible exact ih1 _ _ _ _ _ _ _ _ _ _ _ _)
   | (with_reducible exact ih2 _ _ _ _ _ _ _ _ _ _ _ _ _)
   | (with_reducible exact ih3 _ _ _ _ _ _ _ _ _ _ _ _ _ _)
   | (with_reducible exact ih4 _ _ _ _ _ _ _)
   | (with_reducible exact ih5 _ _ _ _ _)
   | (with_reducible exact ih6 _ _ _ _ _)
   | (with_reducible exact impl_TeachingNumber.mono _ _)
   | (with_reducible exact impl_TeachingSet.mono _ _ _)
   | (with_reducible exact impl_VersionOf.mono _ _ _ _)
   | (with_reducible exact laws_vHas.mono _ _ _)
   | (with_reducible exact laws_vInts.mono _ _ _)
   | (with_reducible exact spec_DrawTeachingSet.mono _ _)
   | (with_reducible exact spec_DrawVersionOf.mono _ _)
   | (with_reducible exact spec_TeachingNumber.mono _ _)
   | (with_reducible exact spec_TeachingSet.mono _ _ _)
   | (with_reducible exact spec_VersionOf.mono _ _ _ _)
   | (with_reducible exact LeO.refl _)
   | (with_reducible exact LeO.none _)
   | (with_reducible refine LeO.ite ?_ ?_)
   | (with_reducible refine LeO.bind ?_ (fun _ => ?_))
   | exact ih0 _ _ _ _ _ _ _ _ _ _ _ _
   | exact ih1 _ _ _ _ _ _ _ _ _ _ _ _
   | exact ih2 _ _ _ _ _ _ _ _ _ _ _ _ _
   | exact ih3 _ _ _ _ _ _ _ _ _ _ _ _ _ _
   | exact ih4 _ _ _ _ _ _ _
   | exact ih5 _ _ _ _ _
   | exact ih6 _ _ _ _ _
   | exact impl_TeachingNumber.mono _ _
   | exact impl_TeachingSet.mono _ _ _
   | exact impl_VersionOf.mono _ _ _ _
   | exact laws_vHas.mono _ _ _
   | exact laws_vInts.mono _ _ _
   | exact spec_DrawTeachingSet.mono _ _
   | exact spec_DrawVersionOf.mono _ _
   | exact spec_TeachingNumber.mono _ _
   | exact spec_TeachingSet.mono _ _ _
   | exact spec_VersionOf.mono _ _ _ _
   | exact LeO.none _
   | refine LeO.ite ?_ ?_
   | refine LeO.bind ?_ (fun _ => ?_)
  ·
   intro y0 y1 y2 y3 y4 y5 y6 y7 y8 y9 y10 y11 y12 y13
   unfold laws_FnTeaching.l1
   repeat' first
   | (with_reducible exact ih0 _ _ _ _ _ _ _ _ _ _ _ _)
   | (with_reducible exact ih1 _ _ _ _ _ _ _ _ _ _ _ _)
   | (with_reducible exact ih2 _ _ _ _ _ _ _ _ _ _ _ _ _)
   | (with_reducible exact ih3 _ _ _ _ _ _ _ _ _ _ _ _ _ _)
   | (with_reducible exact ih4 _ _ _ _ _ _ _)
   | (with_reducible exact ih5 _ _ _ _ _)
   | (with_reducible exact ih6 _ _ _ _ _)
   | (with_reducible exact impl_TeachingNumber.mono _ _)
   | (with_reducible exact impl_TeachingSet.mono _ _ _)
   | (with_reducible exact impl_VersionOf.mono _ _ _ _)
   | (with_reducible exact laws_vHas.mono _ _ _)
   | (with_reducible exact laws_vInts.mono _ _ _)
   | (with_reducible exact spec_DrawTeachingSet.mono _ _)
   | (with_reducible exact spec_DrawVersionOf.mono _ _)
   | (with_reducible exact spec_TeachingNumber.mono _ _)
   | (with_reducible exact spec_TeachingSet.mono _ _ _)
   | (with_reducible exact spec_VersionOf.mono _ _ _ _)
   | (with_reducible exact LeO.refl _)
   | (with_reducible exact LeO.none _)
   | (with_reducible refine LeO.ite ?_ ?_)
   | (with_reducible refine LeO.bind ?_ (fun _ => ?_))
   | exact ih0 _ _ _ _ _ _ _ _ _ _ _ _
   | exact ih1 _ _ _ _ _ _ _ _ _ _ _ _
   | exact ih2 _ _ _ _ _ _ _ _ _ _ _ _ _
   | exact ih3 _ _ _ _ _ _ _ _ _ _ _ _ _ _
   | exact ih4 _ _ _ _ _ _ _
   | exact ih5 _ _ _ _ _
   | exact ih6 _ _ _ _ _
   | exact impl_TeachingNumber.mono _ _
   | exact impl_TeachingSet.mono _ _ _
   | exact impl_VersionOf.mono _ _ _ _
   | exact laws_vHas.mono _ _ _
   | exact laws_vInts.mono _ _ _
   | exact spec_DrawTeachingSet.mono _ _
   | exact spec_DrawVersionOf.mono _ _
   | exact spec_TeachingNumber.mono _ _
   | exact spec_TeachingSet.mono _ _ _
   | exact spec_VersionOf.mono _ _ _ _
   | exact LeO.none _
   | refine LeO.ite ?_ ?_
   | refine LeO.bind ?_ (fun _ => ?_)
  ·
   intro y0 y1 y2 y3 y4 y5 y6
   unfold laws_FnTeaching.l2
   repeat' first
   | (with_reducible exact ih0 _ _ _ _ _ _ _ _ _ _ _ _)
   | (with_reducible exact ih1 _ _ _ _ _ _ _ _ _ _ _ _)
   | (with_reducible exact ih2 _ _ _ _ _ _ _ _ _ _ _ _ _)
   | (with_reducible exact ih3 _ _ _ _ _ _ _ _ _ _ _ _ _ _)
   | (with_reducible exact ih4 _ _ _ _ _ _ _)
   | (with_reducible exact ih5 _ _ _ _ _)
   | (with_reducible exact ih6 _ _ _ _ _)
   | (with_reducible exact impl_TeachingNumber.mono _ _)
   | (with_reducible exact impl_TeachingSet.mono _ _ _)
   | (with_reducible exact impl_VersionOf.mono _ _ _ _)
   | (with_reducible exact laws_vHas.mono _ _ _)
   | (with_reducible exact laws_vInts.mono _ _ _)
   | (with_reducible exact spec_DrawTeachingSet.mono _ _)
   | (with_reducible exact spec_DrawVersionOf.mono _ _)
   | (with_reducible exact spec_TeachingNumber.mono _ _)
   | (with_reducible exact spec_TeachingSet.mono _ _ _)
   | (with_reducible exact spec_VersionOf.mono _ _ _ _)
   | (with_reducible exact LeO.refl _)
   | (with_reducible exact LeO.none _)
   | (with_reducible refine LeO.ite ?_ ?_)
   | (with_reducible refine LeO.bind ?_ (fun _ => ?_))
   | exact ih0 _ _ _ _ _ _ _ _ _ _ _ _
   | exact ih1 _ _ _ _ _ _ _ _ _ _ _ _
   | exact ih2 _ _ _ _ _ _ _ _ _ _ _ _ _
   | exact ih3 _ _ _ _ _ _ _ _ _ _ _ _ _ _
   | exact ih4 _ _ _ _ _ _ _
   | exact ih5 _ _ _ _ _
   | exact ih6 _ _ _ _ _
   | exact impl_TeachingNumber.mono _ _
   | exact impl_TeachingSet.mono _ _ _
   | exact impl_VersionOf.mono _ _ _ _
   | exact laws_vHas.mono _ _ _
   | exact laws_vInts.mono _ _ _
   | exact spec_DrawTeachingSet.mono _ _
   | exact spec_DrawVersionOf.mono _ _
   | exact spec_TeachingNumber.mono _ _
   | exact spec_TeachingSet.mono _ _ _
   | exact spec_VersionOf.mono _ _ _ _
   | exact LeO.none _
   | refine LeO.ite ?_ ?_
   | refine LeO.bind ?_ (fun _ => ?_)
  ·
   intro y0 y1 y2 y3 y4
   unfold laws_FnTeaching.j5
   repeat' first
   | (with_reducible exact ih0 _ _ _ _ _ _ _ _ _ _ _ _)
   | (with_reducible exact ih1 _ _ _ _ _ _ _ _ _ _ _ _)
   | (with_reducible exact ih2 _ _ _ _ _ _ _ _ _ _ _ _ _)
   | (with_reducible exact ih3 _ _ _ _ _ _ _ _ _ _ _ _ _ _)
   | (with_reducible exact ih4 _ _ _ _ _ _ _)
   | (with_reducible exact ih5 _ _ _ _ _)
   | (with_reducible exact ih6 _ _ _ _ _)
   | (with_reducible exact impl_TeachingNumber.mono _ _)
   | (with_reducible exact impl_TeachingSet.mono _ _ _)
   | (with_reducible exact impl_VersionOf.mono _ _ _ _)
   | (with_reducible exact laws_vHas.mono _ _ _)
   | (with_reducible exact laws_vInts.mono _ _ _)
   | (with_reducible exact spec_DrawTeachingSet.mono _ _)
   | (with_reducible exact spec_DrawVersionOf.mono _ _)
   | (with_reducible exact spec_TeachingNumber.mono _ _)
   | (with_reducible exact spec_TeachingSet.mono _ _ _)
   | (with_reducible exact spec_VersionOf.mono _ _ _ _)
   | (with_reducible exact LeO.refl _)
   | (with_reducible exact LeO.none _)
   | (with_reducible refine LeO.ite ?_ ?_)
   | (with_reducible refine LeO.bind ?_ (fun _ => ?_))
   | exact ih0 _ _ _ _ _ _ _ _ _ _ _ _
   | exact ih1 _ _ _ _ _ _ _ _ _ _ _ _
   | exact ih2 _ _ _ _ _ _ _ _ _ _ _ _ _
   | exact ih3 _ _ _ _ _ _ _ _ _ _ _ _ _ _
   | exact ih4 _ _ _ _ _ _ _
   | exact ih5 _ _ _ _ _
   | exact ih6 _ _ _ _ _
   | exact impl_TeachingNumber.mono _ _
   | exact impl_TeachingSet.mono _ _ _
   | exact impl_VersionOf.mono _ _ _ _
   | exact laws_vHas.mono _ _ _
   | exact laws_vInts.mono _ _ _
   | exact spec_DrawTeachingSet.mono _ _
   | exact spec_DrawVersionOf.mono _ _
   | exact spec_TeachingNumber.mono _ _
   | exact spec_TeachingSet.mono _ _ _
   | exact spec_VersionOf.mono _ _ _ _
   | exact LeO.none _
   | refine LeO.ite ?_ ?_
   | refine LeO.bind ?_ (fun _ => ?_)
  ·
   intro y0 y1 y2 y3 y4
   unfold laws_FnTeaching.l3
   repeat' first
   | (with_reducible exact ih0 _ _ _ _ _ _ _ _ _ _ _ _)
   | (with_reducible exact ih1 _ _ _ _ _ _ _ _ _ _ _ _)
   | (with_reducible exact ih2 _ _ _ _ _ _ _ _ _ _ _ _ _)
   | (with_reducible exact ih3 _ _ _ _ _ _ _ _ _ _ _ _ _ _)
   | (with_reducible exact ih4 _ _ _ _ _ _ _)
   | (with_reducible exact ih5 _ _ _ _ _)
   | (with_reducible exact ih6 _ _ _ _ _)
   | (with_reducible exact impl_TeachingNumber.mono _ _)
   | (with_reducible exact impl_TeachingSet.mono _ _ _)
   | (with_reducible exact impl_VersionOf.mono _ _ _ _)
   | (with_reducible exact laws_vHas.mono _ _ _)
   | (with_reducible exact laws_vInts.mono _ _ _)
   | (with_reducible exact spec_DrawTeachingSet.mono _ _)
   | (with_reducible exact spec_DrawVersionOf.mono _ _)
   | (with_reducible exact spec_TeachingNumber.mono _ _)
   | (with_reducible exact spec_TeachingSet.mono _ _ _)
   | (with_reducible exact spec_VersionOf.mono _ _ _ _)
   | (with_reducible exact LeO.refl _)
   | (with_reducible exact LeO.none _)
   | (with_reducible refine LeO.ite ?_ ?_)
   | (with_reducible refine LeO.bind ?_ (fun _ => ?_))
   | exact ih0 _ _ _ _ _ _ _ _ _ _ _ _
   | exact ih1 _ _ _ _ _ _ _ _ _ _ _ _
   | exact ih2 _ _ _ _ _ _ _ _ _ _ _ _ _
   | exact ih3 _ _ _ _ _ _ _ _ _ _ _ _ _ _
   | exact ih4 _ _ _ _ _ _ _
   | exact ih5 _ _ _ _ _
   | exact ih6 _ _ _ _ _
   | exact impl_TeachingNumber.mono _ _
   | exact impl_TeachingSet.mono _ _ _
   | exact impl_VersionOf.mono _ _ _ _
   | exact laws_vHas.mono _ _ _
   | exact laws_vInts.mono _ _ _
   | exact spec_DrawTeachingSet.mono _ _
   | exact spec_DrawVersionOf.mono _ _
   | exact spec_TeachingNumber.mono _ _
   | exact spec_TeachingSet.mono _ _ _
   | exact spec_VersionOf.mono _ _ _ _
   | exact LeO.none _
   | refine LeO.ite ?_ ?_
   | refine LeO.bind ?_ (fun _ => ?_)
theorem laws_FnTeaching.mono : ∀ a0 k, LeO (laws_FnTeaching.f k a0) (laws_FnTeaching.f (k + 1) a0) := by
 intro a0 k
 obtain ⟨ih0, ih1, ih2, ih3, ih4, ih5, ih6⟩ := laws_FnTeaching.mono_l k
 unfold laws_FnTeaching.f
 repeat' first
   | (with_reducible exact ih0 _ _ _ _ _ _ _ _ _ _ _ _)
   | (with_reducible exact ih1 _ _ _ _ _ _ _ _ _ _ _ _)
   | (with_reducible exact ih2 _ _ _ _ _ _ _ _ _ _ _ _ _)
   | (with_reducible exact ih3 _ _ _ _ _ _ _ _ _ _ _ _ _ _)
   | (with_reducible exact ih4 _ _ _ _ _ _ _)
   | (with_reducible exact ih5 _ _ _ _ _)
   | (with_reducible exact ih6 _ _ _ _ _)
   | (with_reducible exact impl_TeachingNumber.mono _ _)
   | (with_reducible exact impl_TeachingSet.mono _ _ _)
   | (with_reducible exact impl_VersionOf.mono _ _ _ _)
   | (with_reducible exact laws_vHas.mono _ _ _)
   | (with_reducible exact laws_vInts.mono _ _ _)
   | (with_reducible exact spec_DrawTeachingSet.mono _ _)
   | (with_reducible exact spec_DrawVersionOf.mono _ _)
   | (with_reducible exact spec_TeachingNumber.mono _ _)
   | (with_reducible exact spec_TeachingSet.mono _ _ _)
   | (with_reducible exact spec_VersionOf.mono _ _ _ _)
   | (with_reducible exact LeO.refl _)
   | (with_reducible exact LeO.none _)
   | (with_reducible refine LeO.ite ?_ ?_)
   | (with_reducible refine LeO.bind ?_ (fun _ => ?_))
   | exact ih0 _ _ _ _ _ _ _ _ _ _ _ _
   | exact ih1 _ _ _ _ _ _ _ _ _ _ _ _
   | exact ih2 _ _ _ _ _ _ _ _ _ _ _ _ _
   | exact ih3 _ _ _ _ _ _ _ _ _ _ _ _ _ _
   | exact ih4 _ _ _ _ _ _ _
   | exact ih5 _ _ _ _ _
   | exact ih6 _ _ _ _ _
   | exact impl_TeachingNumber.mono _ _
   | exact impl_TeachingSet.mono _ _ _
   | exact impl_VersionOf.mono _ _ _ _
   | exact laws_vHas.mono _ _ _
   | exact laws_vInts.mono _ _ _
   | exact spec_DrawTeachingSet.mono _ _
   | exact spec_DrawVersionOf.mono _ _
   | exact spec_TeachingNumber.mono _ _
   | exact spec_TeachingSet.mono _ _ _
   | exact spec_VersionOf.mono _ _ _ _
   | exact LeO.none _
   | refine LeO.ite ?_ ?_
   | refine LeO.bind ?_ (fun _ => ?_)
def laws_FnTeaching.T20 : Bool × List (List Nat × List Nat) := (true, [([], []), ([0], [0]), ([1], [1]), ([1], [1]), ([2, 3, 1], [1, 2, 3]), ([4, 1], [1, 4]), ([1], [1]), ([1], [1]), ([6, 7, 1], [1, 6, 7]), ([8, 1], [1, 8]), ([5, 9, 1], [1, 5, 9]), ([10, 1], [1, 10]), ([1], [1]), ([1], [1]), ([12, 13, 1], [1, 12, 13]), ([14, 1], [1, 14]), ([11, 15, 1], [1, 11, 15]), ([1, 16], [1, 16]), ([17, 1, 0, 1, 2, 3, 4, 5, 6, 7, 8, 9, 10, 11, 12, 13, 14, 15, 16, 17], [0, 17])])
def laws_FnTeaching.B20 : List Nat := [0, 1, 3, 3, 15, 31, 3, 3, 195, 451, 1023, 2047, 3, 3, 12291, 28675, 65535, 131071, 262143]
theorem laws_FnTeaching.tab20 : rtab .any (opsOf Try.f3 20) = laws_FnTeaching.T20 := by kernel_rfl
theorem laws_FnTeaching.bits20 : waitsOk laws_FnTeaching.T20.2 laws_FnTeaching.B20 = true := by kernel_rfl
def laws_FnTeaching.T29 : Bool × List (List Nat × List Nat) := (true, [([], []), ([], []), ([], []), ([1, 2], [1, 2]), ([3], [3]), ([], []), ([], []), ([5, 6], [5, 6]), ([7], [7]), ([4, 8], [4, 8]), ([9], [9]), ([10], [10]), ([0, 11], [0, 11]), ([12, 12, 0, 1, 2, 3, 4, 5, 6, 7, 8, 9, 10, 11, 12], [0, 12])])
def laws_FnTeaching.B29 : List Nat := [0, 0, 0, 6, 14, 0, 0, 96, 224, 510, 1022, 2046, 4095, 8191]
theorem laws_FnTeaching.tab29 : rtab .any (opsOf Try.f3 29) = laws_FnTeaching.T29 := by kernel_rfl
theorem laws_FnTeaching.bits29 : waitsOk laws_FnTeaching.T29.2 laws_FnTeaching.B29 = true := by kernel_rfl
def laws_FnTeaching.T36 : Bool × List (List Nat × List Nat) := (true, [([], []), ([], []), ([], []), ([1, 2], [1, 2]), ([0, 3], [0, 3]), ([], []), ([], []), ([6], [6]), ([5, 7], [5, 7]), ([4, 8, 4], [4, 8]), ([9, 9, 0, 1, 2, 3, 4, 5, 6, 7, 8, 9], [9])])
def laws_FnTeaching.B36 : List Nat := [0, 0, 0, 6, 15, 0, 0, 64, 224, 511, 1023]
theorem laws_FnTeaching.tab36 : rtab .any (opsOf Try.f3 36) = laws_FnTeaching.T36 := by kernel_rfl
theorem laws_FnTeaching.bits36 : waitsOk laws_FnTeaching.T36.2 laws_FnTeaching.B36 = true := by kernel_rfl
def laws_FnTeaching.T37 : Bool × List (List Nat × List Nat) := (true, [([], []), ([], []), ([], []), ([1, 2], [1, 2]), ([0, 3], [0, 3]), ([], []), ([], []), ([6], [6]), ([5, 7], [5, 7]), ([4, 8, 4], [4, 8]), ([9, 9, 0, 1, 2, 3, 4, 5, 6, 7, 8, 9], [9])])
def laws_FnTeaching.B37 : List Nat := [0, 0, 0, 6, 15, 0, 0, 64, 224, 511, 1023]
theorem laws_FnTeaching.tab37 : rtab .any (opsOf Try.f3 37) = laws_FnTeaching.T37 := by kernel_rfl
theorem laws_FnTeaching.bits37 : waitsOk laws_FnTeaching.T37.2 laws_FnTeaching.B37 = true := by kernel_rfl
end Go.Proofs.Ytlbleemoiabmdaa.PFnTeaching
