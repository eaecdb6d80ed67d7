-- Laid for this claim by a program of the session's own (wip/tool/myprint.py).
import Derived.Test.YtmfmgnpefjmieaaMFnChowx0
import Derived.Test.YtmfmgnpefjmieaaMFnChowx1
import Derived.Test.YtmfmgnpefjmieaaMFnChowx2
import Derived.Test.YtmfmgnpefjmieaaMFnChowx3
import Derived.Test.YtmfmgnpefjmieaaMFnChowx6
import Derived.Test.YtmfmgnpefjmieaaMFnChowx7
import Derived.Test.YtmfmgnpefjmieaaMFnChowx8
import Derived.Test.YtmfmgnpefjmieaaMFnChowx9
import Derived.Test.YtmfmgnpefjmieaaMFnChowx10
namespace Go.Proofs.Ytmfmgnpefjmieaa.PFnChow
open Go.RowKit Go.Proofs.YtmfmgnpefjmieaaW.PrintWords Go.Proofs.YtmfmgnpefjmieaaW.PrintLast Go.Proofs.YtmfmgnpefjmieaaW.PrintMore
attribute [local go_sem] max2_int min2_int max_two min_two max_three min_three max_four min_four
set_option linter.unusedVariables false
set_option linter.unusedSimpArgs false
mutual
def laws_FnChow.j0 : Nat → Int → List Int → List Int → Bool → List Int → Bool → List Int → Bool → Option (Bool)
 | 0, _, _, _, _, _, _, _, _ => none
 | k + 1, x3, x4, x5, x6, x9, x10, x13, x107 => if x107 = true then (none) else (if x6 = true then (if 0 < (x5.length : Int) then ((laws_vAdd.f k x4).bind fun t418 => (if (rd x5 0) = t418 then (laws_FnChow.l0 k x3 x4 x5 x9 x10 x13 0) else (none))) else (none)) else (some (!x10)))
def laws_FnChow.l0 : Nat → Int → List Int → List Int → List Int → Bool → List Int → Int → Option (Bool)
 | 0, _, _, _, _, _, _, _ => none
 | k + 1, x3, x4, x5, x9, x10, x13, x17 => if x10 = true then (laws_FnChow.j2 k x3 x4 x5 x9 x10 x13 x17 (decide (x17 < x3))) else (laws_FnChow.j2 k x3 x4 x5 x9 x10 x13 x17 false)
def laws_FnChow.j2 : Nat → Int → List Int → List Int → List Int → Bool → List Int → Int → Bool → Option (Bool)
 | 0, _, _, _, _, _, _, _, _ => none
 | k + 1, x3, x4, x5, x9, x10, x13, x17, x123 => if x123 = true then (if 0 ≤ (wrap64 (x17 + 1)) then (if (wrap64 (x17 + 1)) < (x5.length : Int) then (if 0 < (x5.length : Int) then (if 0 ≤ x17 then (if x17 < (x9.length : Int) then (if (rd x9 x17) = 0 then (if (wrap64 ((wrap64 (2 * (rd x5 (wrap64 (x17 + 1))))) - (rd x5 0))) = 0 then (if x17 < (x13.length : Int) then (if (rd x13 x17) = 0 then (laws_FnChow.l0 k x3 x4 x5 x9 x10 x13 (wrap64 (x17 + 1))) else (none)) else (none)) else (none)) else (if x17 < (x13.length : Int) then (if (rd x13 x17) = (wrap64 ((rd x9 x17) * (wrap64 ((wrap64 (2 * (rd x5 (wrap64 (x17 + 1))))) - (rd x5 0))))) then (if (rd x13 x17) = 0 then (none) else (laws_FnChow.l0 k x3 x4 x5 x9 x10 x13 (wrap64 (x17 + 1)))) else (none)) else (none))) else (none)) else (none)) else (none)) else (none)) else (none)) else ((impl_IsThreshold.f k x3 x4).bind fun bt428 => (if bt428.2 = true then (if bt428.1 = true then (laws_FnChow.j3 k x3 x4 x5 x9 bt428.1 (!x10)) else (laws_FnChow.j3 k x3 x4 x5 x9 bt428.1 false)) else (laws_FnChow.j3 k x3 x4 x5 x9 bt428.1 true)))
def laws_FnChow.j3 : Nat → Int → List Int → List Int → List Int → Bool → Bool → Option (Bool)
 | 0, _, _, _, _, _, _ => none
 | k + 1, x3, x4, x5, x9, x19, x193 => if x193 = true then (none) else (if x19 = true then (laws_FnChow.j4 k x3 x4 x5 x9 (x3 == 0)) else (laws_FnChow.j4 k x3 x4 x5 x9 true))
def laws_FnChow.j4 : Nat → Int → List Int → List Int → List Int → Bool → Option (Bool)
 | 0, _, _, _, _, _ => none
 | k + 1, x3, x4, x5, x9, x199 => if x199 = true then (some true) else ((impl_LeastPlane.f k x3 x4).bind fun bt430 => (laws_FnChow.l1 k x3 x4 x5 x9 bt430.2.2 0 bt430.1 bt430.2.1))
def laws_FnChow.l1 : Nat → Int → List Int → List Int → List Int → Bool → Int → List Int → Int → Option (Bool)
 | 0, _, _, _, _, _, _, _, _ => none
 | k + 1, x3, x4, x5, x9, x22, x23, x436000, x436001 => if x22 = true then (laws_FnChow.j6 k x3 x4 x5 x9 x22 x23 (decide (x23 < x3)) x436000 x436001) else (laws_FnChow.j6 k x3 x4 x5 x9 x22 x23 false x436000 x436001)
def laws_FnChow.j6 : Nat → Int → List Int → List Int → List Int → Bool → Int → Bool → List Int → Int → Option (Bool)
 | 0, _, _, _, _, _, _, _, _, _ => none
 | k + 1, x3, x4, x5, x9, x22, x23, x211, x436000, x436001 => if x211 = true then (if 0 ≤ x23 then (if x23 < (x9.length : Int) then (if x23 < (x436000.length : Int) then (if (wrap64 ((rd x9 x23) * (rd x436000 x23))) < 0 then (none) else (if (rd x9 x23) = 0 then (laws_FnChow.l1 k x3 x4 x5 x9 x22 (wrap64 (x23 + 1)) x436000 x436001) else (if (rd x436000 x23) = 0 then (none) else (laws_FnChow.l1 k x3 x4 x5 x9 x22 (wrap64 (x23 + 1)) x436000 x436001)))) else (none)) else (none)) else (none)) else (laws_FnChow.l2 k x3 x4 x5 x22 0)
def laws_FnChow.l2 : Nat → Int → List Int → List Int → Bool → Int → Option (Bool)
 | 0, _, _, _, _, _ => none
 | k + 1, x3, x4, x5, x22, x24 => if x24 < (x4.length : Int) then (laws_FnChow.l3 k x3 x4 x5 x22 x24 0) else (some x22)
def laws_FnChow.l3 : Nat → Int → List Int → List Int → Bool → Int → Int → Option (Bool)
 | 0, _, _, _, _, _, _ => none
 | k + 1, x3, x4, x5, x22, x24, x25 => if x25 < x24 then (if 0 ≤ x24 then (if x24 < (x4.length : Int) then (if 0 ≤ x25 then (if x25 < (x4.length : Int) then (if (rd x4 x24) = (rd x4 x25) then (laws_FnChow.l3 k x3 x4 x5 x22 x24 (wrap64 (x25 + 1))) else ((some (([] : List Int) : List Int)).bind fun y442 => (if y442.length + x4.length < 17592186044416 then ((some (y442 ++ x4 : List Int)).bind fun y445 => (if x24 < (y445.length : Int) then (if x25 < (y445.length : Int) then ((impl_ChowNumbers.f k x3 ((y445.set (x24 : Int).toNat (rd x4 x25)).set (x25 : Int).toNat (rd x4 x24))).bind fun bt452 => (if bt452.2 = true then ((laws_vInts.f k bt452.1 x5).bind fun t456 => (if t456 = true then (none) else (laws_FnChow.l3 k x3 x4 x5 x22 x24 (wrap64 (x25 + 1))))) else (none))) else (none)) else (none))) else (none)))) else (none)) else (none)) else (none)) else (none)) else (laws_FnChow.l2 k x3 x4 x5 x22 (wrap64 (x24 + 1)))
end
def laws_FnChow.f (k : Nat) (l0 : List Int) : Option (Bool) := (laws_vBig.f l0).bind fun t385 => (if t385 = true then (some true) else ((spec_DrawChowNumbers.f k l0).bind fun bt386 => ((impl_ChowNumbers.f k bt386.1 bt386.2).bind fun bt390 => ((spec_ChowNumbers.f k bt386.1 bt386.2).bind fun bt394 => ((impl_BitSigns.f k bt386.1 bt386.2).bind fun bt398 => ((spec_BitSigns.f k bt386.1 bt386.2).bind fun bt402 => ((impl_InfluencesOf.f k bt386.1 bt386.2).bind fun bt406 => ((spec_InfluencesOf.f k bt386.1 bt386.2).bind fun bt410 => (if (bt390.2 != bt394.2) = true then (laws_FnChow.j0 k bt386.1 bt386.2 bt390.1 bt390.2 bt398.1 bt398.2 bt406.1 true) else ((laws_vInts.f k bt390.1 bt394.1).bind fun t414 => (if t414 = true then (if (bt398.2 != bt402.2) = true then (laws_FnChow.j0 k bt386.1 bt386.2 bt390.1 bt390.2 bt398.1 bt398.2 bt406.1 true) else ((laws_vInts.f k bt398.1 bt402.1).bind fun t415 => (if t415 = true then (if (bt406.2 != bt410.2) = true then (laws_FnChow.j0 k bt386.1 bt386.2 bt390.1 bt390.2 bt398.1 bt398.2 bt406.1 true) else ((laws_vInts.f k bt406.1 bt410.1).bind fun t416 => (if t416 = true then (laws_FnChow.j0 k bt386.1 bt386.2 bt390.1 bt390.2 bt398.1 bt398.2 bt406.1 (bt390.2 != bt406.2)) else (laws_FnChow.j0 k bt386.1 bt386.2 bt390.1 bt390.2 bt398.1 bt398.2 bt406.1 true)))) else (laws_FnChow.j0 k bt386.1 bt386.2 bt390.1 bt390.2 bt398.1 bt398.2 bt406.1 true)))) else (laws_FnChow.j0 k bt386.1 bt386.2 bt390.1 bt390.2 bt398.1 bt398.2 bt406.1 true))))))))))))
theorem laws_FnChow.mono_l : ∀ k, (∀ y0 y1 y2 y3 y4 y5 y6 y7, LeO (laws_FnChow.j0 k y0 y1 y2 y3 y4 y5 y6 y7) (laws_FnChow.j0 (k + 1) y0 y1 y2 y3 y4 y5 y6 y7)) ∧ (∀ y0 y1 y2 y3 y4 y5 y6, LeO (laws_FnChow.l0 k y0 y1 y2 y3 y4 y5 y6) (laws_FnChow.l0 (k + 1) y0 y1 y2 y3 y4 y5 y6)) ∧ (∀ y0 y1 y2 y3 y4 y5 y6 y7, LeO (laws_FnChow.j2 k y0 y1 y2 y3 y4 y5 y6 y7) (laws_FnChow.j2 (k + 1) y0 y1 y2 y3 y4 y5 y6 y7)) ∧ (∀ y0 y1 y2 y3 y4 y5, LeO (laws_FnChow.j3 k y0 y1 y2 y3 y4 y5) (laws_FnChow.j3 (k + 1) y0 y1 y2 y3 y4 y5)) ∧ (∀ y0 y1 y2 y3 y4, LeO (laws_FnChow.j4 k y0 y1 y2 y3 y4) (laws_FnChow.j4 (k + 1) y0 y1 y2 y3 y4)) ∧ (∀ y0 y1 y2 y3 y4 y5 y6 y7, LeO (laws_FnChow.l1 k y0 y1 y2 y3 y4 y5 y6 y7) (laws_FnChow.l1 (k + 1) y0 y1 y2 y3 y4 y5 y6 y7)) ∧ (∀ y0 y1 y2 y3 y4 y5 y6 y7 y8, LeO (laws_FnChow.j6 k y0 y1 y2 y3 y4 y5 y6 y7 y8) (laws_FnChow.j6 (k + 1) y0 y1 y2 y3 y4 y5 y6 y7 y8)) ∧ (∀ y0 y1 y2 y3 y4, LeO (laws_FnChow.l2 k y0 y1 y2 y3 y4) (laws_FnChow.l2 (k + 1) y0 y1 y2 y3 y4)) ∧ (∀ y0 y1 y2 y3 y4 y5, LeO (laws_FnChow.l3 k y0 y1 y2 y3 y4 y5) (laws_FnChow.l3 (k + 1) y0 y1 y2 y3 y4 y5))
 | 0 => ⟨fun _ _ _ _ _ _ _ _ r h => by simp [laws_FnChow.j0] at h, fun _ _ _ _ _ _ _ r h => by simp [laws_FnChow.l0] at h, fun _ _ _ _ _ _ _ _ r h => by simp [laws_FnChow.j2] at h, fun _ _ _ _ _ _ r h => by simp [laws_FnChow.j3] at h, fun _ _ _ _ _ r h => by simp [laws_FnChow.j4] at h, fun _ _ _ _ _ _ _ _ r h => by simp [laws_FnChow.l1] at h, fun _ _ _ _ _ _ _ _ _ r h => by simp [laws_FnChow.j6] at h, fun _ _ _ _ _ r h => by simp [laws_FnChow.l2] at h, fun _ _ _ _ _ _ r h => by simp [laws_FnChow.l3] at h⟩
 | k + 1 => by
  obtain ⟨ih0, ih1, ih2, ih3, ih4, ih5, ih6, ih7, ih8⟩ := laws_FnChow.mono_l k
  refine ⟨?_, ?_, ?_, ?_, ?_, ?_, ?_, ?_, ?_⟩
  ·
   intro y0 y1 y2 y3 y4 y5 y6 y7
   unfold laws_FnChow.j0
   repeat' first
   | (with_reducible exact ih0 _ _ _ _ _ _ _ _)
   | (with_reducible exact ih1 _ _ _ _ _ _ _)
   | (with_reducible exact ih2 _ _ _ _ _ _ _ _)
   | (with_reducible exact ih3 _ _ _ _ _ _)
   | (with_reducible exact ih4 _ _ _ _ _)
   | (with_reducible exact ih5 _ _ _ _ _ _ _ _)
   | (with_reducible exact ih6 _ _ _ _ _ _ _ _ _)
   | (with_reducible exact ih7 _ _ _ _ _)
   | (with_reducible exact ih8 _ _ _ _ _ _)
   | (with_reducible exact impl_BitSigns.mono _ _ _)
   | (with_reducible exact impl_ChowNumbers.mono _ _ _)
   | (with_reducible exact impl_InfluencesOf.mono _ _ _)
   | (with_reducible exact impl_IsThreshold.mono _ _ _)
   | (with_reducible exact impl_LeastPlane.mono _ _ _)
   | (with_reducible exact laws_vAdd.mono _ _)
   | (with_reducible exact laws_vInts.mono _ _ _)
   | (with_reducible exact spec_BitSigns.mono _ _ _)
   | (with_reducible exact spec_ChowNumbers.mono _ _ _)
   | (with_reducible exact spec_DrawChowNumbers.mono _ _)
   | (with_reducible exact spec_InfluencesOf.mono _ _ _)
   | (with_reducible exact LeO.refl _)
   | (with_reducible exact LeO.none _)
   | (with_reducible refine LeO.ite ?_ ?_)
   | (with_reducible refine LeO.bind ?_ (fun _ => ?_))
   | exact ih0 _ _ _ _ _ _ _ _
   | exact ih1 _ _ _ _ _ _ _
   | exact ih2 _ _ _ _ _ _ _ _
   | exact ih3 _ _ _ _ _ _
   | exact ih4 _ _ _ _ _
   | exact ih5 _ _ _ _ _ _ _ _
   | exact ih6 _ _ _ _ _ _ _ _ _
   | exact ih7 _ _ _ _ _
   | exact ih8 _ _ _ _ _ _
   | exact impl_BitSigns.mono _ _ _
   | exact impl_ChowNumbers.mono _ _ _
   | exact impl_InfluencesOf.mono _ _ _
   | exact impl_IsThreshold.mono _ _ _
   | exact impl_LeastPlane.mono _ _ _
   | exact laws_vAdd.mono _ _
   | exact laws_vInts.mono _ _ _
   | exact spec_BitSigns.mono _ _ _
   | exact spec_ChowNumbers.mono _ _ _
   | exact spec_DrawChowNumbers.mono _ _
   | exact spec_InfluencesOf.mono _ _ _
   | exact LeO.none _
   | refine LeO.ite ?_ ?_
   | refine LeO.bind ?_ (fun _ => ?_)
  ·
   intro y0 y1 y2 y3 y4 y5 y6
   unfold laws_FnChow.l0
   repeat' first
   | (with_reducible exact ih0 _ _ _ _ _ _ _ _)
   | (with_reducible exact ih1 _ _ _ _ _ _ _)
   | (with_reducible exact ih2 _ _ _ _ _ _ _ _)
   | (with_reducible exact ih3 _ _ _ _ _ _)
   | (with_reducible exact ih4 _ _ _ _ _)
   | (with_reducible exact ih5 _ _ _ _ _ _ _ _)
   | (with_reducible exact ih6 _ _ _ _ _ _ _ _ _)
   | (with_reducible exact ih7 _ _ _ _ _)
   | (with_reducible exact ih8 _ _ _ _ _ _)
   | (with_reducible exact impl_BitSigns.mono _ _ _)
   | (with_reducible exact impl_ChowNumbers.mono _ _ _)
   | (with_reducible exact impl_InfluencesOf.mono _ _ _)
   | (with_reducible exact impl_IsThreshold.mono _ _ _)
   | (with_reducible exact impl_LeastPlane.mono _ _ _)
   | (with_reducible exact laws_vAdd.mono _ _)
   | (with_reducible exact laws_vInts.mono _ _ _)
   | (with_reducible exact spec_BitSigns.mono _ _ _)
   | (with_reducible exact spec_ChowNumbers.mono _ _ _)
   | (with_reducible exact spec_DrawChowNumbers.mono _ _)
   | (with_reducible exact spec_InfluencesOf.mono _ _ _)
   | (with_reducible exact LeO.refl _)
   | (with_reducible exact LeO.none _)
   | (with_reducible refine LeO.ite ?_ ?_)
   | (with_reducible refine LeO.bind ?_ (fun _ => ?_))
   | exact ih0 _ _ _ _ _ _ _ _
   | exact ih1 _ _ _ _ _ _ _
   | exact ih2 _ _ _ _ _ _ _ _
   | exact ih3 _ _ _ _ _ _
   | exact ih4 _ _ _ _ _
   | exact ih5 _ _ _ _ _ _ _ _
   | exact ih6 _ _ _ _ _ _ _ _ _
   | exact ih7 _ _ _ _ _
   | exact ih8 _ _ _ _ _ _
   | exact impl_BitSigns.mono _ _ _
   | exact impl_ChowNumbers.mono _ _ _
   | exact impl_InfluencesOf.mono _ _ _
   | exact impl_IsThreshold.mono _ _ _
   | exact impl_LeastPlane.mono _ _ _
   | exact laws_vAdd.mono _ _
   | exact laws_vInts.mono _ _ _
   | exact spec_BitSigns.mono _ _ _
   | exact spec_ChowNumbers.mono _ _ _
   | exact spec_DrawChowNumbers.mono _ _
   | exact spec_InfluencesOf.mono _ _ _
   | exact LeO.none _
   | refine LeO.ite ?_ ?_
   | refine LeO.bind ?_ (fun _ => ?_)
  ·
   intro y0 y1 y2 y3 y4 y5 y6 y7
   unfold laws_FnChow.j2
   repeat' first
   | (with_reducible exact ih0 _ _ _ _ _ _ _ _)
   | (with_reducible exact ih1 _ _ _ _ _ _ _)
   | (with_reducible exact ih2 _ _ _ _ _ _ _ _)
   | (with_reducible exact ih3 _ _ _ _ _ _)
   | (with_reducible exact ih4 _ _ _ _ _)
   | (with_reducible exact ih5 _ _ _ _ _ _ _ _)
   | (with_reducible exact ih6 _ _ _ _ _ _ _ _ _)
   | (with_reducible exact ih7 _ _ _ _ _)
   | (with_reducible exact ih8 _ _ _ _ _ _)
   | (with_reducible exact impl_BitSigns.mono _ _ _)
   | (with_reducible exact impl_ChowNumbers.mono _ _ _)
   | (with_reducible exact impl_InfluencesOf.mono _ _ _)
   | (with_reducible exact impl_IsThreshold.mono _ _ _)
   | (with_reducible exact impl_LeastPlane.mono _ _ _)
   | (with_reducible exact laws_vAdd.mono _ _)
   | (with_reducible exact laws_vInts.mono _ _ _)
   | (with_reducible exact spec_BitSigns.mono _ _ _)
   | (with_reducible exact spec_ChowNumbers.mono _ _ _)
   | (with_reducible exact spec_DrawChowNumbers.mono _ _)
   | (with_reducible exact spec_InfluencesOf.mono _ _ _)
   | (with_reducible exact LeO.refl _)
   | (with_reducible exact LeO.none _)
   | (with_reducible refine LeO.ite ?_ ?_)
   | (with_reducible refine LeO.bind ?_ (fun _ => ?_))
   | exact ih0 _ _ _ _ _ _ _ _
   | exact ih1 _ _ _ _ _ _ _
   | exact ih2 _ _ _ _ _ _ _ _
   | exact ih3 _ _ _ _ _ _
   | exact ih4 _ _ _ _ _
   | exact ih5 _ _ _ _ _ _ _ _
   | exact ih6 _ _ _ _ _ _ _ _ _
   | exact ih7 _ _ _ _ _
   | exact ih8 _ _ _ _ _ _
   | exact impl_BitSigns.mono _ _ _
   | exact impl_ChowNumbers.mono _ _ _
   | exact impl_InfluencesOf.mono _ _ _
   | exact impl_IsThreshold.mono _ _ _
   | exact impl_LeastPlane.mono _ _ _
   | exact laws_vAdd.mono _ _
   | exact laws_vInts.mono _ _ _
   | exact spec_BitSigns.mono _ _ _
   | exact spec_ChowNumbers.mono _ _ _
   | exact spec_DrawChowNumbers.mono _ _
   | exact spec_InfluencesOf.mono _ _ _
   | exact LeO.none _
   | refine LeO.ite ?_ ?_
   | refine LeO.bind ?_ (fun _ => ?_)
  ·
   intro y0 y1 y2 y3 y4 y5
   unfold laws_FnChow.j3
   repeat' first
   | (with_reducible exact ih0 _ _ _ _ _ _ _ _)
   | (with_reducible exact ih1 _ _ _ _ _ _ _)
   | (with_reducible exact ih2 _ _ _ _ _ _ _ _)
   | (with_reducible exact ih3 _ _ _ _ _ _)
   | (with_reducible exact ih4 _ _ _ _ _)
   | (with_reducible exact ih5 _ _ _ _ _ _ _ _)
   | (with_reducible exact ih6 _ _ _ _ _ _ _ _ _)
   | (with_reducible exact ih7 _ _ _ _ _)
   | (with_reducible exact ih8 _ _ _ _ _ _)
   | (with_reducible exact impl_BitSigns.mono _ _ _)
   | (with_reducible exact impl_ChowNumbers.mono _ _ _)
   | (with_reducible exact impl_InfluencesOf.mono _ _ _)
   | (with_reducible exact impl_IsThreshold.mono _ _ _)
   | (with_reducible exact impl_LeastPlane.mono _ _ _)
   | (with_reducible exact laws_vAdd.mono _ _)
   | (with_reducible exact laws_vInts.mono _ _ _)
   | (with_reducible exact spec_BitSigns.mono _ _ _)
   | (with_reducible exact spec_ChowNumbers.mono _ _ _)
   | (with_reducible exact spec_DrawChowNumbers.mono _ _)
   | (with_reducible exact spec_InfluencesOf.mono _ _ _)
   | (with_reducible exact LeO.refl _)
   | (with_reducible exact LeO.none _)
   | (with_reducible refine LeO.ite ?_ ?_)
   | (with_reducible refine LeO.bind ?_ (fun _ => ?_))
   | exact ih0 _ _ _ _ _ _ _ _
   | exact ih1 _ _ _ _ _ _ _
   | exact ih2 _ _ _ _ _ _ _ _
   | exact ih3 _ _ _ _ _ _
   | exact ih4 _ _ _ _ _
   | exact ih5 _ _ _ _ _ _ _ _
   | exact ih6 _ _ _ _ _ _ _ _ _
   | exact ih7 _ _ _ _ _
   | exact ih8 _ _ _ _ _ _
   | exact impl_BitSigns.mono _ _ _
   | exact impl_ChowNumbers.mono _ _ _
   | exact impl_InfluencesOf.mono _ _ _
   | exact impl_IsThreshold.mono _ _ _
   | exact impl_LeastPlane.mono _ _ _
   | exact laws_vAdd.mono _ _
   | exact laws_vInts.mono _ _ _
   | exact spec_BitSigns.mono _ _ _
   | exact spec_ChowNumbers.mono _ _ _
   | exact spec_DrawChowNumbers.mono _ _
   | exact spec_InfluencesOf.mono _ _ _
   | exact LeO.none _
   | refine LeO.ite ?_ ?_
   | refine LeO.bind ?_ (fun _ => ?_)
  ·
   intro y0 y1 y2 y3 y4
   unfold laws_FnChow.j4
   repeat' first
   | (with_reducible exact ih0 _ _ _ _ _ _ _ _)
   | (with_reducible exact ih1 _ _ _ _ _ _ _)
   | (with_reducible exact ih2 _ _ _ _ _ _ _ _)
   | (with_reducible exact ih3 _ _ _ _ _ _)
   | (with_reducible exact ih4 _ _ _ _ _)
   | (with_reducible exact ih5 _ _ _ _ _ _ _ _)
   | (with_reducible exact ih6 _ _ _ _ _ _ _ _ _)
   | (with_reducible exact ih7 _ _ _ _ _)
   | (with_reducible exact ih8 _ _ _ _ _ _)
   | (with_reducible exact impl_BitSigns.mono _ _ _)
   | (with_reducible exact impl_ChowNumbers.mono _ _ _)
   | (with_reducible exact impl_InfluencesOf.mono _ _ _)
   | (with_reducible exact impl_IsThreshold.mono _ _ _)
   | (with_reducible exact impl_LeastPlane.mono _ _ _)
   | (with_reducible exact laws_vAdd.mono _ _)
   | (with_reducible exact laws_vInts.mono _ _ _)
   | (with_reducible exact spec_BitSigns.mono _ _ _)
   | (with_reducible exact spec_ChowNumbers.mono _ _ _)
   | (with_reducible exact spec_DrawChowNumbers.mono _ _)
   | (with_reducible exact spec_InfluencesOf.mono _ _ _)
   | (with_reducible exact LeO.refl _)
   | (with_reducible exact LeO.none _)
   | (with_reducible refine LeO.ite ?_ ?_)
   | (with_reducible refine LeO.bind ?_ (fun _ => ?_))
   | exact ih0 _ _ _ _ _ _ _ _
   | exact ih1 _ _ _ _ _ _ _
   | exact ih2 _ _ _ _ _ _ _ _
   | exact ih3 _ _ _ _ _ _
   | exact ih4 _ _ _ _ _
   | exact ih5 _ _ _ _ _ _ _ _
   | exact ih6 _ _ _ _ _ _ _ _ _
   | exact ih7 _ _ _ _ _
   | exact ih8 _ _ _ _ _ _
   | exact impl_BitSigns.mono _ _ _
   | exact impl_ChowNumbers.mono _ _ _
   | exact impl_InfluencesOf.mono _ _ _
   | exact impl_IsThreshold.mono _ _ _
   | exact impl_LeastPlane.mono _ _ _
   | exact laws_vAdd.mono _ _
   | exact laws_vInts.mono _ _ _
   | exact spec_BitSigns.mono _ _ _
   | exact spec_ChowNumbers.mono _ _ _
   | exact spec_DrawChowNumbers.mono _ _
   | exact spec_InfluencesOf.mono _ _ _
   | exact LeO.none _
   | refine LeO.ite ?_ ?_
   | refine LeO.bind ?_ (fun _ => ?_)
  ·
   intro y0 y1 y2 y3 y4 y5 y6 y7
   unfold laws_FnChow.l1
   repeat' first
   | (with_reducible exact ih0 _ _ _ _ _ _ _ _)
   | (with_reducible exact ih1 _ _ _ _ _ _ _)
   | (with_reducible exact ih2 _ _ _ _ _ _ _ _)
   | (with_reducible exact ih3 _ _ _ _ _ _)
   | (with_reducible exact ih4 _ _ _ _ _)
   | (with_reducible exact ih5 _ _ _ _ _ _ _ _)
   | (with_reducible exact ih6 _ _ _ _ _ _ _ _ _)
   | (with_reducible exact ih7 _ _ _ _ _)
   | (with_reducible exact ih8 _ _ _ _ _ _)
   | (with_reducible exact impl_BitSigns.mono _ _ _)
   | (with_reducible exact impl_ChowNumbers.mono _ _ _)
   | (with_reducible exact impl_InfluencesOf.mono _ _ _)
   | (with_reducible exact impl_IsThreshold.mono _ _ _)
   | (with_reducible exact impl_LeastPlane.mono _ _ _)
   | (with_reducible exact laws_vAdd.mono _ _)
   | (with_reducible exact laws_vInts.mono _ _ _)
   | (with_reducible exact spec_BitSigns.mono _ _ _)
   | (with_reducible exact spec_ChowNumbers.mono _ _ _)
   | (with_reducible exact spec_DrawChowNumbers.mono _ _)
   | (with_reducible exact spec_InfluencesOf.mono _ _ _)
   | (with_reducible exact LeO.refl _)
   | (with_reducible exact LeO.none _)
   | (with_reducible refine LeO.ite ?_ ?_)
   | (with_reducible refine LeO.bind ?_ (fun _ => ?_))
   | exact ih0 _ _ _ _ _ _ _ _
   | exact ih1 _ _ _ _ _ _ _
   | exact ih2 _ _ _ _ _ _ _ _
   | exact ih3 _ _ _ _ _ _
   | exact ih4 _ _ _ _ _
   | exact ih5 _ _ _ _ _ _ _ _
   | exact ih6 _ _ _ _ _ _ _ _ _
   | exact ih7 _ _ _ _ _
   | exact ih8 _ _ _ _ _ _
   | exact impl_BitSigns.mono _ _ _
   | exact impl_ChowNumbers.mono _ _ _
   | exact impl_InfluencesOf.mono _ _ _
   | exact impl_IsThreshold.mono _ _ _
   | exact impl_LeastPlane.mono _ _ _
   | exact laws_vAdd.mono _ _
   | exact laws_vInts.mono _ _ _
   | exact spec_BitSigns.mono _ _ _
   | exact spec_ChowNumbers.mono _ _ _
   | exact spec_DrawChowNumbers.mono _ _
   | exact spec_InfluencesOf.mono _ _ _
   | exact LeO.none _
   | refine LeO.ite ?_ ?_
   | refine LeO.bind ?_ (fun _ => ?_)
  ·
   intro y0 y1 y2 y3 y4 y5 y6 y7 y8
   unfold laws_FnChow.j6
   repeat' first
   | (with_reducible exact ih0 _ _ _ _ _ _ _ _)
   | (with_reducible exact ih1 _ _ _ _ _ _ _)
   | (with_reducible exact ih2 _ _ _ _ _ _ _ _)
   | (with_reducible exact ih3 _ _ _ _ _ _)
   | (with_reducible exact ih4 _ _ _ _ _)
   | (with_reducible exact ih5 _ _ _ _ _ _ _ _)
   | (with_reducible exact ih6 _ _ _ _ _ _ _ _ _)
   | (with_reducible exact ih7 _ _ _ _ _)
   | (with_reducible exact ih8 _ _ _ _ _ _)
   | (with_reducible exact impl_BitSigns.mono _ _ _)
   | (with_reducible exact impl_ChowNumbers.mono _ _ _)
   | (with_reducible exact impl_InfluencesOf.mono _ _ _)
   | (with_reducible exact impl_IsThreshold.mono _ _ _)
   | (with_reducible exact impl_LeastPlane.mono _ _ _)
   | (with_reducible exact laws_vAdd.mono _ _)
   | (with_reducible exact laws_vInts.mono _ _ _)
   | (with_reducible exact spec_BitSigns.mono _ _ _)
   | (with_reducible exact spec_ChowNumbers.mono _ _ _)
   | (with_reducible exact spec_DrawChowNumbers.mono _ _)
   | (with_reducible exact spec_InfluencesOf.mono _ _ _)
   | (with_reducible exact LeO.refl _)
   | (with_reducible exact LeO.none _)
   | (with_reducible refine LeO.ite ?_ ?_)
   | (with_reducible refine LeO.bind ?_ (fun _ => ?_))
   | exact ih0 _ _ _ _ _ _ _ _
   | exact ih1 _ _ _ _ _ _ _
   | exact ih2 _ _ _ _ _ _ _ _
   | exact ih3 _ _ _ _ _ _
   | exact ih4 _ _ _ _ _
   | exact ih5 _ _ _ _ _ _ _ _
   | exact ih6 _ _ _ _ _ _ _ _ _
   | exact ih7 _ _ _ _ _
   | exact ih8 _ _ _ _ _ _
   | exact impl_BitSigns.mono _ _ _
   | exact impl_ChowNumbers.mono _ _ _
   | exact impl_InfluencesOf.mono _ _ _
   | exact impl_IsThreshold.mono _ _ _
   | exact impl_LeastPlane.mono _ _ _
   | exact laws_vAdd.mono _ _
   | exact laws_vInts.mono _ _ _
   | exact spec_BitSigns.mono _ _ _
   | exact spec_ChowNumbers.mono _ _ _
   | exact spec_DrawChowNumbers.mono _ _
   | exact spec_InfluencesOf.mono _ _ _
   | exact LeO.none _
   | refine LeO.ite ?_ ?_
   | refine LeO.bind ?_ (fun _ => ?_)
  ·
   intro y0 y1 y2 y3 y4
   unfold laws_FnChow.l2
   repeat' first
   | (with_reducible exact ih0 _ _ _ _ _ _ _ _)
   | (with_reducible exact ih1 _ _ _ _ _ _ _)
   | (with_reducible exact ih2 _ _ _ _ _ _ _ _)
   | (with_reducible exact ih3 _ _ _ _ _ _)
   | (with_reducible exact ih4 _ _ _ _ _)
   | (with_reducible exact ih5 _ _ _ _ _ _ _ _)
   | (with_reducible exact ih6 _ _ _ _ _ _ _ _ _)
   | (with_reducible exact ih7 _ _ _ _ _)
   | (with_reducible exact ih8 _ _ _ _ _ _)
   | (with_reducible exact impl_BitSigns.mono _ _ _)
   | (with_reducible exact impl_ChowNumbers.mono _ _ _)
   | (with_reducible exact impl_InfluencesOf.mono _ _ _)
   | (with_reducible exact impl_IsThreshold.mono _ _ _)
   | (with_reducible exact impl_LeastPlane.mono _ _ _)
   | (with_reducible exact laws_vAdd.mono _ _)
   | (with_reducible exact laws_vInts.mono _ _ _)
   | (with_reducible exact spec_BitSigns.mono _ _ _)
   | (with_reducible exact spec_ChowNumbers.mono _ _ _)
   | (with_reducible exact spec_DrawChowNumbers.mono _ _)
   | (with_reducible exact spec_InfluencesOf.mono _ _ _)
   | (with_reducible exact LeO.refl _)
   | (with_reducible exact LeO.none _)
   | (with_reducible refine LeO.ite ?_ ?_)
   | (with_reducible refine LeO.bind ?_ (fun _ => ?_))
   | exact ih0 _ _ _ _ _ _ _ _
   | exact ih1 _ _ _ _ _ _ _
   | exact ih2 _ _ _ _ _ _ _ _
   | exact ih3 _ _ _ _ _ _
   | exact ih4 _ _ _ _ _
   | exact ih5 _ _ _ _ _ _ _ _
   | exact ih6 _ _ _ _ _ _ _ _ _
   | exact ih7 _ _ _ _ _
   | exact ih8 _ _ _ _ _ _
   | exact impl_BitSigns.mono _ _ _
   | exact impl_ChowNumbers.mono _ _ _
   | exact impl_InfluencesOf.mono _ _ _
   | exact impl_IsThreshold.mono _ _ _
   | exact impl_LeastPlane.mono _ _ _
   | exact laws_vAdd.mono _ _
   | exact laws_vInts.mono _ _ _
   | exact spec_BitSigns.mono _ _ _
   | exact spec_ChowNumbers.mono _ _ _
   | exact spec_DrawChowNumbers.mono _ _
   | exact spec_InfluencesOf.mono _ _ _
   | exact LeO.none _
   | refine LeO.ite ?_ ?_
   | refine LeO.bind ?_ (fun _ => ?_)
  ·
   intro y0 y1 y2 y3 y4 y5
   unfold laws_FnChow.l3
   repeat' first
   | (with_reducible exact ih0 _ _ _ _ _ _ _ _)
   | (with_reducible exact ih1 _ _ _ _ _ _ _)
   | (with_reducible exact ih2 _ _ _ _ _ _ _ _)
   | (with_reducible exact ih3 _ _ _ _ _ _)
   | (with_reducible exact ih4 _ _ _ _ _)
   | (with_reducible exact ih5 _ _ _ _ _ _ _ _)
   | (with_reducible exact ih6 _ _ _ _ _ _ _ _ _)
   | (with_reducible exact ih7 _ _ _ _ _)
   | (with_reducible exact ih8 _ _ _ _ _ _)
   | (with_reducible exact impl_BitSigns.mono _ _ _)
   | (with_reducible exact impl_ChowNumbers.mono _ _ _)
   | (with_reducible exact impl_InfluencesOf.mono _ _ _)
   | (with_reducible exact impl_IsThreshold.mono _ _ _)
   | (with_reducible exact impl_LeastPlane.mono _ _ _)
   | (with_reducible exact laws_vAdd.mono _ _)
   | (with_reducible exact laws_vInts.mono _ _ _)
   | (with_reducible exact spec_BitSigns.mono _ _ _)
   | (with_reducible exact spec_ChowNumbers.mono _ _ _)
   | (with_reducible exact spec_DrawChowNumbers.mono _ _)
   | (with_reducible exact spec_InfluencesOf.mono _ _ _)
   | (with_reducible exact LeO.refl _)
   | (with_reducible exact LeO.none _)
   | (with_reducible refine LeO.ite ?_ ?_)
   | (with_reducible refine LeO.bind ?_ (fun _ => ?_))
   | exact ih0 _ _ _ _ _ _ _ _
   | exact ih1 _ _ _ _ _ _ _
   | exact ih2 _ _ _ _ _ _ _ _
   | exact ih3 _ _ _ _ _ _
   | exact ih4 _ _ _ _ _
   | exact ih5 _ _ _ _ _ _ _ _
   | exact ih6 _ _ _ _ _ _ _ _ _
   | exact ih7 _ _ _ _ _
   | exact ih8 _ _ _ _ _ _
   | exact impl_BitSigns.mono _ _ _
   | exact impl_ChowNumbers.mono _ _ _
   | exact impl_InfluencesOf.mono _ _ _
   | exact impl_IsThreshold.mono _ _ _
   | exact impl_LeastPlane.mono _ _ _
   | exact laws_vAdd.mono _ _
   | exact laws_vInts.mono _ _ _
   | exact spec_BitSigns.mono _ _ _
   | exact spec_ChowNumbers.mono _ _ _
   | exact spec_DrawChowNumbers.mono _ _
   | exact spec_InfluencesOf.mono _ _ _
   | exact LeO.none _
   | refine LeO.ite ?_ ?_
   | refine LeO.bind ?_ (fun _ => ?_)
theorem laws_FnChow.mono : ∀ a0 k, LeO (laws_FnChow.f k a0) (laws_FnChow.f (k + 1) a0) := by
 intro a0 k
 obtain ⟨ih0, ih1, ih2, ih3, ih4, ih5, ih6, ih7, ih8⟩ := laws_FnChow.mono_l k
 unfold laws_FnChow.f
 repeat' first
   | (with_reducible exact ih0 _ _ _ _ _ _ _ _)
   | (with_reducible exact ih1 _ _ _ _ _ _ _)
   | (with_reducible exact ih2 _ _ _ _ _ _ _ _)
   | (with_reducible exact ih3 _ _ _ _ _ _)
   | (with_reducible exact ih4 _ _ _ _ _)
   | (with_reducible exact ih5 _ _ _ _ _ _ _ _)
   | (with_reducible exact ih6 _ _ _ _ _ _ _ _ _)
   | (with_reducible exact ih7 _ _ _ _ _)
   | (with_reducible exact ih8 _ _ _ _ _ _)
   | (with_reducible exact impl_BitSigns.mono _ _ _)
   | (with_reducible exact impl_ChowNumbers.mono _ _ _)
   | (with_reducible exact impl_InfluencesOf.mono _ _ _)
   | (with_reducible exact impl_IsThreshold.mono _ _ _)
   | (with_reducible exact impl_LeastPlane.mono _ _ _)
   | (with_reducible exact laws_vAdd.mono _ _)
   | (with_reducible exact laws_vInts.mono _ _ _)
   | (with_reducible exact spec_BitSigns.mono _ _ _)
   | (with_reducible exact spec_ChowNumbers.mono _ _ _)
   | (with_reducible exact spec_DrawChowNumbers.mono _ _)
   | (with_reducible exact spec_InfluencesOf.mono _ _ _)
   | (with_reducible exact LeO.refl _)
   | (with_reducible exact LeO.none _)
   | (with_reducible refine LeO.ite ?_ ?_)
   | (with_reducible refine LeO.bind ?_ (fun _ => ?_))
   | exact ih0 _ _ _ _ _ _ _ _
   | exact ih1 _ _ _ _ _ _ _
   | exact ih2 _ _ _ _ _ _ _ _
   | exact ih3 _ _ _ _ _ _
   | exact ih4 _ _ _ _ _
   | exact ih5 _ _ _ _ _ _ _ _
   | exact ih6 _ _ _ _ _ _ _ _ _
   | exact ih7 _ _ _ _ _
   | exact ih8 _ _ _ _ _ _
   | exact impl_BitSigns.mono _ _ _
   | exact impl_ChowNumbers.mono _ _ _
   | exact impl_InfluencesOf.mono _ _ _
   | exact impl_IsThreshold.mono _ _ _
   | exact impl_LeastPlane.mono _ _ _
   | exact laws_vAdd.mono _ _
   | exact laws_vInts.mono _ _ _
   | exact spec_BitSigns.mono _ _ _
   | exact spec_ChowNumbers.mono _ _ _
   | exact spec_DrawChowNumbers.mono _ _
   | exact spec_InfluencesOf.mono _ _ _
   | exact LeO.none _
   | refine LeO.ite ?_ ?_
   | refine LeO.bind ?_ (fun _ => ?_)
def laws_FnChow.Pure : Prop := ∀ (l0 : List Int), l0.length ≤ maxLen → l0.length * 1 ≤ 140737488351232 → (∀ x ∈ l0, (Lit.int .u8 x).wf = true) → ∃ k, laws_FnChow.f k l0 = some true
end Go.Proofs.Ytmfmgnpefjmieaa.PFnChow
