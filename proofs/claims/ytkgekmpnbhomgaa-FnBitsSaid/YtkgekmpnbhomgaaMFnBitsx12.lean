-- Laid for this claim by a program of the session's own (wip/tool/myprint.py).
import Derived.Test.YtkgekmpnbhomgaaMFnBitsx0
import Derived.Test.YtkgekmpnbhomgaaMFnBitsx1
import Derived.Test.YtkgekmpnbhomgaaMFnBitsx2
import Derived.Test.YtkgekmpnbhomgaaMFnBitsx3
import Derived.Test.YtkgekmpnbhomgaaMFnBitsx4
import Derived.Test.YtkgekmpnbhomgaaMFnBitsx5
import Derived.Test.YtkgekmpnbhomgaaMFnBitsx6
import Derived.Test.YtkgekmpnbhomgaaMFnBitsx7
import Derived.Test.YtkgekmpnbhomgaaMFnBitsx8
import Derived.Test.YtkgekmpnbhomgaaMFnBitsx9
import Derived.Test.YtkgekmpnbhomgaaMFnBitsx11
namespace Go.Proofs.Ytkgekmpnbhomgaa.PFnBits
open Go.RowKit Go.Proofs.YtkgekmpnbhomgaaW.PrintWords Go.Proofs.YtkgekmpnbhomgaaW.PrintLast Go.Proofs.YtkgekmpnbhomgaaW.PrintMore
attribute [local go_sem] max2_int min2_int max_two min_two max_three min_three max_four min_four
set_option linter.unusedVariables false
set_option linter.unusedSimpArgs false
mutual
def laws_FnBits.j0 : Nat → List Int → List Int → Bool → Bool → List Int → Int → Option (Bool)
 | 0, _, _, _, _, _, _ => none
 | k + 1, x0, x4, x5, x55, x424000, x424001 => if x55 = true then (none) else ((spec_DrawTableSample.f k x0).bind fun bt434 => ((impl_TableSample.f k bt434.1 bt434.2).bind fun bt438 => ((spec_TableSample.f k bt434.1 bt434.2).bind fun bt446 => (if (bt438.2.2 != bt446.2.2) = true then (laws_FnBits.j1 k x0 x4 x5 bt434.2 bt438.2.2 true x424000 x424001 bt438.1 bt438.2.1) else ((laws_rSample.f k bt438.1 bt438.2.1 bt446.1 bt446.2.1).bind fun t454 => (laws_FnBits.j1 k x0 x4 x5 bt434.2 bt438.2.2 (!t454) x424000 x424001 bt438.1 bt438.2.1))))))
def laws_FnBits.j1 : Nat → List Int → List Int → Bool → List Int → Bool → Bool → List Int → Int → List (List Int) → List Int → Option (Bool)
 | 0, _, _, _, _, _, _, _, _, _, _ => none
 | k + 1, x0, x4, x5, x9, x11, x81, x424000, x424001, x446000, x446001 => if x81 = true then (none) else ((spec_DrawBitPoint.f x0).bind fun bt455 => ((impl_BitPoint.f k bt455.1 bt455.2).bind fun bt457 => ((spec_BitPoint.f k bt455.1 bt455.2).bind fun bt461 => (if (bt457.2 != bt461.2) = true then (laws_FnBits.j2 k x4 x5 x9 x11 bt455.2 bt457.1 bt457.2 true x424000 x424001 x446000 x446001) else ((laws_rInts.f k bt457.1 bt461.1).bind fun t465 => (laws_FnBits.j2 k x4 x5 x9 x11 bt455.2 bt457.1 bt457.2 (!t465) x424000 x424001 x446000 x446001))))))
def laws_FnBits.j2 : Nat → List Int → Bool → List Int → Bool → Int → List Int → Bool → Bool → List Int → Int → List (List Int) → List Int → Option (Bool)
 | 0, _, _, _, _, _, _, _, _, _, _, _, _ => none
 | k + 1, x4, x5, x9, x11, x15, x16, x17, x107, x424000, x424001, x446000, x446001 => if x107 = true then (none) else (if x17 = true then (laws_FnBits.l0 k x4 x5 x9 x11 x15 x16 0 (wrap64 ((x16.length : Int) - 1)) x424000 x424001 x446000 x446001) else (laws_FnBits.j4 k x4 x5 x9 x11 x424000 x424001 x446000 x446001))
def laws_FnBits.j4 : Nat → List Int → Bool → List Int → Bool → List Int → Int → List (List Int) → List Int → Option (Bool)
 | 0, _, _, _, _, _, _, _, _ => none
 | k + 1, x4, x5, x9, x11, x424000, x424001, x446000, x446001 => if x11 = true then (laws_FnBits.l1 k x4 x5 x9 0 x424000 x424001 x446000 x446001) else (laws_FnBits.j6 k x4 x5 x424000 x424001)
def laws_FnBits.j6 : Nat → List Int → Bool → List Int → Int → Option (Bool)
 | 0, _, _, _, _ => none
 | k + 1, x4, x5, x424000, x424001 => if x5 = true then ((impl_TableSample.f k (x424000.length : Int) x4).bind fun bt469 => ((impl_FitsSample.f k bt469.1 bt469.2.1 x424000 x424001).bind fun bt477 => (if bt469.2.2 = true then (if bt477.2 = true then (some bt477.1) else (none)) else (none)))) else (some true)
def laws_FnBits.l1 : Nat → List Int → Bool → List Int → Int → List Int → Int → List (List Int) → List Int → Option (Bool)
 | 0, _, _, _, _, _, _, _, _ => none
 | k + 1, x4, x5, x9, x22, x424000, x424001, x446000, x446001 => if x22 < (x9.length : Int) then (if 0 ≤ x22 then (if x22 < (x446001.length : Int) then (if (rd x446001 x22) = (wrap64 ((wrap64 (2 * (rd x9 x22))) - 1)) then (laws_FnBits.l1 k x4 x5 x9 (wrap64 (x22 + 1)) x424000 x424001 x446000 x446001) else (none)) else (none)) else (none)) else (laws_FnBits.j6 k x4 x5 x424000 x424001)
def laws_FnBits.l0 : Nat → List Int → Bool → List Int → Bool → Int → List Int → Int → Int → List Int → Int → List (List Int) → List Int → Option (Bool)
 | 0, _, _, _, _, _, _, _, _, _, _, _, _ => none
 | k + 1, x4, x5, x9, x11, x15, x16, x20, x21, x424000, x424001, x446000, x446001 => if x21 ≥ 0 then (if 0 ≤ x21 then (if x21 < (x16.length : Int) then (laws_FnBits.l0 k x4 x5 x9 x11 x15 x16 (wrap64 ((wrap64 (2 * x20)) + (rd x16 x21))) (wrap64 (x21 - 1)) x424000 x424001 x446000 x446001) else (none)) else (none)) else (if x20 = x15 then (laws_FnBits.j4 k x4 x5 x9 x11 x424000 x424001 x446000 x446001) else (none))
end
def laws_FnBits.f (k : Nat) (l0 : List Int) : Option (Bool) := (laws_rBig.f l0).bind fun t418 => (if t418 = true then (some true) else ((spec_DrawPlaneTable.f k l0).bind fun bt419 => ((impl_PlaneTable.f k bt419.1 bt419.2).bind fun bt424 => ((spec_PlaneTable.f k bt419.1 bt419.2).bind fun bt428 => (if (bt424.2 != bt428.2) = true then (laws_FnBits.j0 k l0 bt424.1 bt424.2 true bt419.1 bt419.2) else ((impl_IsPlane.f k bt419.1 bt419.2).bind fun t432 => (if (bt424.2 != t432) = true then (laws_FnBits.j0 k l0 bt424.1 bt424.2 true bt419.1 bt419.2) else ((laws_rInts.f k bt424.1 bt428.1).bind fun t433 => (laws_FnBits.j0 k l0 bt424.1 bt424.2 (!t433) bt419.1 bt419.2)))))))))
theorem laws_FnBits.mono_l : ∀ k, (∀ y0 y1 y2 y3 y4 y5, LeO (laws_FnBits.j0 k y0 y1 y2 y3 y4 y5) (laws_FnBits.j0 (k + 1) y0 y1 y2 y3 y4 y5)) ∧ (∀ y0 y1 y2 y3 y4 y5 y6 y7 y8 y9, LeO (laws_FnBits.j1 k y0 y1 y2 y3 y4 y5 y6 y7 y8 y9) (laws_FnBits.j1 (k + 1) y0 y1 y2 y3 y4 y5 y6 y7 y8 y9)) ∧ (∀ y0 y1 y2 y3 y4 y5 y6 y7 y8 y9 y10 y11, LeO (laws_FnBits.j2 k y0 y1 y2 y3 y4 y5 y6 y7 y8 y9 y10 y11) (laws_FnBits.j2 (k + 1) y0 y1 y2 y3 y4 y5 y6 y7 y8 y9 y10 y11)) ∧ (∀ y0 y1 y2 y3 y4 y5 y6 y7, LeO (laws_FnBits.j4 k y0 y1 y2 y3 y4 y5 y6 y7) (laws_FnBits.j4 (k + 1) y0 y1 y2 y3 y4 y5 y6 y7)) ∧ (∀ y0 y1 y2 y3, LeO (laws_FnBits.j6 k y0 y1 y2 y3) (laws_FnBits.j6 (k + 1) y0 y1 y2 y3)) ∧ (∀ y0 y1 y2 y3 y4 y5 y6 y7, LeO (laws_FnBits.l1 k y0 y1 y2 y3 y4 y5 y6 y7) (laws_FnBits.l1 (k + 1) y0 y1 y2 y3 y4 y5 y6 y7)) ∧ (∀ y0 y1 y2 y3 y4 y5 y6 y7 y8 y9 y10 y11, LeO (laws_FnBits.l0 k y0 y1 y2 y3 y4 y5 y6 y7 y8 y9 y10 y11) (laws_FnBits.l0 (k + 1) y0 y1 y2 y3 y4 y5 y6 y7 y8 y9 y10 y11))
 | 0 => ⟨fun _ _ _ _ _ _ r h => by simp [laws_FnBits.j0] at h, fun _ _ _ _ _ _ _ _ _ _ r h => by simp [laws_FnBits.j1] at h, fun _ _ _ _ _ _ _ _ _ _ _ _ r h => by simp [laws_FnBits.j2] at h, fun _ _ _ _ _ _ _ _ r h => by simp [laws_FnBits.j4] at h, fun _ _ _ _ r h => by simp [laws_FnBits.j6] at h, fun _ _ _ _ _ _ _ _ r h => by simp [laws_FnBits.l1] at h, fun _ _ _ _ _ _ _ _ _ _ _ _ r h => by simp [laws_FnBits.l0] at h⟩
 | k + 1 => by
  obtain ⟨ih0, ih1, ih2, ih3, ih4, ih5, ih6⟩ := laws_FnBits.mono_l k
  refine ⟨?_, ?_, ?_, ?_, ?_, ?_, ?_⟩
  ·
   intro y0 y1 y2 y3 y4 y5
   unfold laws_FnBits.j0
   repeat' first
   | (with_reducible exact ih0 _ _ _ _ _ _)
   | (with_reducible exact ih1 _ _ _ _ _ _ _ _ _ _)
   | (with_reducible exact ih2 _ _ _ _ _ _ _ _ _ _ _ _)
   | (with_reducible exact ih3 _ _ _ _ _ _ _ _)
   | (with_reducible exact ih4 _ _ _ _)
   | (with_reducible exact ih5 _ _ _ _ _ _ _ _)
   | (with_reducible exact ih6 _ _ _ _ _ _ _ _ _ _ _ _)
   | (with_reducible exact impl_BitPoint.mono _ _ _)
   | (with_reducible exact impl_FitsSample.mono _ _ _ _ _)
   | (with_reducible exact impl_IsPlane.mono _ _ _)
   | (with_reducible exact impl_PlaneTable.mono _ _ _)
   | (with_reducible exact impl_TableSample.mono _ _ _)
   | (with_reducible exact laws_rInts.mono _ _ _)
   | (with_reducible exact laws_rSample.mono _ _ _ _ _)
   | (with_reducible exact spec_BitPoint.mono _ _ _)
   | (with_reducible exact spec_DrawPlaneTable.mono _ _)
   | (with_reducible exact spec_DrawTableSample.mono _ _)
   | (with_reducible exact spec_PlaneTable.mono _ _ _)
   | (with_reducible exact spec_TableSample.mono _ _ _)
   | (with_reducible exact LeO.refl _)
   | (with_reducible exact LeO.none _)
   | (with_reducible refine LeO.ite ?_ ?_)
   | (with_reducible refine LeO.bind ?_ (fun _ => ?_))
   | exact ih0 _ _ _ _ _ _
   | exact ih1 _ _ _ _ _ _ _ _ _ _
   | exact ih2 _ _ _ _ _ _ _ _ _ _ _ _
   | exact ih3 _ _ _ _ _ _ _ _
   | exact ih4 _ _ _ _
   | exact ih5 _ _ _ _ _ _ _ _
   | exact ih6 _ _ _ _ _ _ _ _ _ _ _ _
   | exact impl_BitPoint.mono _ _ _
   | exact impl_FitsSample.mono _ _ _ _ _
   | exact impl_IsPlane.mono _ _ _
   | exact impl_PlaneTable.mono _ _ _
   | exact impl_TableSample.mono _ _ _
   | exact laws_rInts.mono _ _ _
   | exact laws_rSample.mono _ _ _ _ _
   | exact spec_BitPoint.mono _ _ _
   | exact spec_DrawPlaneTable.mono _ _
   | exact spec_DrawTableSample.mono _ _
   | exact spec_PlaneTable.mono _ _ _
   | exact spec_TableSample.mono _ _ _
   | exact LeO.none _
   | refine LeO.ite ?_ ?_
   | refine LeO.bind ?_ (fun _ => ?_)
  ·
   intro y0 y1 y2 y3 y4 y5 y6 y7 y8 y9
   unfold laws_FnBits.j1
   repeat' first
   | (with_reducible exact ih0 _ _ _ _ _ _)
   | (with_reducible exact ih1 _ _ _ _ _ _ _ _ _ _)
   | (with_reducible exact ih2 _ _ _ _ _ _ _ _ _ _ _ _)
   | (with_reducible exact ih3 _ _ _ _ _ _ _ _)
   | (with_reducible exact ih4 _ _ _ _)
   | (with_reducible exact ih5 _ _ _ _ _ _ _ _)
   | (with_reducible exact ih6 _ _ _ _ _ _ _ _ _ _ _ _)
   | (with_reducible exact impl_BitPoint.mono _ _ _)
   | (with_reducible exact impl_FitsSample.mono _ _ _ _ _)
   | (with_reducible exact impl_IsPlane.mono _ _ _)
   | (with_reducible exact impl_PlaneTable.mono _ _ _)
   | (with_reducible exact impl_TableSample.mono _ _ _)
   | (with_reducible exact laws_rInts.mono _ _ _)
   | (with_reducible exact laws_rSample.mono _ _ _ _ _)
   | (with_reducible exact spec_BitPoint.mono _ _ _)
   | (with_reducible exact spec_DrawPlaneTable.mono _ _)
   | (with_reducible exact spec_DrawTableSample.mono _ _)
   | (with_reducible exact spec_PlaneTable.mono _ _ _)
   | (with_reducible exact spec_TableSample.mono _ _ _)
   | (with_reducible exact LeO.refl _)
   | (with_reducible exact LeO.none _)
   | (with_reducible refine LeO.ite ?_ ?_)
   | (with_reducible refine LeO.bind ?_ (fun _ => ?_))
   | exact ih0 _ _ _ _ _ _
   | exact ih1 _ _ _ _ _ _ _ _ _ _
   | exact ih2 _ _ _ _ _ _ _ _ _ _ _ _
   | exact ih3 _ _ _ _ _ _ _ _
   | exact ih4 _ _ _ _
   | exact ih5 _ _ _ _ _ _ _ _
   | exact ih6 _ _ _ _ _ _ _ _ _ _ _ _
   | exact impl_BitPoint.mono _ _ _
   | exact impl_FitsSample.mono _ _ _ _ _
   | exact impl_IsPlane.mono _ _ _
   | exact impl_PlaneTable.mono _ _ _
   | exact impl_TableSample.mono _ _ _
   | exact laws_rInts.mono _ _ _
   | exact laws_rSample.mono _ _ _ _ _
   | exact spec_BitPoint.mono _ _ _
   | exact spec_DrawPlaneTable.mono _ _
   | exact spec_DrawTableSample.mono _ _
   | exact spec_PlaneTable.mono _ _ _
   | exact spec_TableSample.mono _ _ _
   | exact LeO.none _
   | refine LeO.ite ?_ ?_
   | refine LeO.bind ?_ (fun _ => ?_)
  ·
   intro y0 y1 y2 y3 y4 y5 y6 y7 y8 y9 y10 y11
   unfold laws_FnBits.j2
   repeat' first
   | (with_reducible exact ih0 _ _ _ _ _ _)
   | (with_reducible exact ih1 _ _ _ _ _ _ _ _ _ _)
   | (with_reducible exact ih2 _ _ _ _ _ _ _ _ _ _ _ _)
   | (with_reducible exact ih3 _ _ _ _ _ _ _ _)
   | (with_reducible exact ih4 _ _ _ _)
   | (with_reducible exact ih5 _ _ _ _ _ _ _ _)
   | (with_reducible exact ih6 _ _ _ _ _ _ _ _ _ _ _ _)
   | (with_reducible exact impl_BitPoint.mono _ _ _)
   | (with_reducible exact impl_FitsSample.mono _ _ _ _ _)
   | (with_reducible exact impl_IsPlane.mono _ _ _)
   | (with_reducible exact impl_PlaneTable.mono _ _ _)
   | (with_reducible exact impl_TableSample.mono _ _ _)
   | (with_reducible exact laws_rInts.mono _ _ _)
   | (with_reducible exact laws_rSample.mono _ _ _ _ _)
   | (with_reducible exact spec_BitPoint.mono _ _ _)
   | (with_reducible exact spec_DrawPlaneTable.mono _ _)
   | (with_reducible exact spec_DrawTableSample.mono _ _)
   | (with_reducible exact spec_PlaneTable.mono _ _ _)
   | (with_reducible exact spec_TableSample.mono _ _ _)
   | (with_reducible exact LeO.refl _)
   | (with_reducible exact LeO.none _)
   | (with_reducible refine LeO.ite ?_ ?_)
   | (with_reducible refine LeO.bind ?_ (fun _ => ?_))
   | exact ih0 _ _ _ _ _ _
   | exact ih1 _ _ _ _ _ _ _ _ _ _
   | exact ih2 _ _ _ _ _ _ _ _ _ _ _ _
   | exact ih3 _ _ _ _ _ _ _ _
   | exact ih4 _ _ _ _
   | exact ih5 _ _ _ _ _ _ _ _
   | exact ih6 _ _ _ _ _ _ _ _ _ _ _ _
   | exact impl_BitPoint.mono _ _ _
   | exact impl_FitsSample.mono _ _ _ _ _
   | exact impl_IsPlane.mono _ _ _
   | exact impl_PlaneTable.mono _ _ _
   | exact impl_TableSample.mono _ _ _
   | exact laws_rInts.mono _ _ _
   | exact laws_rSample.mono _ _ _ _ _
   | exact spec_BitPoint.mono _ _ _
   | exact spec_DrawPlaneTable.mono _ _
   | exact spec_DrawTableSample.mono _ _
   | exact spec_PlaneTable.mono _ _ _
   | exact spec_TableSample.mono _ _ _
   | exact LeO.none _
   | refine LeO.ite ?_ ?_
   | refine LeO.bind ?_ (fun _ => ?_)
  ·
   intro y0 y1 y2 y3 y4 y5 y6 y7
   unfold laws_FnBits.j4
   repeat' first
   | (with_reducible exact ih0 _ _ _ _ _ _)
   | (with_reducible exact ih1 _ _ _ _ _ _ _ _ _ _)
   | (with_reducible exact ih2 _ _ _ _ _ _ _ _ _ _ _ _)
   | (with_reducible exact ih3 _ _ _ _ _ _ _ _)
   | (with_reducible exact ih4 _ _ _ _)
   | (with_reducible exact ih5 _ _ _ _ _ _ _ _)
   | (with_reducible exact ih6 _ _ _ _ _ _ _ _ _ _ _ _)
   | (with_reducible exact impl_BitPoint.mono _ _ _)
   | (with_reducible exact impl_FitsSample.mono _ _ _ _ _)
   | (with_reducible exact impl_IsPlane.mono _ _ _)
   | (with_reducible exact impl_PlaneTable.mono _ _ _)
   | (with_reducible exact impl_TableSample.mono _ _ _)
   | (with_reducible exact laws_rInts.mono _ _ _)
   | (with_reducible exact laws_rSample.mono _ _ _ _ _)
   | (with_reducible exact spec_BitPoint.mono _ _ _)
   | (with_reducible exact spec_DrawPlaneTable.mono _ _)
   | (with_reducible exact spec_DrawTableSample.mono _ _)
   | (with_reducible exact spec_PlaneTable.mono _ _ _)
   | (with_reducible exact spec_TableSample.mono _ _ _)
   | (with_reducible exact LeO.refl _)
   | (with_reducible exact LeO.none _)
   | (with_reducible refine LeO.ite ?_ ?_)
   | (with_reducible refine LeO.bind ?_ (fun _ => ?_))
   | exact ih0 _ _ _ _ _ _
   | exact ih1 _ _ _ _ _ _ _ _ _ _
   | exact ih2 _ _ _ _ _ _ _ _ _ _ _ _
   | exact ih3 _ _ _ _ _ _ _ _
   | exact ih4 _ _ _ _
   | exact ih5 _ _ _ _ _ _ _ _
   | exact ih6 _ _ _ _ _ _ _ _ _ _ _ _
   | exact impl_BitPoint.mono _ _ _
   | exact impl_FitsSample.mono _ _ _ _ _
   | exact impl_IsPlane.mono _ _ _
   | exact impl_PlaneTable.mono _ _ _
   | exact impl_TableSample.mono _ _ _
   | exact laws_rInts.mono _ _ _
   | exact laws_rSample.mono _ _ _ _ _
   | exact spec_BitPoint.mono _ _ _
   | exact spec_DrawPlaneTable.mono _ _
   | exact spec_DrawTableSample.mono _ _
   | exact spec_PlaneTable.mono _ _ _
   | exact spec_TableSample.mono _ _ _
   | exact LeO.none _
   | refine LeO.ite ?_ ?_
   | refine LeO.bind ?_ (fun _ => ?_)
  ·
   intro y0 y1 y2 y3
   unfold laws_FnBits.j6
   repeat' first
   | (with_reducible exact ih0 _ _ _ _ _ _)
   | (with_reducible exact ih1 _ _ _ _ _ _ _ _ _ _)
   | (with_reducible exact ih2 _ _ _ _ _ _ _ _ _ _ _ _)
   | (with_reducible exact ih3 _ _ _ _ _ _ _ _)
   | (with_reducible exact ih4 _ _ _ _)
   | (with_reducible exact ih5 _ _ _ _ _ _ _ _)
   | (with_reducible exact ih6 _ _ _ _ _ _ _ _ _ _ _ _)
   | (with_reducible exact impl_BitPoint.mono _ _ _)
   | (with_reducible exact impl_FitsSample.mono _ _ _ _ _)
   | (with_reducible exact impl_IsPlane.mono _ _ _)
   | (with_reducible exact impl_PlaneTable.mono _ _ _)
   | (with_reducible exact impl_TableSample.mono _ _ _)
   | (with_reducible exact laws_rInts.mono _ _ _)
   | (with_reducible exact laws_rSample.mono _ _ _ _ _)
   | (with_reducible exact spec_BitPoint.mono _ _ _)
   | (with_reducible exact spec_DrawPlaneTable.mono _ _)
   | (with_reducible exact spec_DrawTableSample.mono _ _)
   | (with_reducible exact spec_PlaneTable.mono _ _ _)
   | (with_reducible exact spec_TableSample.mono _ _ _)
   | (with_reducible exact LeO.refl _)
   | (with_reducible exact LeO.none _)
   | (with_reducible refine LeO.ite ?_ ?_)
   | (with_reducible refine LeO.bind ?_ (fun _ => ?_))
   | exact ih0 _ _ _ _ _ _
   | exact ih1 _ _ _ _ _ _ _ _ _ _
   | exact ih2 _ _ _ _ _ _ _ _ _ _ _ _
   | exact ih3 _ _ _ _ _ _ _ _
   | exact ih4 _ _ _ _
   | exact ih5 _ _ _ _ _ _ _ _
   | exact ih6 _ _ _ _ _ _ _ _ _ _ _ _
   | exact impl_BitPoint.mono _ _ _
   | exact impl_FitsSample.mono _ _ _ _ _
   | exact impl_IsPlane.mono _ _ _
   | exact impl_PlaneTable.mono _ _ _
   | exact impl_TableSample.mono _ _ _
   | exact laws_rInts.mono _ _ _
   | exact laws_rSample.mono _ _ _ _ _
   | exact spec_BitPoint.mono _ _ _
   | exact spec_DrawPlaneTable.mono _ _
   | exact spec_DrawTableSample.mono _ _
   | exact spec_PlaneTable.mono _ _ _
   | exact spec_TableSample.mono _ _ _
   | exact LeO.none _
   | refine LeO.ite ?_ ?_
   | refine LeO.bind ?_ (fun _ => ?_)
  ·
   intro y0 y1 y2 y3 y4 y5 y6 y7
   unfold laws_FnBits.l1
   repeat' first
   | (with_reducible exact ih0 _ _ _ _ _ _)
   | (with_reducible exact ih1 _ _ _ _ _ _ _ _ _ _)
   | (with_reducible exact ih2 _ _ _ _ _ _ _ _ _ _ _ _)
   | (with_reducible exact ih3 _ _ _ _ _ _ _ _)
   | (with_reducible exact ih4 _ _ _ _)
   | (with_reducible exact ih5 _ _ _ _ _ _ _ _)
   | (with_reducible exact ih6 _ _ _ _ _ _ _ _ _ _ _ _)
   | (with_reducible exact impl_BitPoint.mono _ _ _)
   | (with_reducible exact impl_FitsSample.mono _ _ _ _ _)
   | (with_reducible exact impl_IsPlane.mono _ _ _)
   | (with_reducible exact impl_PlaneTable.mono _ _ _)
   | (with_reducible exact impl_TableSample.mono _ _ _)
   | (with_reducible exact laws_rInts.mono _ _ _)
   | (with_reducible exact laws_rSample.mono _ _ _ _ _)
   | (with_reducible exact spec_BitPoint.mono _ _ _)
   | (with_reducible exact spec_DrawPlaneTable.mono _ _)
   | (with_reducible exact spec_DrawTableSample.mono _ _)
   | (with_reducible exact spec_PlaneTable.mono _ _ _)
   | (with_reducible exact spec_TableSample.mono _ _ _)
   | (with_reducible exact LeO.refl _)
   | (with_reducible exact LeO.none _)
   | (with_reducible refine LeO.ite ?_ ?_)
   | (with_reducible refine LeO.bind ?_ (fun _ => ?_))
   | exact ih0 _ _ _ _ _ _
   | exact ih1 _ _ _ _ _ _ _ _ _ _
   | exact ih2 _ _ _ _ _ _ _ _ _ _ _ _
   | exact ih3 _ _ _ _ _ _ _ _
   | exact ih4 _ _ _ _
   | exact ih5 _ _ _ _ _ _ _ _
   | exact ih6 _ _ _ _ _ _ _ _ _ _ _ _
   | exact impl_BitPoint.mono _ _ _
   | exact impl_FitsSample.mono _ _ _ _ _
   | exact impl_IsPlane.mono _ _ _
   | exact impl_PlaneTable.mono _ _ _
   | exact impl_TableSample.mono _ _ _
   | exact laws_rInts.mono _ _ _
   | exact laws_rSample.mono _ _ _ _ _
   | exact spec_BitPoint.mono _ _ _
   | exact spec_DrawPlaneTable.mono _ _
   | exact spec_DrawTableSample.mono _ _
   | exact spec_PlaneTable.mono _ _ _
   | exact spec_TableSample.mono _ _ _
   | exact LeO.none _
   | refine LeO.ite ?_ ?_
   | refine LeO.bind ?_ (fun _ => ?_)
  ·
   intro y0 y1 y2 y3 y4 y5 y6 y7 y8 y9 y10 y11
   unfold laws_FnBits.l0
   repeat' first
   | (with_reducible exact ih0 _ _ _ _ _ _)
   | (with_reducible exact ih1 _ _ _ _ _ _ _ _ _ _)
   | (with_reducible exact ih2 _ _ _ _ _ _ _ _ _ _ _ _)
   | (with_reducible exact ih3 _ _ _ _ _ _ _ _)
   | (with_reducible exact ih4 _ _ _ _)
   | (with_reducible exact ih5 _ _ _ _ _ _ _ _)
   | (with_reducible exact ih6 _ _ _ _ _ _ _ _ _ _ _ _)
   | (with_reducible exact impl_BitPoint.mono _ _ _)
   | (with_reducible exact impl_FitsSample.mono _ _ _ _ _)
   | (with_reducible exact impl_IsPlane.mono _ _ _)
   | (with_reducible exact impl_PlaneTable.mono _ _ _)
   | (with_reducible exact impl_TableSample.mono _ _ _)
   | (with_reducible exact laws_rInts.mono _ _ _)
   | (with_reducible exact laws_rSample.mono _ _ _ _ _)
   | (with_reducible exact spec_BitPoint.mono _ _ _)
   | (with_reducible exact spec_DrawPlaneTable.mono _ _)
   | (with_reducible exact spec_DrawTableSample.mono _ _)
   | (with_reducible exact spec_PlaneTable.mono _ _ _)
   | (with_reducible exact spec_TableSample.mono _ _ _)
   | (with_reducible exact LeO.refl _)
   | (with_reducible exact LeO.none _)
   | (with_reducible refine LeO.ite ?_ ?_)
   | (with_reducible refine LeO.bind ?_ (fun _ => ?_))
   | exact ih0 _ _ _ _ _ _
   | exact ih1 _ _ _ _ _ _ _ _ _ _
   | exact ih2 _ _ _ _ _ _ _ _ _ _ _ _
   | exact ih3 _ _ _ _ _ _ _ _
   | exact ih4 _ _ _ _
   | exact ih5 _ _ _ _ _ _ _ _
   | exact ih6 _ _ _ _ _ _ _ _ _ _ _ _
   | exact impl_BitPoint.mono _ _ _
   | exact impl_FitsSample.mono _ _ _ _ _
   | exact impl_IsPlane.mono _ _ _
   | exact impl_PlaneTable.mono _ _ _
   | exact impl_TableSample.mono _ _ _
   | exact laws_rInts.mono _ _ _
   | exact laws_rSample.mono _ _ _ _ _
   | exact spec_BitPoint.mono _ _ _
   | exact spec_DrawPlaneTable.mono _ _
   | exact spec_DrawTableSample.mono _ _
   | exact spec_PlaneTable.mono _ _ _
   | exact spec_TableSample.mono _ _ _
   | exact LeO.none _
   | refine LeO.ite ?_ ?_
   | refine LeO.bind ?_ (fun _ => ?_)
theorem laws_FnBits.mono : ∀ a0 k, LeO (laws_FnBits.f k a0) (laws_FnBits.f (k + 1) a0) := by
 intro a0 k
 obtain ⟨ih0, ih1, ih2, ih3, ih4, ih5, ih6⟩ := laws_FnBits.mono_l k
 unfold laws_FnBits.f
 repeat' first
   | (with_reducible exact ih0 _ _ _ _ _ _)
   | (with_reducible exact ih1 _ _ _ _ _ _ _ _ _ _)
   | (with_reducible exact ih2 _ _ _ _ _ _ _ _ _ _ _ _)
   | (with_reducible exact ih3 _ _ _ _ _ _ _ _)
   | (with_reducible exact ih4 _ _ _ _)
   | (with_reducible exact ih5 _ _ _ _ _ _ _ _)
   | (with_reducible exact ih6 _ _ _ _ _ _ _ _ _ _ _ _)
   | (with_reducible exact impl_BitPoint.mono _ _ _)
   | (with_reducible exact impl_FitsSample.mono _ _ _ _ _)
   | (with_reducible exact impl_IsPlane.mono _ _ _)
   | (with_reducible exact impl_PlaneTable.mono _ _ _)
   | (with_reducible exact impl_TableSample.mono _ _ _)
   | (with_reducible exact laws_rInts.mono _ _ _)
   | (with_reducible exact laws_rSample.mono _ _ _ _ _)
   | (with_reducible exact spec_BitPoint.mono _ _ _)
   | (with_reducible exact spec_DrawPlaneTable.mono _ _)
   | (with_reducible exact spec_DrawTableSample.mono _ _)
   | (with_reducible exact spec_PlaneTable.mono _ _ _)
   | (with_reducible exact spec_TableSample.mono _ _ _)
   | (with_reducible exact LeO.refl _)
   | (with_reducible exact LeO.none _)
   | (with_reducible refine LeO.ite ?_ ?_)
   | (with_reducible refine LeO.bind ?_ (fun _ => ?_))
   | exact ih0 _ _ _ _ _ _
   | exact ih1 _ _ _ _ _ _ _ _ _ _
   | exact ih2 _ _ _ _ _ _ _ _ _ _ _ _
   | exact ih3 _ _ _ _ _ _ _ _
   | exact ih4 _ _ _ _
   | exact ih5 _ _ _ _ _ _ _ _
   | exact ih6 _ _ _ _ _ _ _ _ _ _ _ _
   | exact impl_BitPoint.mono _ _ _
   | exact impl_FitsSample.mono _ _ _ _ _
   | exact impl_IsPlane.mono _ _ _
   | exact impl_PlaneTable.mono _ _ _
   | exact impl_TableSample.mono _ _ _
   | exact laws_rInts.mono _ _ _
   | exact laws_rSample.mono _ _ _ _ _
   | exact spec_BitPoint.mono _ _ _
   | exact spec_DrawPlaneTable.mono _ _
   | exact spec_DrawTableSample.mono _ _
   | exact spec_PlaneTable.mono _ _ _
   | exact spec_TableSample.mono _ _ _
   | exact LeO.none _
   | refine LeO.ite ?_ ?_
   | refine LeO.bind ?_ (fun _ => ?_)
def laws_FnBits.Pure : Prop := ∀ (l0 : List Int), l0.length ≤ maxLen → l0.length * 1 ≤ 140737488351232 → (∀ x ∈ l0, (Lit.int .u8 x).wf = true) → ∃ k, laws_FnBits.f k l0 = some true
end Go.Proofs.Ytkgekmpnbhomgaa.PFnBits
