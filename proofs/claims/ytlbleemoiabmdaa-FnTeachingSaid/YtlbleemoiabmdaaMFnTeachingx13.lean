-- Laid for this claim by a program of the session's own (wip/tool/myprint.py).
import Derived.Test.YtlbleemoiabmdaaMFnTeachingx12
import Derived.Test.YtlbleemoiabmdaaMFnTeachingx12
import Derived.Test.YtlbleemoiabmdaaMFnTeachingx12
import Derived.Test.YtlbleemoiabmdaaMFnTeachingx12
import Derived.Test.YtlbleemoiabmdaaMFnTeachingx12
import Derived.Test.YtlbleemoiabmdaaMFnTeachingx12
import Derived.Test.YtlbleemoiabmdaaMFnTeachingx12
import Derived.Test.YtlbleemoiabmdaaMFnTeachingx12
namespace Go.Proofs.Ytlbleemoiabmdaa.PFnTeaching
open Go.RowKit Go.Proofs.YtlbleemoiabmdaaW.PrintWords Go.Proofs.YtlbleemoiabmdaaW.PrintLast Go.Proofs.YtlbleemoiabmdaaW.PrintMore
attribute [local go_sem] max2_int min2_int max_two min_two max_three min_three max_four min_four
set_option linter.unusedVariables false
set_option linter.unusedSimpArgs false
set_option maxHeartbeats 8000000 in
set_option maxRecDepth 100000 in
theorem laws_FnTeaching.calls (k : Nat) (A0 : Option Addr) (c0 : Nat) (l0 : List Int) (r : Bool) (w : World) (hr0 : Kd.C (Kd.int .u8) w A0 l0.length l0) (hc0 : l0.length ≤ c0) (h : laws_FnTeaching.f k l0 = some r) :
  Calls Try.prog 3 #[.slice A0 l0.length c0] w fun e w' => e = .returned (.bool r) ∧ Below w.heap.size w w' := by
 have HR0 := aM hr0
 have HC0 := aM hc0
 clear hr0 hc0
 have HB := aM (Below.refl w.heap.size w)
 have H : ((laws_vBig.f l0).bind fun t441 => (if t441 = true then (some true) else ((spec_DrawTeachingSet.f k l0).bind fun bt442 => ((impl_TeachingSet.f k bt442.1 bt442.2).bind fun bt446 => ((spec_TeachingSet.f k bt442.1 bt442.2).bind fun bt450 => ((impl_TeachingNumber.f k bt442.1).bind fun bt454 => ((spec_TeachingNumber.f k bt442.1).bind fun bt456 => ((laws_vCut.f l0 1).bind fun t458 => ((spec_DrawVersionOf.f k t458).bind fun bt461 => ((impl_VersionOf.f k bt461.1 bt461.2.1 bt461.2.2).bind fun bt470 => ((spec_VersionOf.f k bt461.1 bt461.2.1 bt461.2.2).bind fun bt474 => (if (bt446.2 != bt450.2) = true then (laws_FnTeaching.j0 k bt442.1 bt442.2 bt446.1 bt446.2 bt454.1 bt454.2 bt461.1 bt461.2.1 bt461.2.2 bt470.1 bt470.2 true) else ((laws_vInts.f k bt446.1 bt450.1).bind fun t478 => (if t478 = true then (if bt454.1 = bt456.1 then (if (bt454.2 != bt456.2) = true then (laws_FnTeaching.j0 k bt442.1 bt442.2 bt446.1 bt446.2 bt454.1 bt454.2 bt461.1 bt461.2.1 bt461.2.2 bt470.1 bt470.2 true) else (if (bt470.2 != bt474.2) = true then (laws_FnTeaching.j0 k bt442.1 bt442.2 bt446.1 bt446.2 bt454.1 bt454.2 bt461.1 bt461.2.1 bt461.2.2 bt470.1 bt470.2 true) else ((laws_vInts.f k bt470.1 bt474.1).bind fun t479 => (laws_FnTeaching.j0 k bt442.1 bt442.2 bt446.1 bt446.2 bt454.1 bt454.2 bt461.1 bt461.2.1 bt461.2.2 bt470.1 bt470.2 (!t479))))) else (laws_FnTeaching.j0 k bt442.1 bt442.2 bt446.1 bt446.2 bt454.1 bt454.2 bt461.1 bt461.2.1 bt461.2.2 bt470.1 bt470.2 true)) else (laws_FnTeaching.j0 k bt442.1 bt442.2 bt446.1 bt446.2 bt454.1 bt454.2 bt461.1 bt461.2.1 bt461.2.2 bt470.1 bt470.2 true))))))))))))))) = some r := h
 clear h
 replace H := oB.mp H
 obtain ⟨t441, A20, H⟩ := H
 replace H : (if t441 = true then (some true) else ((spec_DrawTeachingSet.f k l0).bind fun bt442 => ((impl_TeachingSet.f k bt442.1 bt442.2).bind fun bt446 => ((spec_TeachingSet.f k bt442.1 bt442.2).bind fun bt450 => ((impl_TeachingNumber.f k bt442.1).bind fun bt454 => ((spec_TeachingNumber.f k bt442.1).bind fun bt456 => ((laws_vCut.f l0 1).bind fun t458 => ((spec_DrawVersionOf.f k t458).bind fun bt461 => ((impl_VersionOf.f k bt461.1 bt461.2.1 bt461.2.2).bind fun bt470 => ((spec_VersionOf.f k bt461.1 bt461.2.1 bt461.2.2).bind fun bt474 => (if (bt446.2 != bt450.2) = true then (laws_FnTeaching.j0 k bt442.1 bt442.2 bt446.1 bt446.2 bt454.1 bt454.2 bt461.1 bt461.2.1 bt461.2.2 bt470.1 bt470.2 true) else ((laws_vInts.f k bt446.1 bt450.1).bind fun t478 => (if t478 = true then (if bt454.1 = bt456.1 then (if (bt454.2 != bt456.2) = true then (laws_FnTeaching.j0 k bt442.1 bt442.2 bt446.1 bt446.2 bt454.1 bt454.2 bt461.1 bt461.2.1 bt461.2.2 bt470.1 bt470.2 true) else (if (bt470.2 != bt474.2) = true then (laws_FnTeaching.j0 k bt442.1 bt442.2 bt446.1 bt446.2 bt454.1 bt454.2 bt461.1 bt461.2.1 bt461.2.2 bt470.1 bt470.2 true) else ((laws_vInts.f k bt470.1 bt474.1).bind fun t479 => (laws_FnTeaching.j0 k bt442.1 bt442.2 bt446.1 bt446.2 bt454.1 bt454.2 bt461.1 bt461.2.1 bt461.2.2 bt470.1 bt470.2 (!t479))))) else (laws_FnTeaching.j0 k bt442.1 bt442.2 bt446.1 bt446.2 bt454.1 bt454.2 bt461.1 bt461.2.1 bt461.2.2 bt470.1 bt470.2 true)) else (laws_FnTeaching.j0 k bt442.1 bt442.2 bt446.1 bt446.2 bt454.1 bt454.2 bt461.1 bt461.2.1 bt461.2.2 bt470.1 bt470.2 true)))))))))))))) = some r := H
 have A2 := aM A20
 clear A20
 by_cases c3 : t441 = true
 ·
  subst c3
  have H1 : (some true) = some r := by rw [if_pos rfl] at H; exact H
  clear H
  have H := H1
  clear H1
  obtain rfl := Option.some.inj H
  go_enter Try.func3, Try.ntmps3
  go_wp2_with (first | ((with_reducible refine gate_callee (f := 8) rfl ?_); refine goesL_ (some 33) rfl rfl Try.func8 (by kernel_rfl) rfl #[.slice A0 l0.length c0] rfl (by (try simp only [List.map_toArray, List.map_cons, List.map_nil]); first | done | rfl | (simp only [List.length_drop, List.length_take]; rfl)) ?_; (with_reducible refine (laws_vBig.calls _ _ l0 true _ ?side1 ?side2 A2.out).mono ?_); (case side1 => repeat (first | exact HR0.out | (with_reducible refine Kd.C_alloc ?_ _) | (with_reducible refine Kd.C_drewN ?_ _) | (with_reducible refine Kd.C_drew ?_))); (case side2 => exact HC0.out); rintro e w' ⟨rfl, ⟨nd, rfl⟩⟩; refine ⟨_, rfl, ?_⟩))
  go_ret
  exact ⟨by first | rfl | (simp [errW_none, errW_some] <;> rfl) | (simp [*, errW_none, errW_some] <;> rfl), by repeat (first | (with_reducible first | exact HB.out | apply eA | apply eN | apply eD) | exact HB.out)⟩
 ·
  replace c3 := Bool.eq_false_iff.mpr c3
  subst c3
  have H1 : ((spec_DrawTeachingSet.f k l0).bind fun bt442 => ((impl_TeachingSet.f k bt442.1 bt442.2).bind fun bt446 => ((spec_TeachingSet.f k bt442.1 bt442.2).bind fun bt450 => ((impl_TeachingNumber.f k bt442.1).bind fun bt454 => ((spec_TeachingNumber.f k bt442.1).bind fun bt456 => ((laws_vCut.f l0 1).bind fun t458 => ((spec_DrawVersionOf.f k t458).bind fun bt461 => ((impl_VersionOf.f k bt461.1 bt461.2.1 bt461.2.2).bind fun bt470 => ((spec_VersionOf.f k bt461.1 bt461.2.1 bt461.2.2).bind fun bt474 => (if (bt446.2 != bt450.2) = true then (laws_FnTeaching.j0 k bt442.1 bt442.2 bt446.1 bt446.2 bt454.1 bt454.2 bt461.1 bt461.2.1 bt461.2.2 bt470.1 bt470.2 true) else ((laws_vInts.f k bt446.1 bt450.1).bind fun t478 => (if t478 = true then (if bt454.1 = bt456.1 then (if (bt454.2 != bt456.2) = true then (laws_FnTeaching.j0 k bt442.1 bt442.2 bt446.1 bt446.2 bt454.1 bt454.2 bt461.1 bt461.2.1 bt461.2.2 bt470.1 bt470.2 true) else (if (bt470.2 != bt474.2) = true then (laws_FnTeaching.j0 k bt442.1 bt442.2 bt446.1 bt446.2 bt454.1 bt454.2 bt461.1 bt461.2.1 bt461.2.2 bt470.1 bt470.2 true) else ((laws_vInts.f k bt470.1 bt474.1).bind fun t479 => (laws_FnTeaching.j0 k bt442.1 bt442.2 bt446.1 bt446.2 bt454.1 bt454.2 bt461.1 bt461.2.1 bt461.2.2 bt470.1 bt470.2 (!t479))))) else (laws_FnTeaching.j0 k bt442.1 bt442.2 bt446.1 bt446.2 bt454.1 bt454.2 bt461.1 bt461.2.1 bt461.2.2 bt470.1 bt470.2 true)) else (laws_FnTeaching.j0 k bt442.1 bt442.2 bt446.1 bt446.2 bt454.1 bt454.2 bt461.1 bt461.2.1 bt461.2.2 bt470.1 bt470.2 true))))))))))))) = some r := by rw [if_neg (show ¬ (false = true) by decide)] at H; exact H
  clear H
  have H := H1
  clear H1
  replace H := oB.mp H
  obtain ⟨⟨t442, t445⟩, A40, H⟩ := H
  replace H : ((impl_TeachingSet.f k t442 t445).bind fun bt446 => ((spec_TeachingSet.f k t442 t445).bind fun bt450 => ((impl_TeachingNumber.f k t442).bind fun bt454 => ((spec_TeachingNumber.f k t442).bind fun bt456 => ((laws_vCut.f l0 1).bind fun t458 => ((spec_DrawVersionOf.f k t458).bind fun bt461 => ((impl_VersionOf.f k bt461.1 bt461.2.1 bt461.2.2).bind fun bt470 => ((spec_VersionOf.f k bt461.1 bt461.2.1 bt461.2.2).bind fun bt474 => (if (bt446.2 != bt450.2) = true then (laws_FnTeaching.j0 k t442 t445 bt446.1 bt446.2 bt454.1 bt454.2 bt461.1 bt461.2.1 bt461.2.2 bt470.1 bt470.2 true) else ((laws_vInts.f k bt446.1 bt450.1).bind fun t478 => (if t478 = true then (if bt454.1 = bt456.1 then (if (bt454.2 != bt456.2) = true then (laws_FnTeaching.j0 k t442 t445 bt446.1 bt446.2 bt454.1 bt454.2 bt461.1 bt461.2.1 bt461.2.2 bt470.1 bt470.2 true) else (if (bt470.2 != bt474.2) = true then (laws_FnTeaching.j0 k t442 t445 bt446.1 bt446.2 bt454.1 bt454.2 bt461.1 bt461.2.1 bt461.2.2 bt470.1 bt470.2 true) else ((laws_vInts.f k bt470.1 bt474.1).bind fun t479 => (laws_FnTeaching.j0 k t442 t445 bt446.1 bt446.2 bt454.1 bt454.2 bt461.1 bt461.2.1 bt461.2.2 bt470.1 bt470.2 (!t479))))) else (laws_FnTeaching.j0 k t442 t445 bt446.1 bt446.2 bt454.1 bt454.2 bt461.1 bt461.2.1 bt461.2.2 bt470.1 bt470.2 true)) else (laws_FnTeaching.j0 k t442 t445 bt446.1 bt446.2 bt454.1 bt454.2 bt461.1 bt461.2.1 bt461.2.2 bt470.1 bt470.2 true)))))))))))) = some r := H
  have A4 := aM A40
  clear A40
  replace H := oB.mp H
  obtain ⟨⟨t446, t447⟩, A50, H⟩ := H
  replace H : ((spec_TeachingSet.f k t442 t445).bind fun bt450 => ((impl_TeachingNumber.f k t442).bind fun bt454 => ((spec_TeachingNumber.f k t442).bind fun bt456 => ((laws_vCut.f l0 1).bind fun t458 => ((spec_DrawVersionOf.f k t458).bind fun bt461 => ((impl_VersionOf.f k bt461.1 bt461.2.1 bt461.2.2).bind fun bt470 => ((spec_VersionOf.f k bt461.1 bt461.2.1 bt461.2.2).bind fun bt474 => (if (t447 != bt450.2) = true then (laws_FnTeaching.j0 k t442 t445 t446 t447 bt454.1 bt454.2 bt461.1 bt461.2.1 bt461.2.2 bt470.1 bt470.2 true) else ((laws_vInts.f k t446 bt450.1).bind fun t478 => (if t478 = true then (if bt454.1 = bt456.1 then (if (bt454.2 != bt456.2) = true then (laws_FnTeaching.j0 k t442 t445 t446 t447 bt454.1 bt454.2 bt461.1 bt461.2.1 bt461.2.2 bt470.1 bt470.2 true) else (if (bt470.2 != bt474.2) = true then (laws_FnTeaching.j0 k t442 t445 t446 t447 bt454.1 bt454.2 bt461.1 bt461.2.1 bt461.2.2 bt470.1 bt470.2 true) else ((laws_vInts.f k bt470.1 bt474.1).bind fun t479 => (laws_FnTeaching.j0 k t442 t445 t446 t447 bt454.1 bt454.2 bt461.1 bt461.2.1 bt461.2.2 bt470.1 bt470.2 (!t479))))) else (laws_FnTeaching.j0 k t442 t445 t446 t447 bt454.1 bt454.2 bt461.1 bt461.2.1 bt461.2.2 bt470.1 bt470.2 true)) else (laws_FnTeaching.j0 k t442 t445 t446 t447 bt454.1 bt454.2 bt461.1 bt461.2.1 bt461.2.2 bt470.1 bt470.2 true))))))))))) = some r := H
  have A5 := aM A50
  clear A50
  replace H := oB.mp H
  obtain ⟨⟨t450, t451⟩, A60, H⟩ := H
  replace H : ((impl_TeachingNumber.f k t442).bind fun bt454 => ((spec_TeachingNumber.f k t442).bind fun bt456 => ((laws_vCut.f l0 1).bind fun t458 => ((spec_DrawVersionOf.f k t458).bind fun bt461 => ((impl_VersionOf.f k bt461.1 bt461.2.1 bt461.2.2).bind fun bt470 => ((spec_VersionOf.f k bt461.1 bt461.2.1 bt461.2.2).bind fun bt474 => (if (t447 != t451) = true then (laws_FnTeaching.j0 k t442 t445 t446 t447 bt454.1 bt454.2 bt461.1 bt461.2.1 bt461.2.2 bt470.1 bt470.2 true) else ((laws_vInts.f k t446 t450).bind fun t478 => (if t478 = true then (if bt454.1 = bt456.1 then (if (bt454.2 != bt456.2) = true then (laws_FnTeaching.j0 k t442 t445 t446 t447 bt454.1 bt454.2 bt461.1 bt461.2.1 bt461.2.2 bt470.1 bt470.2 true) else (if (bt470.2 != bt474.2) = true then (laws_FnTeaching.j0 k t442 t445 t446 t447 bt454.1 bt454.2 bt461.1 bt461.2.1 bt461.2.2 bt470.1 bt470.2 true) else ((laws_vInts.f k bt470.1 bt474.1).bind fun t479 => (laws_FnTeaching.j0 k t442 t445 t446 t447 bt454.1 bt454.2 bt461.1 bt461.2.1 bt461.2.2 bt470.1 bt470.2 (!t479))))) else (laws_FnTeaching.j0 k t442 t445 t446 t447 bt454.1 bt454.2 bt461.1 bt461.2.1 bt461.2.2 bt470.1 bt470.2 true)) else (laws_FnTeaching.j0 k t442 t445 t446 t447 bt454.1 bt454.2 bt461.1 bt461.2.1 bt461.2.2 bt470.1 bt470.2 true)))))))))) = some r := H
  have A6 := aM A60
  clear A60
  replace H := oB.mp H
  obtain ⟨⟨t454, t455⟩, A70, H⟩ := H
  replace H : ((spec_TeachingNumber.f k t442).bind fun bt456 => ((laws_vCut.f l0 1).bind fun t458 => ((spec_DrawVersionOf.f k t458).bind fun bt461 => ((impl_VersionOf.f k bt461.1 bt461.2.1 bt461.2.2).bind fun bt470 => ((spec_VersionOf.f k bt461.1 bt461.2.1 bt461.2.2).bind fun bt474 => (if (t447 != t451) = true then (laws_FnTeaching.j0 k t442 t445 t446 t447 t454 t455 bt461.1 bt461.2.1 bt461.2.2 bt470.1 bt470.2 true) else ((laws_vInts.f k t446 t450).bind fun t478 => (if t478 = true then (if t454 = bt456.1 then (if (t455 != bt456.2) = true then (laws_FnTeaching.j0 k t442 t445 t446 t447 t454 t455 bt461.1 bt461.2.1 bt461.2.2 bt470.1 bt470.2 true) else (if (bt470.2 != bt474.2) = true then (laws_FnTeaching.j0 k t442 t445 t446 t447 t454 t455 bt461.1 bt461.2.1 bt461.2.2 bt470.1 bt470.2 true) else ((laws_vInts.f k bt470.1 bt474.1).bind fun t479 => (laws_FnTeaching.j0 k t442 t445 t446 t447 t454 t455 bt461.1 bt461.2.1 bt461.2.2 bt470.1 bt470.2 (!t479))))) else (laws_FnTeaching.j0 k t442 t445 t446 t447 t454 t455 bt461.1 bt461.2.1 bt461.2.2 bt470.1 bt470.2 true)) else (laws_FnTeaching.j0 k t442 t445 t446 t447 t454 t455 bt461.1 bt461.2.1 bt461.2.2 bt470.1 bt470.2 true))))))))) = some r := H
  have A7 := aM A70
  clear A70
  replace H := oB.mp H
  obtain ⟨⟨t456, t457⟩, A80, H⟩ := H
  replace H : ((laws_vCut.f l0 1).bind fun t458 => ((spec_DrawVersionOf.f k t458).bind fun bt461 => ((impl_VersionOf.f k bt461.1 bt461.2.1 bt461.2.2).bind fun bt470 => ((spec_VersionOf.f k bt461.1 bt461.2.1 bt461.2.2).bind fun bt474 => (if (t447 != t451) = true then (laws_FnTeaching.j0 k t442 t445 t446 t447 t454 t455 bt461.1 bt461.2.1 bt461.2.2 bt470.1 bt470.2 true) else ((laws_vInts.f k t446 t450).bind fun t478 => (if t478 = true then (if t454 = t456 then (if (t455 != t457) = true then (laws_FnTeaching.j0 k t442 t445 t446 t447 t454 t455 bt461.1 bt461.2.1 bt461.2.2 bt470.1 bt470.2 true) else (if (bt470.2 != bt474.2) = true then (laws_FnTeaching.j0 k t442 t445 t446 t447 t454 t455 bt461.1 bt461.2.1 bt461.2.2 bt470.1 bt470.2 true) else ((laws_vInts.f k bt470.1 bt474.1).bind fun t479 => (laws_FnTeaching.j0 k t442 t445 t446 t447 t454 t455 bt461.1 bt461.2.1 bt461.2.2 bt470.1 bt470.2 (!t479))))) else (laws_FnTeaching.j0 k t442 t445 t446 t447 t454 t455 bt461.1 bt461.2.1 bt461.2.2 bt470.1 bt470.2 true)) else (laws_FnTeaching.j0 k t442 t445 t446 t447 t454 t455 bt461.1 bt461.2.1 bt461.2.2 bt470.1 bt470.2 true)))))))) = some r := H
  have A8 := aM A80
  clear A80
  replace H := oB.mp H
  obtain ⟨t458, A90, H⟩ := H
  replace H : ((spec_DrawVersionOf.f k t458).bind fun bt461 => ((impl_VersionOf.f k bt461.1 bt461.2.1 bt461.2.2).bind fun bt470 => ((spec_VersionOf.f k bt461.1 bt461.2.1 bt461.2.2).bind fun bt474 => (if (t447 != t451) = true then (laws_FnTeaching.j0 k t442 t445 t446 t447 t454 t455 bt461.1 bt461.2.1 bt461.2.2 bt470.1 bt470.2 true) else ((laws_vInts.f k t446 t450).bind fun t478 => (if t478 = true then (if t454 = t456 then (if (t455 != t457) = true then (laws_FnTeaching.j0 k t442 t445 t446 t447 t454 t455 bt461.1 bt461.2.1 bt461.2.2 bt470.1 bt470.2 true) else (if (bt470.2 != bt474.2) = true then (laws_FnTeaching.j0 k t442 t445 t446 t447 t454 t455 bt461.1 bt461.2.1 bt461.2.2 bt470.1 bt470.2 true) else ((laws_vInts.f k bt470.1 bt474.1).bind fun t479 => (laws_FnTeaching.j0 k t442 t445 t446 t447 t454 t455 bt461.1 bt461.2.1 bt461.2.2 bt470.1 bt470.2 (!t479))))) else (laws_FnTeaching.j0 k t442 t445 t446 t447 t454 t455 bt461.1 bt461.2.1 bt461.2.2 bt470.1 bt470.2 true)) else (laws_FnTeaching.j0 k t442 t445 t446 t447 t454 t455 bt461.1 bt461.2.1 bt461.2.2 bt470.1 bt470.2 true))))))) = some r := H
  have A9 := aM A90
  clear A90
  replace H := oB.mp H
  obtain ⟨⟨t461, t464, t467⟩, A100, H⟩ := H
  replace H : ((impl_VersionOf.f k t461 t464 t467).bind fun bt470 => ((spec_VersionOf.f k t461 t464 t467).bind fun bt474 => (if (t447 != t451) = true then (laws_FnTeaching.j0 k t442 t445 t446 t447 t454 t455 t461 t464 t467 bt470.1 bt470.2 true) else ((laws_vInts.f k t446 t450).bind fun t478 => (if t478 = true then (if t454 = t456 then (if (t455 != t457) = true then (laws_FnTeaching.j0 k t442 t445 t446 t447 t454 t455 t461 t464 t467 bt470.1 bt470.2 true) else (if (bt470.2 != bt474.2) = true then (laws_FnTeaching.j0 k t442 t445 t446 t447 t454 t455 t461 t464 t467 bt470.1 bt470.2 true) else ((laws_vInts.f k bt470.1 bt474.1).bind fun t479 => (laws_FnTeaching.j0 k t442 t445 t446 t447 t454 t455 t461 t464 t467 bt470.1 bt470.2 (!t479))))) else (laws_FnTeaching.j0 k t442 t445 t446 t447 t454 t455 t461 t464 t467 bt470.1 bt470.2 true)) else (laws_FnTeaching.j0 k t442 t445 t446 t447 t454 t455 t461 t464 t467 bt470.1 bt470.2 true)))))) = some r := H
  have A10 := aM A100
  clear A100
  replace H := oB.mp H
  obtain ⟨⟨t470, t471⟩, A110, H⟩ := H
  replace H : ((spec_VersionOf.f k t461 t464 t467).bind fun bt474 => (if (t447 != t451) = true then (laws_FnTeaching.j0 k t442 t445 t446 t447 t454 t455 t461 t464 t467 t470 t471 true) else ((laws_vInts.f k t446 t450).bind fun t478 => (if t478 = true then (if t454 = t456 then (if (t455 != t457) = true then (laws_FnTeaching.j0 k t442 t445 t446 t447 t454 t455 t461 t464 t467 t470 t471 true) else (if (t471 != bt474.2) = true then (laws_FnTeaching.j0 k t442 t445 t446 t447 t454 t455 t461 t464 t467 t470 t471 true) else ((laws_vInts.f k t470 bt474.1).bind fun t479 => (laws_FnTeaching.j0 k t442 t445 t446 t447 t454 t455 t461 t464 t467 t470 t471 (!t479))))) else (laws_FnTeaching.j0 k t442 t445 t446 t447 t454 t455 t461 t464 t467 t470 t471 true)) else (laws_FnTeaching.j0 k t442 t445 t446 t447 t454 t455 t461 t464 t467 t470 t471 true))))) = some r := H
  have A11 := aM A110
  clear A110
  replace H := oB.mp H
  obtain ⟨⟨t474, t475⟩, A120, H⟩ := H
  replace H : (if (t447 != t451) = true then (laws_FnTeaching.j0 k t442 t445 t446 t447 t454 t455 t461 t464 t467 t470 t471 true) else ((laws_vInts.f k t446 t450).bind fun t478 => (if t478 = true then (if t454 = t456 then (if (t455 != t457) = true then (laws_FnTeaching.j0 k t442 t445 t446 t447 t454 t455 t461 t464 t467 t470 t471 true) else (if (t471 != t475) = true then (laws_FnTeaching.j0 k t442 t445 t446 t447 t454 t455 t461 t464 t467 t470 t471 true) else ((laws_vInts.f k t470 t474).bind fun t479 => (laws_FnTeaching.j0 k t442 t445 t446 t447 t454 t455 t461 t464 t467 t470 t471 (!t479))))) else (laws_FnTeaching.j0 k t442 t445 t446 t447 t454 t455 t461 t464 t467 t470 t471 true)) else (laws_FnTeaching.j0 k t442 t445 t446 t447 t454 t455 t461 t464 t467 t470 t471 true)))) = some r := H
  have A12 := aM A120
  clear A120
  have HC13 := aM H
  clear H
  go_enter Try.func3, Try.ntmps3
  go_upto_region 11 with (first | ((with_reducible refine gate_callee (f := 8) rfl ?_); refine goesL_ (some 33) rfl rfl Try.func8 (by kernel_rfl) rfl #[.slice A0 l0.length c0] rfl (by (try simp only [List.map_toArray, List.map_cons, List.map_nil]); first | done | rfl | (simp only [List.length_drop, List.length_take]; rfl)) ?_; (with_reducible refine (laws_vBig.calls _ _ l0 false _ ?side1 ?side2 A2.out).mono ?_); (case side1 => repeat (first | exact HR0.out | (with_reducible refine Kd.C_alloc ?_ _) | (with_reducible refine Kd.C_drewN ?_ _) | (with_reducible refine Kd.C_drew ?_))); (case side2 => exact HC0.out); rintro e w' ⟨rfl, ⟨nd, rfl⟩⟩; refine ⟨_, rfl, ?_⟩) | ((with_reducible refine gate_callee (f := 9) rfl ?_); refine goesL_ (some 36) rfl rfl Try.func9 (by kernel_rfl) rfl #[.slice A0 l0.length c0] rfl (by (try simp only [List.map_toArray, List.map_cons, List.map_nil]); first | done | rfl | (simp only [List.length_drop, List.length_take]; rfl)) ?_; (with_reducible refine (spec_DrawTeachingSet.calls k _ _ l0 t442 t445 _ ?side1 ?side2 A4.out).mono ?_); (case side1 => repeat (first | exact HR0.out | (with_reducible refine Kd.C_alloc ?_ _) | (with_reducible refine Kd.C_drewN ?_ _) | (with_reducible refine Kd.C_drew ?_))); (case side2 => exact HC0.out); rintro e w14 ⟨v443, rfl, ho0, hb⟩; refine ⟨_, rfl, ?_⟩; have n0_ := aM (Kd.N_lower (Kd.N_mono (ok' := fun k_ => True) ho0 (fun k_ hk_ => trivial)) (below_size (by repeat (first | (with_reducible first | exact HB.out | apply eA | apply eN | apply eD) | exact HB.out)))); have n1_ := aM (below_step (by repeat (first | (with_reducible first | exact HB.out | apply eA | apply eN | apply eD) | exact HB.out)) hb); clear HB; have HO444 := n0_; have HB := n1_; clear n0_ n1_; (try clear hb); (try clear hb2); (try clear hk); (try clear hi); (try clear ho0); obtain ⟨Ao15, co15, eo15⟩ := Kd.N_slice HO444.out; subst eo15) | ((with_reducible refine gate_callee (f := 10) rfl ?_); refine goesL_ (some 42) rfl rfl Try.func10 (by kernel_rfl) rfl #[.slice Ao15 t442.length co15, .int .i64 t445] rfl (by (try simp only [List.map_toArray, List.map_cons, List.map_nil]); first | done | rfl | (simp only [List.length_drop, List.length_take]; rfl)) ?_; (with_reducible refine (impl_TeachingSet.calls k _ _ t442 t445 t446 t447 _ ?side1 ?side2 A5.out).mono ?_); (case side1 => repeat (first | exact (Kd.N_reads' HO444.out).2.2 | (with_reducible refine Kd.C_alloc ?_ _) | (with_reducible refine Kd.C_drewN ?_ _) | (with_reducible refine Kd.C_drew ?_))); (case side2 => exact (Kd.N_reads' HO444.out).2.1); rintro e w16 ⟨v448, rfl, ho0, hb⟩; refine ⟨_, rfl, ?_⟩; have n0_ := aM (Kd.N_elder' (by (with_reducible repeat (first | apply Kd.N_alloc | apply Kd.N_drewN | apply Kd.N_drew)); exact HO444.out) (Kd.R_base ho0) hb); have n1_ := aM (Kd.R_lower ho0 (below_size (by repeat (first | (with_reducible first | exact HB.out | apply eA | apply eN | apply eD) | exact HB.out)))); have n2_ := aM (below_step (by repeat (first | (with_reducible first | exact HB.out | apply eA | apply eN | apply eD) | exact HB.out)) hb); clear HO444; clear HB; have HO444 := n0_; have HO449 := n1_; have HB := n2_; clear n0_ n1_ n2_; (try clear hb); (try clear hb2); (try clear hk); (try clear hi); (try clear ho0)) | ((with_reducible refine gate_callee (f := 11) rfl ?_); refine goesL_ (some 48) rfl rfl Try.func11 (by kernel_rfl) rfl #[.slice Ao15 t442.length co15, .int .i64 t445] rfl (by (try simp only [List.map_toArray, List.map_cons, List.map_nil]); first | done | rfl | (simp only [List.length_drop, List.length_take]; rfl)) ?_; (with_reducible refine (spec_TeachingSet.calls k _ _ t442 t445 t450 t451 _ ?side1 ?side2 A6.out).mono ?_); (case side1 => repeat (first | exact (Kd.N_reads' HO444.out).2.2 | (with_reducible refine Kd.C_alloc ?_ _) | (with_reducible refine Kd.C_drewN ?_ _) | (with_reducible refine Kd.C_drew ?_))); (case side2 => exact (Kd.N_reads' HO444.out).2.1); rintro e w17 ⟨v452, rfl, ho0, hb⟩; refine ⟨_, rfl, ?_⟩; have n0_ := aM (Kd.N_elder' (by (with_reducible repeat (first | apply Kd.N_alloc | apply Kd.N_drewN | apply Kd.N_drew)); exact HO444.out) (Kd.R_base ho0) hb); have n1_ := aM (Kd.R_elder' (by (with_reducible repeat (first | apply rA | apply rN | apply rD)); exact HO449.out) (Kd.R_base ho0) hb); have n2_ := aM (Kd.R_lower (Kd.R_new' ho0 (Kd.R_lt (by (with_reducible repeat (first | apply rA | apply rN | apply rD)); exact HO449.out))) (below_size (by repeat (first | (with_reducible first | exact HB.out | apply eA | apply eN | apply eD) | exact HB.out)))); have n3_ := aM (below_step (by repeat (first | (with_reducible first | exact HB.out | apply eA | apply eN | apply eD) | exact HB.out)) hb); clear HO444; clear HO449; clear HB; have HO444 := n0_; have HO449 := n1_; have HO453 := n2_; have HB := n3_; clear n0_ n1_ n2_ n3_; (try clear hb); (try clear hb2); (try clear hk); (try clear hi); (try clear ho0)) | ((with_reducible refine gate_callee (f := 12) rfl ?_); refine goesL_ (some 53) rfl rfl Try.func12 (by kernel_rfl) rfl #[.slice Ao15 t442.length co15] rfl (by (try simp only [List.map_toArray, List.map_cons, List.map_nil]); first | done | rfl | (simp only [List.length_drop, List.length_take]; rfl)) ?_; (with_reducible refine (impl_TeachingNumber.calls k _ _ t442 t454 t455 _ ?side1 ?side2 A7.out).mono ?_); (case side1 => repeat (first | exact (Kd.N_reads' HO444.out).2.2 | (with_reducible refine Kd.C_alloc ?_ _) | (with_reducible refine Kd.C_drewN ?_ _) | (with_reducible refine Kd.C_drew ?_))); (case side2 => exact (Kd.N_reads' HO444.out).2.1); rintro e w18 ⟨rfl, hb⟩; refine ⟨_, rfl, ?_⟩; have n0_ := aM (Kd.N_below (by (with_reducible repeat (first | apply Kd.N_alloc | apply Kd.N_drewN | apply Kd.N_drew)); exact HO444.out) hb); have n1_ := aM (Kd.R_below (by (with_reducible repeat (first | apply rA | apply rN | apply rD)); exact HO449.out) hb); have n2_ := aM (Kd.R_below (by (with_reducible repeat (first | apply rA | apply rN | apply rD)); exact HO453.out) hb); have n3_ := aM (below_step (by repeat (first | (with_reducible first | exact HB.out | apply eA | apply eN | apply eD) | exact HB.out)) hb); clear HO444; clear HO449; clear HO453; clear HB; have HO444 := n0_; have HO449 := n1_; have HO453 := n2_; have HB := n3_; clear n0_ n1_ n2_ n3_; (try clear hb); (try clear hb2); (try clear hk); (try clear hi)) | ((with_reducible refine gate_callee (f := 13) rfl ?_); refine goesL_ (some 58) rfl rfl Try.func13 (by kernel_rfl) rfl #[.slice Ao15 t442.length co15] rfl (by (try simp only [List.map_toArray, List.map_cons, List.map_nil]); first | done | rfl | (simp only [List.length_drop, List.length_take]; rfl)) ?_; (with_reducible refine (spec_TeachingNumber.calls k _ _ t442 t456 t457 _ ?side1 ?side2 A8.out).mono ?_); (case side1 => repeat (first | exact (Kd.N_reads' HO444.out).2.2 | (with_reducible refine Kd.C_alloc ?_ _) | (with_reducible refine Kd.C_drewN ?_ _) | (with_reducible refine Kd.C_drew ?_))); (case side2 => exact (Kd.N_reads' HO444.out).2.1); rintro e w19 ⟨rfl, hb⟩; refine ⟨_, rfl, ?_⟩; have n0_ := aM (Kd.N_below (by (with_reducible repeat (first | apply Kd.N_alloc | apply Kd.N_drewN | apply Kd.N_drew)); exact HO444.out) hb); have n1_ := aM (Kd.R_below (by (with_reducible repeat (first | apply rA | apply rN | apply rD)); exact HO449.out) hb); have n2_ := aM (Kd.R_below (by (with_reducible repeat (first | apply rA | apply rN | apply rD)); exact HO453.out) hb); have n3_ := aM (below_step (by repeat (first | (with_reducible first | exact HB.out | apply eA | apply eN | apply eD) | exact HB.out)) hb); clear HO444; clear HO449; clear HO453; clear HB; have HO444 := n0_; have HO449 := n1_; have HO453 := n2_; have HB := n3_; clear n0_ n1_ n2_ n3_; (try clear hb); (try clear hb2); (try clear hk); (try clear hi)) | ((with_reducible refine gate_callee (f := 15) rfl ?_); refine goesL_ (some 63) rfl rfl Try.func15 (by kernel_rfl) rfl #[.slice A0 l0.length c0, .int .i64 1] rfl (by (try simp only [List.map_toArray, List.map_cons, List.map_nil]); first | done | rfl | (simp only [List.length_drop, List.length_take]; rfl)) ?_; (with_reducible refine (laws_vCut.calls _ _ l0 1 t458 _ ?side1 ?side2 A9.out).mono ?_); (case side1 => repeat (first | exact (Kd.C_below HR0.out HB.out) | (with_reducible refine Kd.C_alloc ?_ _) | (with_reducible refine Kd.C_drewN ?_ _) | (with_reducible refine Kd.C_drew ?_))); (case side2 => exact HC0.out); rintro e w20 ⟨v459, rfl, ho0, hb⟩; refine ⟨_, rfl, ?_⟩; have n0_ := aM (Kd.N_elder' (by (with_reducible repeat (first | apply Kd.N_alloc | apply Kd.N_drewN | apply Kd.N_drew)); exact HO444.out) (Kd.R_base ho0) hb); have n1_ := aM (Kd.R_below (by (with_reducible repeat (first | apply rA | apply rN | apply rD)); exact HO449.out) hb); have n2_ := aM (Kd.R_below (by (with_reducible repeat (first | apply rA | apply rN | apply rD)); exact HO453.out) hb); have n3_ := aM (Kd.R_lower ho0 (below_size (by repeat (first | (with_reducible first | exact HB.out | apply eA | apply eN | apply eD) | exact HB.out)))); have n4_ := aM (below_step (by repeat (first | (with_reducible first | exact HB.out | apply eA | apply eN | apply eD) | exact HB.out)) hb); clear HO444; clear HO449; clear HO453; clear HB; have HO444 := n0_; have HO449 := n1_; have HO453 := n2_; have HO460 := n3_; have HB := n4_; clear n0_ n1_ n2_ n3_ n4_; (try clear hb); (try clear hb2); (try clear hk); (try clear hi); (try clear ho0); obtain ⟨Ao21, co21, eo21⟩ := Kd.R_slice HO460.out; subst eo21) | ((with_reducible refine gate_callee (f := 14) rfl ?_); refine goesL_ (some 64) rfl rfl Try.func14 (by kernel_rfl) rfl #[.slice Ao21 t458.length co21] rfl (by (try simp only [List.map_toArray, List.map_cons, List.map_nil]); first | done | rfl | (simp only [List.length_drop, List.length_take]; rfl)) ?_; (with_reducible refine (spec_DrawVersionOf.calls k _ _ t458 t461 t464 t467 _ ?side1 ?side2 A10.out).mono ?_); (case side1 => repeat (first | exact (Kd.R_reads' HO460.out).2.2 | (with_reducible refine Kd.C_alloc ?_ _) | (with_reducible refine Kd.C_drewN ?_ _) | (with_reducible refine Kd.C_drew ?_))); (case side2 => exact (Kd.R_reads' HO460.out).2.1); rintro e w22 ⟨v462, v465, v468, rfl, ho0, ho1, ho2, hb⟩; refine ⟨_, rfl, ?_⟩; have n0_ := aM (Kd.N_mono (Kd.N_told (Kd.N_told (Kd.N_told (Kd.N_old (by (with_reducible repeat (first | apply Kd.N_alloc | apply Kd.N_drewN | apply Kd.N_drew)); exact HO444.out) hb) (by first | exact Kd.N_base ho0 | exact Kd.S_base ho0 | exact Kd.R_base ho0)) (Kd.R_base ho1)) (Kd.R_base ho2)) (fun _ h_ => h_.1)); have n1_ := aM (rM (Kd.R_told (Kd.R_told (Kd.R_old (by (with_reducible repeat (first | apply rA | apply rN | apply rD)); exact HO449.out) hb) (Kd.R_base ho1)) (Kd.R_base ho2)) (fun _ h_ => h_.1)); have n2_ := aM (rM (Kd.R_told (Kd.R_told (Kd.R_old (by (with_reducible repeat (first | apply rA | apply rN | apply rD)); exact HO453.out) hb) (Kd.R_base ho1)) (Kd.R_base ho2)) (fun _ h_ => h_.1)); have n3_ := aM (Kd.R_below (by (with_reducible repeat (first | apply rA | apply rN | apply rD)); exact HO460.out) hb); have n4_ := aM (Kd.N_lower (Kd.N_mono (ok' := fun k_ => some k_ ≠ (v465 : Value).ownBlock ∧ some k_ ≠ (v468 : Value).ownBlock ∧ some k_ ≠ (.slice Ao15 t442.length co15 : Value).ownBlock ∧ some k_ ≠ (v448 : Value).ownBlock ∧ some k_ ≠ (v452 : Value).ownBlock ∧ some k_ ≠ (.slice Ao21 t458.length co21 : Value).ownBlock) ho0 (fun k_ hk_ => ⟨hk_.2.1, hk_.2.2, (Kd.fresh' (Kd.N_lt (by (with_reducible repeat (first | apply Kd.N_alloc | apply Kd.N_drewN | apply Kd.N_drew)); exact HO444.out)) k_ hk_.1), (Kd.fresh' (Kd.R_lt (by (with_reducible repeat (first | apply rA | apply rN | apply rD)); exact HO449.out)) k_ hk_.1), (Kd.fresh' (Kd.R_lt (by (with_reducible repeat (first | apply rA | apply rN | apply rD)); exact HO453.out)) k_ hk_.1), (Kd.fresh' (Kd.R_lt (by (with_reducible repeat (first | apply rA | apply rN | apply rD)); exact HO460.out)) k_ hk_.1)⟩)) (below_size (by repeat (first | (with_reducible first | exact HB.out | apply eA | apply eN | apply eD) | exact HB.out)))); have n5_ := aM (Kd.R_lower (Kd.R_new' (Kd.R_new' (rM (ok' := fun k_ => some k_ ≠ (v468 : Value).ownBlock) ho1 (fun _ hk_ => hk_.2)) (Kd.R_lt (by (with_reducible repeat (first | apply rA | apply rN | apply rD)); exact HO449.out))) (Kd.R_lt (by (with_reducible repeat (first | apply rA | apply rN | apply rD)); exact HO453.out))) (below_size (by repeat (first | (with_reducible first | exact HB.out | apply eA | apply eN | apply eD) | exact HB.out)))); have n6_ := aM (Kd.R_lower (Kd.R_new' (Kd.R_new' (rM (ok' := fun k_ => some k_ ≠ (v465 : Value).ownBlock) ho2 (fun _ hk_ => hk_.2)) (Kd.R_lt (by (with_reducible repeat (first | apply rA | apply rN | apply rD)); exact HO449.out))) (Kd.R_lt (by (with_reducible repeat (first | apply rA | apply rN | apply rD)); exact HO453.out))) (below_size (by repeat (first | (with_reducible first | exact HB.out | apply eA | apply eN | apply eD) | exact HB.out)))); have n7_ := aM (below_step (by repeat (first | (with_reducible first | exact HB.out | apply eA | apply eN | apply eD) | exact HB.out)) hb); clear HO444; clear HO449; clear HO453; clear HO460; clear HB; have HO444 := n0_; have HO449 := n1_; have HO453 := n2_; have HO460 := n3_; have HO463 := n4_; have HO466 := n5_; have HO469 := n6_; have HB := n7_; clear n0_ n1_ n2_ n3_ n4_ n5_ n6_ n7_; (try clear hb); (try clear hb2); (try clear hk); (try clear hi); (try clear ho0); (try clear ho1); (try clear ho2); obtain ⟨Ao23, co23, eo23⟩ := Kd.N_slice HO463.out; subst eo23; obtain ⟨Ao24, co24, eo24⟩ := Kd.R_slice HO466.out; subst eo24; obtain ⟨Ao25, co25, eo25⟩ := Kd.R_slice HO469.out; subst eo25) | ((with_reducible refine gate_callee (f := 16) rfl ?_); refine goesL_ (some 72) rfl rfl Try.func16 (by kernel_rfl) rfl #[.slice Ao23 t461.length co23, .slice Ao24 t464.length co24, .slice Ao25 t467.length co25] rfl (by (try simp only [List.map_toArray, List.map_cons, List.map_nil]); first | done | rfl | (simp only [List.length_drop, List.length_take]; rfl)) ?_; (with_reducible refine (impl_VersionOf.calls k _ _ t461 _ _ t464 _ _ t467 t470 t471 _ ?side1 ?side2 ?side3 ?side4 ?side5 ?side6 A11.out).mono ?_); (case side1 => repeat (first | exact (Kd.N_reads' HO463.out).2.2 | (with_reducible refine Kd.C_alloc ?_ _) | (with_reducible refine Kd.C_drewN ?_ _) | (with_reducible refine Kd.C_drew ?_))); (case side2 => exact (Kd.N_reads' HO463.out).2.1); (case side3 => repeat (first | exact (Kd.R_reads' HO466.out).2.2 | (with_reducible refine Kd.C_alloc ?_ _) | (with_reducible refine Kd.C_drewN ?_ _) | (with_reducible refine Kd.C_drew ?_))); (case side4 => exact (Kd.R_reads' HO466.out).2.1); (case side5 => repeat (first | exact (Kd.R_reads' HO469.out).2.2 | (with_reducible refine Kd.C_alloc ?_ _) | (with_reducible refine Kd.C_drewN ?_ _) | (with_reducible refine Kd.C_drew ?_))); (case side6 => exact (Kd.R_reads' HO469.out).2.1); rintro e w26 ⟨v472, rfl, ho0, hb⟩; refine ⟨_, rfl, ?_⟩; have n0_ := aM (Kd.N_elder' (by (with_reducible repeat (first | apply Kd.N_alloc | apply Kd.N_drewN | apply Kd.N_drew)); exact HO444.out) (Kd.R_base ho0) hb); have n1_ := aM (Kd.R_elder' (by (with_reducible repeat (first | apply rA | apply rN | apply rD)); exact HO449.out) (Kd.R_base ho0) hb); have n2_ := aM (Kd.R_elder' (by (with_reducible repeat (first | apply rA | apply rN | apply rD)); exact HO453.out) (Kd.R_base ho0) hb); have n3_ := aM (Kd.R_below (by (with_reducible repeat (first | apply rA | apply rN | apply rD)); exact HO460.out) hb); have n4_ := aM (Kd.N_elder' (by (with_reducible repeat (first | apply Kd.N_alloc | apply Kd.N_drewN | apply Kd.N_drew)); exact HO463.out) (Kd.R_base ho0) hb); have n5_ := aM (Kd.R_elder' (by (with_reducible repeat (first | apply rA | apply rN | apply rD)); exact HO466.out) (Kd.R_base ho0) hb); have n6_ := aM (Kd.R_elder' (by (with_reducible repeat (first | apply rA | apply rN | apply rD)); exact HO469.out) (Kd.R_base ho0) hb); have n7_ := aM (Kd.R_lower (Kd.R_new' (Kd.R_new' (Kd.R_new' (Kd.R_new' ho0 (Kd.R_lt (by (with_reducible repeat (first | apply rA | apply rN | apply rD)); exact HO449.out))) (Kd.R_lt (by (with_reducible repeat (first | apply rA | apply rN | apply rD)); exact HO453.out))) (Kd.R_lt (by (with_reducible repeat (first | apply rA | apply rN | apply rD)); exact HO466.out))) (Kd.R_lt (by (with_reducible repeat (first | apply rA | apply rN | apply rD)); exact HO469.out))) (below_size (by repeat (first | (with_reducible first | exact HB.out | apply eA | apply eN | apply eD) | exact HB.out)))); have n8_ := aM (below_step (by repeat (first | (with_reducible first | exact HB.out | apply eA | apply eN | apply eD) | exact HB.out)) hb); clear HO444; clear HO449; clear HO453; clear HO460; clear HO463; clear HO466; clear HO469; clear HB; have HO444 := n0_; have HO449 := n1_; have HO453 := n2_; have HO460 := n3_; have HO463 := n4_; have HO466 := n5_; have HO469 := n6_; have HO473 := n7_; have HB := n8_; clear n0_ n1_ n2_ n3_ n4_ n5_ n6_ n7_ n8_; (try clear hb); (try clear hb2); (try clear hk); (try clear hi); (try clear ho0)) | ((with_reducible refine gate_callee (f := 17) rfl ?_); refine goesL_ (some 79) rfl rfl Try.func17 (by kernel_rfl) rfl #[.slice Ao23 t461.length co23, .slice Ao24 t464.length co24, .slice Ao25 t467.length co25] rfl (by (try simp only [List.map_toArray, List.map_cons, List.map_nil]); first | done | rfl | (simp only [List.length_drop, List.length_take]; rfl)) ?_; (with_reducible refine (spec_VersionOf.calls k _ _ t461 _ _ t464 _ _ t467 t474 t475 _ ?side1 ?side2 ?side3 ?side4 ?side5 ?side6 A12.out).mono ?_); (case side1 => repeat (first | exact (Kd.N_reads' HO463.out).2.2 | (with_reducible refine Kd.C_alloc ?_ _) | (with_reducible refine Kd.C_drewN ?_ _) | (with_reducible refine Kd.C_drew ?_))); (case side2 => exact (Kd.N_reads' HO463.out).2.1); (case side3 => repeat (first | exact (Kd.R_reads' HO466.out).2.2 | (with_reducible refine Kd.C_alloc ?_ _) | (with_reducible refine Kd.C_drewN ?_ _) | (with_reducible refine Kd.C_drew ?_))); (case side4 => exact (Kd.R_reads' HO466.out).2.1); (case side5 => repeat (first | exact (Kd.R_reads' HO469.out).2.2 | (with_reducible refine Kd.C_alloc ?_ _) | (with_reducible refine Kd.C_drewN ?_ _) | (with_reducible refine Kd.C_drew ?_))); (case side6 => exact (Kd.R_reads' HO469.out).2.1); rintro e w27 ⟨v476, rfl, ho0, hb⟩; refine ⟨_, rfl, ?_⟩; have n0_ := aM (Kd.N_elder' (by (with_reducible repeat (first | apply Kd.N_alloc | apply Kd.N_drewN | apply Kd.N_drew)); exact HO444.out) (Kd.R_base ho0) hb); have n1_ := aM (Kd.R_elder' (by (with_reducible repeat (first | apply rA | apply rN | apply rD)); exact HO449.out) (Kd.R_base ho0) hb); have n2_ := aM (Kd.R_elder' (by (with_reducible repeat (first | apply rA | apply rN | apply rD)); exact HO453.out) (Kd.R_base ho0) hb); have n3_ := aM (Kd.R_below (by (with_reducible repeat (first | apply rA | apply rN | apply rD)); exact HO460.out) hb); have n4_ := aM (Kd.N_elder' (by (with_reducible repeat (first | apply Kd.N_alloc | apply Kd.N_drewN | apply Kd.N_drew)); exact HO463.out) (Kd.R_base ho0) hb); have n5_ := aM (Kd.R_elder' (by (with_reducible repeat (first | apply rA | apply rN | apply rD)); exact HO466.out) (Kd.R_base ho0) hb); have n6_ := aM (Kd.R_elder' (by (with_reducible repeat (first | apply rA | apply rN | apply rD)); exact HO469.out) (Kd.R_base ho0) hb); have n7_ := aM (Kd.R_elder' (by (with_reducible repeat (first | apply rA | apply rN | apply rD)); exact HO473.out) (Kd.R_base ho0) hb); have n8_ := aM (Kd.R_lower (Kd.R_new' (Kd.R_new' (Kd.R_new' (Kd.R_new' (Kd.R_new' ho0 (Kd.R_lt (by (with_reducible repeat (first | apply rA | apply rN | apply rD)); exact HO449.out))) (Kd.R_lt (by (with_reducible repeat (first | apply rA | apply rN | apply rD)); exact HO453.out))) (Kd.R_lt (by (with_reducible repeat (first | apply rA | apply rN | apply rD)); exact HO466.out))) (Kd.R_lt (by (with_reducible repeat (first | apply rA | apply rN | apply rD)); exact HO469.out))) (Kd.R_lt (by (with_reducible repeat (first | apply rA | apply rN | apply rD)); exact HO473.out))) (below_size (by repeat (first | (with_reducible first | exact HB.out | apply eA | apply eN | apply eD) | exact HB.out)))); have n9_ := aM (below_step (by repeat (first | (with_reducible first | exact HB.out | apply eA | apply eN | apply eD) | exact HB.out)) hb); clear HO444; clear HO449; clear HO453; clear HO460; clear HO463; clear HO466; clear HO469; clear HO473; clear HB; have HO444 := n0_; have HO449 := n1_; have HO453 := n2_; have HO460 := n3_; have HO463 := n4_; have HO466 := n5_; have HO469 := n6_; have HO473 := n7_; have HO477 := n8_; have HB := n9_; clear n0_ n1_ n2_ n3_ n4_ n5_ n6_ n7_ n8_ n9_; (try clear hb); (try clear hb2); (try clear hk); (try clear hi); (try clear ho0)))
  (try simp only [Act.put, sA, sZ, sU])
  go_cut [111] (fun v111 wc => ∃ (kq : Nat) (x111_12 : Bool), v111 = .bool x111_12 ∧ Aside0 (laws_FnTeaching.j0 kq t442 t445 t446 t447 t454 t455 t461 t464 t467 t470 t471 x111_12 = some r) ∧ Aside0 (kq ≤ k) ∧ Aside0 (Kd.N (Kd.slice 3 (Kd.int .i64)) 27 wc w.heap.size (fun k_ => some k_ ≠ (v448 : Value).ownBlock ∧ some k_ ≠ ((.slice Ao23 t461.length co23) : Value).ownBlock ∧ some k_ ≠ ((.slice Ao24 t464.length co24) : Value).ownBlock ∧ some k_ ≠ ((.slice Ao25 t467.length co25) : Value).ownBlock ∧ some k_ ≠ (v472 : Value).ownBlock) (.slice Ao15 t442.length co15) t442) ∧ Aside0 (Kd.R (Kd.int .i64) 3 wc w.heap.size (fun k_ => some k_ ≠ ((.slice Ao24 t464.length co24) : Value).ownBlock ∧ some k_ ≠ ((.slice Ao25 t467.length co25) : Value).ownBlock ∧ some k_ ≠ (v472 : Value).ownBlock) v448 t446) ∧ Aside0 (Kd.N (Kd.slice 3 (Kd.int .i64)) 27 wc w.heap.size (fun k_ => some k_ ≠ ((.slice Ao15 t442.length co15) : Value).ownBlock ∧ some k_ ≠ (v448 : Value).ownBlock ∧ some k_ ≠ ((.slice Ao24 t464.length co24) : Value).ownBlock ∧ some k_ ≠ ((.slice Ao25 t467.length co25) : Value).ownBlock ∧ some k_ ≠ (v472 : Value).ownBlock) (.slice Ao23 t461.length co23) t461) ∧ Aside0 (Kd.R (Kd.int .i64) 3 wc w.heap.size (fun k_ => some k_ ≠ (v448 : Value).ownBlock ∧ some k_ ≠ ((.slice Ao25 t467.length co25) : Value).ownBlock ∧ some k_ ≠ (v472 : Value).ownBlock) (.slice Ao24 t464.length co24) t464) ∧ Aside0 (Kd.R (Kd.int .i64) 3 wc w.heap.size (fun k_ => some k_ ≠ (v448 : Value).ownBlock ∧ some k_ ≠ ((.slice Ao24 t464.length co24) : Value).ownBlock ∧ some k_ ≠ (v472 : Value).ownBlock) (.slice Ao25 t467.length co25) t467) ∧ Aside0 (Kd.R (Kd.int .i64) 3 wc w.heap.size (fun k_ => some k_ ≠ (v448 : Value).ownBlock ∧ some k_ ≠ ((.slice Ao24 t464.length co24) : Value).ownBlock ∧ some k_ ≠ ((.slice Ao25 t467.length co25) : Value).ownBlock) v472 t470) ∧ Aside0 (Below w.heap.size w wc))
  case first =>
   as_aux_lemma =>
    have H := HC13.out
    clear HC13
    by_cases c28 : (t447 != t451) = true
    ·
     rw [if_pos c28] at H
     have c28b0 : (t447 != t451) = true := c28
     (try (have c28b1 : decide (t447 = t451) = false := by simpa using c28))
     (try (have c28b2 : (t447 == t451) = false := by simpa using c28))
     (try (have c28b3 : ¬ (t447 = t451) := by simpa using c28))
     clear c28
     (first | rw [c28b0] | (simp only [i64_w, i32_w]; rw [c28b0]) | skip)
     have H' := aM H
     clear H
     go_wp2
     go_meet
     case rel => exact ⟨_, (true), (by first | rfl | (simp; done) | (simp [*]; done)), H', ⟨by first | omega | exact Nat.le_refl _⟩, ⟨by (with_reducible repeat (first | apply Kd.N_alloc | apply Kd.N_drewN | apply Kd.N_drew)); exact Kd.N_mono HO444.out (fun _ hk => ⟨hk.1.1.1.1.1.1.1.2, ⟨hk.1.1.1.1.2, ⟨hk.1.1.1.2, ⟨hk.1.1.2, hk.1.2⟩⟩⟩⟩)⟩, ⟨by (with_reducible repeat (first | apply rA | apply rN | apply rD)); exact rM HO449.out (fun _ hk => ⟨hk.1.1.1.2, ⟨hk.1.1.2, hk.1.2⟩⟩)⟩, ⟨by (with_reducible repeat (first | apply Kd.N_alloc | apply Kd.N_drewN | apply Kd.N_drew)); exact Kd.N_mono HO463.out (fun _ hk => ⟨hk.1.1.2.2.1, ⟨hk.1.1.2.2.2.1, ⟨hk.1.1.1, ⟨hk.1.1.2.1, hk.1.2⟩⟩⟩⟩)⟩, ⟨by (with_reducible repeat (first | apply rA | apply rN | apply rD)); exact rM HO466.out (fun _ hk => ⟨hk.1.1.1.2, ⟨hk.1.1.1.1, hk.1.2⟩⟩)⟩, ⟨by (with_reducible repeat (first | apply rA | apply rN | apply rD)); exact rM HO469.out (fun _ hk => ⟨hk.1.1.1.2, ⟨hk.1.1.1.1, hk.1.2⟩⟩)⟩, ⟨by (with_reducible repeat (first | apply rA | apply rN | apply rD)); exact rM HO473.out (fun _ hk => ⟨hk.1.1.1.1.2, ⟨hk.1.1.2, hk.1.2⟩⟩)⟩, ⟨by repeat (first | (with_reducible first | exact HB.out | apply eA | apply eN | apply eD) | exact HB.out)⟩⟩
    ·
     rw [if_neg c28] at H
     have c28b0 : (t447 != t451) = false := by simpa using c28
     (try (have c28b1 : decide (t447 = t451) = true := by simpa using c28))
     (try (have c28b2 : (t447 == t451) = true := by simpa using c28))
     clear c28
     (first | rw [c28b0] | (simp only [i64_w, i32_w]; rw [c28b0]) | skip)
     replace H := oB.mp H
     obtain ⟨t478, A290, H⟩ := H
     replace H : (if t478 = true then (if t454 = t456 then (if (t455 != t457) = true then (laws_FnTeaching.j0 k t442 t445 t446 t447 t454 t455 t461 t464 t467 t470 t471 true) else (if (t471 != t475) = true then (laws_FnTeaching.j0 k t442 t445 t446 t447 t454 t455 t461 t464 t467 t470 t471 true) else ((laws_vInts.f k t470 t474).bind fun t479 => (laws_FnTeaching.j0 k t442 t445 t446 t447 t454 t455 t461 t464 t467 t470 t471 (!t479))))) else (laws_FnTeaching.j0 k t442 t445 t446 t447 t454 t455 t461 t464 t467 t470 t471 true)) else (laws_FnTeaching.j0 k t442 t445 t446 t447 t454 t455 t461 t464 t467 t470 t471 true)) = some r := H
     have A29 := aM A290
     clear A290
     by_cases c30 : t478 = true
     ·
      subst c30
      have H1 : (if t454 = t456 then (if (t455 != t457) = true then (laws_FnTeaching.j0 k t442 t445 t446 t447 t454 t455 t461 t464 t467 t470 t471 true) else (if (t471 != t475) = true then (laws_FnTeaching.j0 k t442 t445 t446 t447 t454 t455 t461 t464 t467 t470 t471 true) else ((laws_vInts.f k t470 t474).bind fun t479 => (laws_FnTeaching.j0 k t442 t445 t446 t447 t454 t455 t461 t464 t467 t470 t471 (!t479))))) else (laws_FnTeaching.j0 k t442 t445 t446 t447 t454 t455 t461 t464 t467 t470 t471 true)) = some r := by rw [if_pos rfl] at H; exact H
      clear H
      have H := H1
      clear H1
      by_cases c31 : t454 = t456
      ·
       rw [if_pos c31] at H
       have c31b0 : (t454 == t456) = true := beq_iff_eq.mpr c31
       have c31b1 : (t454 != t456) = false := bne_eq_false_iff_eq.mpr c31
       clear c31
       by_cases c32 : (t455 != t457) = true
       ·
        rw [if_pos c32] at H
        have c32b0 : (t455 != t457) = true := c32
        (try (have c32b1 : decide (t455 = t457) = false := by simpa using c32))
        (try (have c32b2 : (t455 == t457) = false := by simpa using c32))
        (try (have c32b3 : ¬ (t455 = t457) := by simpa using c32))
        clear c32
        have H' := aM H
        clear H
        obtain ⟨Ao33, co33, eo33⟩ := Kd.R_slice HO449.out
        subst eo33
        obtain ⟨Ao34, co34, eo34⟩ := Kd.R_slice HO453.out
        subst eo34
        go_wp2_with (first | (go_at_call 18; (with_reducible refine (laws_vInts.calls k _ _ t446 _ _ t450 true _ ?side1 ?side2 ?side3 ?side4 A29.out).mono ?_); (case side1 => repeat (first | exact (Kd.R_reads' HO449.out).2.2 | (with_reducible refine Kd.C_alloc ?_ _) | (with_reducible refine Kd.C_drewN ?_ _) | (with_reducible refine Kd.C_drew ?_))); (case side2 => exact (Kd.R_reads' HO449.out).2.1); (case side3 => repeat (first | exact (Kd.R_reads' HO453.out).2.2 | (with_reducible refine Kd.C_alloc ?_ _) | (with_reducible refine Kd.C_drewN ?_ _) | (with_reducible refine Kd.C_drew ?_))); (case side4 => exact (Kd.R_reads' HO453.out).2.1); rintro e w' ⟨rfl, ⟨nd, rfl⟩⟩))
        go_meet
        case rel => exact ⟨_, (true), (by first | rfl | (simp; done) | (simp [*]; done)), H', ⟨by first | omega | exact Nat.le_refl _⟩, ⟨by (with_reducible repeat (first | apply Kd.N_alloc | apply Kd.N_drewN | apply Kd.N_drew)); exact Kd.N_mono HO444.out (fun _ hk => ⟨hk.1.1.1.1.1.1.1.2, ⟨hk.1.1.1.1.2, ⟨hk.1.1.1.2, ⟨hk.1.1.2, hk.1.2⟩⟩⟩⟩)⟩, ⟨by (with_reducible repeat (first | apply rA | apply rN | apply rD)); exact rM HO449.out (fun _ hk => ⟨hk.1.1.1.2, ⟨hk.1.1.2, hk.1.2⟩⟩)⟩, ⟨by (with_reducible repeat (first | apply Kd.N_alloc | apply Kd.N_drewN | apply Kd.N_drew)); exact Kd.N_mono HO463.out (fun _ hk => ⟨hk.1.1.2.2.1, ⟨hk.1.1.2.2.2.1, ⟨hk.1.1.1, ⟨hk.1.1.2.1, hk.1.2⟩⟩⟩⟩)⟩, ⟨by (with_reducible repeat (first | apply rA | apply rN | apply rD)); exact rM HO466.out (fun _ hk => ⟨hk.1.1.1.2, ⟨hk.1.1.1.1, hk.1.2⟩⟩)⟩, ⟨by (with_reducible repeat (first | apply rA | apply rN | apply rD)); exact rM HO469.out (fun _ hk => ⟨hk.1.1.1.2, ⟨hk.1.1.1.1, hk.1.2⟩⟩)⟩, ⟨by (with_reducible repeat (first | apply rA | apply rN | apply rD)); exact rM HO473.out (fun _ hk => ⟨hk.1.1.1.1.2, ⟨hk.1.1.2, hk.1.2⟩⟩)⟩, ⟨by repeat (first | (with_reducible first | exact HB.out | apply eA | apply eN | apply eD) | exact HB.out)⟩⟩
       ·
        rw [if_neg c32] at H
        have c32b0 : (t455 != t457) = false := by simpa using c32
        (try (have c32b1 : decide (t455 = t457) = true := by simpa using c32))
        (try (have c32b2 : (t455 == t457) = true := by simpa using c32))
        clear c32
        by_cases c35 : (t471 != t475) = true
        ·
         rw [if_pos c35] at H
         have c35b0 : (t471 != t475) = true := c35
         (try (have c35b1 : decide (t471 = t475) = false := by simpa using c35))
         (try (have c35b2 : (t471 == t475) = false := by simpa using c35))
         (try (have c35b3 : ¬ (t471 = t475) := by simpa using c35))
         clear c35
         have H' := aM H
         clear H
         obtain ⟨Ao36, co36, eo36⟩ := Kd.R_slice HO449.out
         subst eo36
         obtain ⟨Ao37, co37, eo37⟩ := Kd.R_slice HO453.out
         subst eo37
         go_wp2_with (first | (go_at_call 18; (with_reducible refine (laws_vInts.calls k _ _ t446 _ _ t450 true _ ?side1 ?side2 ?side3 ?side4 A29.out).mono ?_); (case side1 => repeat (first | exact (Kd.R_reads' HO449.out).2.2 | (with_reducible refine Kd.C_alloc ?_ _) | (with_reducible refine Kd.C_drewN ?_ _) | (with_reducible refine Kd.C_drew ?_))); (case side2 => exact (Kd.R_reads' HO449.out).2.1); (case side3 => repeat (first | exact (Kd.R_reads' HO453.out).2.2 | (with_reducible refine Kd.C_alloc ?_ _) | (with_reducible refine Kd.C_drewN ?_ _) | (with_reducible refine Kd.C_drew ?_))); (case side4 => exact (Kd.R_reads' HO453.out).2.1); rintro e w' ⟨rfl, ⟨nd, rfl⟩⟩))
         go_meet
         case rel => exact ⟨_, (true), (by first | rfl | (simp; done) | (simp [*]; done)), H', ⟨by first | omega | exact Nat.le_refl _⟩, ⟨by (with_reducible repeat (first | apply Kd.N_alloc | apply Kd.N_drewN | apply Kd.N_drew)); exact Kd.N_mono HO444.out (fun _ hk => ⟨hk.1.1.1.1.1.1.1.2, ⟨hk.1.1.1.1.2, ⟨hk.1.1.1.2, ⟨hk.1.1.2, hk.1.2⟩⟩⟩⟩)⟩, ⟨by (with_reducible repeat (first | apply rA | apply rN | apply rD)); exact rM HO449.out (fun _ hk => ⟨hk.1.1.1.2, ⟨hk.1.1.2, hk.1.2⟩⟩)⟩, ⟨by (with_reducible repeat (first | apply Kd.N_alloc | apply Kd.N_drewN | apply Kd.N_drew)); exact Kd.N_mono HO463.out (fun _ hk => ⟨hk.1.1.2.2.1, ⟨hk.1.1.2.2.2.1, ⟨hk.1.1.1, ⟨hk.1.1.2.1, hk.1.2⟩⟩⟩⟩)⟩, ⟨by (with_reducible repeat (first | apply rA | apply rN | apply rD)); exact rM HO466.out (fun _ hk => ⟨hk.1.1.1.2, ⟨hk.1.1.1.1, hk.1.2⟩⟩)⟩, ⟨by (with_reducible repeat (first | apply rA | apply rN | apply rD)); exact rM HO469.out (fun _ hk => ⟨hk.1.1.1.2, ⟨hk.1.1.1.1, hk.1.2⟩⟩)⟩, ⟨by (with_reducible repeat (first | apply rA | apply rN | apply rD)); exact rM HO473.out (fun _ hk => ⟨hk.1.1.1.1.2, ⟨hk.1.1.2, hk.1.2⟩⟩)⟩, ⟨by repeat (first | (with_reducible first | exact HB.out | apply eA | apply eN | apply eD) | exact HB.out)⟩⟩
        ·
         rw [if_neg c35] at H
         have c35b0 : (t471 != t475) = false := by simpa using c35
         (try (have c35b1 : decide (t471 = t475) = true := by simpa using c35))
         (try (have c35b2 : (t471 == t475) = true := by simpa using c35))
         clear c35
         replace H := oB.mp H
         obtain ⟨t479, A380, H⟩ := H
         replace H : (laws_FnTeaching.j0 k t442 t445 t446 t447 t454 t455 t461 t464 t467 t470 t471 (!t479)) = some r := H
         have A38 := aM A380
         clear A380
         have H' := aM H
         clear H
         obtain ⟨Ao39, co39, eo39⟩ := Kd.R_slice HO449.out
         subst eo39
         obtain ⟨Ao40, co40, eo40⟩ := Kd.R_slice HO453.out
         subst eo40
         go_wp2_with (first | (go_at_call 18; (with_reducible refine (laws_vInts.calls k _ _ t446 _ _ t450 true _ ?side1 ?side2 ?side3 ?side4 A29.out).mono ?_); (case side1 => repeat (first | exact (Kd.R_reads' HO449.out).2.2 | (with_reducible refine Kd.C_alloc ?_ _) | (with_reducible refine Kd.C_drewN ?_ _) | (with_reducible refine Kd.C_drew ?_))); (case side2 => exact (Kd.R_reads' HO449.out).2.1); (case side3 => repeat (first | exact (Kd.R_reads' HO453.out).2.2 | (with_reducible refine Kd.C_alloc ?_ _) | (with_reducible refine Kd.C_drewN ?_ _) | (with_reducible refine Kd.C_drew ?_))); (case side4 => exact (Kd.R_reads' HO453.out).2.1); rintro e w' ⟨rfl, ⟨nd, rfl⟩⟩; obtain ⟨Ao41, co41, eo41⟩ := Kd.R_slice HO473.out; subst eo41; obtain ⟨Ao42, co42, eo42⟩ := Kd.R_slice HO477.out; subst eo42) | (go_at_call 18; (with_reducible refine (laws_vInts.calls k _ _ t470 _ _ t474 t479 _ ?side1 ?side2 ?side3 ?side4 A38.out).mono ?_); (case side1 => repeat (first | exact (Kd.R_reads' HO473.out).2.2 | (with_reducible refine Kd.C_alloc ?_ _) | (with_reducible refine Kd.C_drewN ?_ _) | (with_reducible refine Kd.C_drew ?_))); (case side2 => exact (Kd.R_reads' HO473.out).2.1); (case side3 => repeat (first | exact (Kd.R_reads' HO477.out).2.2 | (with_reducible refine Kd.C_alloc ?_ _) | (with_reducible refine Kd.C_drewN ?_ _) | (with_reducible refine Kd.C_drew ?_))); (case side4 => exact (Kd.R_reads' HO477.out).2.1); rintro e w' ⟨rfl, ⟨nd, rfl⟩⟩))
         go_meet
         case rel => exact ⟨_, (!t479), (by first | rfl | (simp; done) | (simp [*]; done)), H', ⟨by first | omega | exact Nat.le_refl _⟩, ⟨by (with_reducible repeat (first | apply Kd.N_alloc | apply Kd.N_drewN | apply Kd.N_drew)); exact Kd.N_mono HO444.out (fun _ hk => ⟨hk.1.1.1.1.1.1.1.2, ⟨hk.1.1.1.1.2, ⟨hk.1.1.1.2, ⟨hk.1.1.2, hk.1.2⟩⟩⟩⟩)⟩, ⟨by (with_reducible repeat (first | apply rA | apply rN | apply rD)); exact rM HO449.out (fun _ hk => ⟨hk.1.1.1.2, ⟨hk.1.1.2, hk.1.2⟩⟩)⟩, ⟨by (with_reducible repeat (first | apply Kd.N_alloc | apply Kd.N_drewN | apply Kd.N_drew)); exact Kd.N_mono HO463.out (fun _ hk => ⟨hk.1.1.2.2.1, ⟨hk.1.1.2.2.2.1, ⟨hk.1.1.1, ⟨hk.1.1.2.1, hk.1.2⟩⟩⟩⟩)⟩, ⟨by (with_reducible repeat (first | apply rA | apply rN | apply rD)); exact rM HO466.out (fun _ hk => ⟨hk.1.1.1.2, ⟨hk.1.1.1.1, hk.1.2⟩⟩)⟩, ⟨by (with_reducible repeat (first | apply rA | apply rN | apply rD)); exact rM HO469.out (fun _ hk => ⟨hk.1.1.1.2, ⟨hk.1.1.1.1, hk.1.2⟩⟩)⟩, ⟨by (with_reducible repeat (first | apply rA | apply rN | apply rD)); exact rM HO473.out (fun _ hk => ⟨hk.1.1.1.1.2, ⟨hk.1.1.2, hk.1.2⟩⟩)⟩, ⟨by repeat (first | (with_reducible first | exact HB.out | apply eA | apply eN | apply eD) | exact HB.out)⟩⟩
      ·
       rw [if_neg c31] at H
       have c31b0 : (t454 == t456) = false := beq_eq_false_iff_ne.mpr c31
       have c31b1 : (t454 != t456) = true := bne_iff_ne.mpr c31
       have H' := aM H
       clear H
       obtain ⟨Ao43, co43, eo43⟩ := Kd.R_slice HO449.out
       subst eo43
       obtain ⟨Ao44, co44, eo44⟩ := Kd.R_slice HO453.out
       subst eo44
       go_wp2_with (first | (go_at_call 18; (with_reducible refine (laws_vInts.calls k _ _ t446 _ _ t450 true _ ?side1 ?side2 ?side3 ?side4 A29.out).mono ?_); (case side1 => repeat (first | exact (Kd.R_reads' HO449.out).2.2 | (with_reducible refine Kd.C_alloc ?_ _) | (with_reducible refine Kd.C_drewN ?_ _) | (with_reducible refine Kd.C_drew ?_))); (case side2 => exact (Kd.R_reads' HO449.out).2.1); (case side3 => repeat (first | exact (Kd.R_reads' HO453.out).2.2 | (with_reducible refine Kd.C_alloc ?_ _) | (with_reducible refine Kd.C_drewN ?_ _) | (with_reducible refine Kd.C_drew ?_))); (case side4 => exact (Kd.R_reads' HO453.out).2.1); rintro e w' ⟨rfl, ⟨nd, rfl⟩⟩))
       go_meet
       case rel => exact ⟨_, (true), (by first | rfl | (simp; done) | (simp [*]; done)), H', ⟨by first | omega | exact Nat.le_refl _⟩, ⟨by (with_reducible repeat (first | apply Kd.N_alloc | apply Kd.N_drewN | apply Kd.N_drew)); exact Kd.N_mono HO444.out (fun _ hk => ⟨hk.1.1.1.1.1.1.1.2, ⟨hk.1.1.1.1.2, ⟨hk.1.1.1.2, ⟨hk.1.1.2, hk.1.2⟩⟩⟩⟩)⟩, ⟨by (with_reducible repeat (first | apply rA | apply rN | apply rD)); exact rM HO449.out (fun _ hk => ⟨hk.1.1.1.2, ⟨hk.1.1.2, hk.1.2⟩⟩)⟩, ⟨by (with_reducible repeat (first | apply Kd.N_alloc | apply Kd.N_drewN | apply Kd.N_drew)); exact Kd.N_mono HO463.out (fun _ hk => ⟨hk.1.1.2.2.1, ⟨hk.1.1.2.2.2.1, ⟨hk.1.1.1, ⟨hk.1.1.2.1, hk.1.2⟩⟩⟩⟩)⟩, ⟨by (with_reducible repeat (first | apply rA | apply rN | apply rD)); exact rM HO466.out (fun _ hk => ⟨hk.1.1.1.2, ⟨hk.1.1.1.1, hk.1.2⟩⟩)⟩, ⟨by (with_reducible repeat (first | apply rA | apply rN | apply rD)); exact rM HO469.out (fun _ hk => ⟨hk.1.1.1.2, ⟨hk.1.1.1.1, hk.1.2⟩⟩)⟩, ⟨by (with_reducible repeat (first | apply rA | apply rN | apply rD)); exact rM HO473.out (fun _ hk => ⟨hk.1.1.1.1.2, ⟨hk.1.1.2, hk.1.2⟩⟩)⟩, ⟨by repeat (first | (with_reducible first | exact HB.out | apply eA | apply eN | apply eD) | exact HB.out)⟩⟩
     ·
      replace c30 := Bool.eq_false_iff.mpr c30
      subst c30
      have H1 : (laws_FnTeaching.j0 k t442 t445 t446 t447 t454 t455 t461 t464 t467 t470 t471 true) = some r := by rw [if_neg (show ¬ (false = true) by decide)] at H; exact H
      clear H
      have H := H1
      clear H1
      have H' := aM H
      clear H
      obtain ⟨Ao45, co45, eo45⟩ := Kd.R_slice HO449.out
      subst eo45
      obtain ⟨Ao46, co46, eo46⟩ := Kd.R_slice HO453.out
      subst eo46
      go_wp2_with (first | (go_at_call 18; (with_reducible refine (laws_vInts.calls k _ _ t446 _ _ t450 false _ ?side1 ?side2 ?side3 ?side4 A29.out).mono ?_); (case side1 => repeat (first | exact (Kd.R_reads' HO449.out).2.2 | (with_reducible refine Kd.C_alloc ?_ _) | (with_reducible refine Kd.C_drewN ?_ _) | (with_reducible refine Kd.C_drew ?_))); (case side2 => exact (Kd.R_reads' HO449.out).2.1); (case side3 => repeat (first | exact (Kd.R_reads' HO453.out).2.2 | (with_reducible refine Kd.C_alloc ?_ _) | (with_reducible refine Kd.C_drewN ?_ _) | (with_reducible refine Kd.C_drew ?_))); (case side4 => exact (Kd.R_reads' HO453.out).2.1); rintro e w' ⟨rfl, ⟨nd, rfl⟩⟩))
      go_meet
      case rel => exact ⟨_, (true), (by first | rfl | (simp; done) | (simp [*]; done)), H', ⟨by first | omega | exact Nat.le_refl _⟩, ⟨by (with_reducible repeat (first | apply Kd.N_alloc | apply Kd.N_drewN | apply Kd.N_drew)); exact Kd.N_mono HO444.out (fun _ hk => ⟨hk.1.1.1.1.1.1.1.2, ⟨hk.1.1.1.1.2, ⟨hk.1.1.1.2, ⟨hk.1.1.2, hk.1.2⟩⟩⟩⟩)⟩, ⟨by (with_reducible repeat (first | apply rA | apply rN | apply rD)); exact rM HO449.out (fun _ hk => ⟨hk.1.1.1.2, ⟨hk.1.1.2, hk.1.2⟩⟩)⟩, ⟨by (with_reducible repeat (first | apply Kd.N_alloc | apply Kd.N_drewN | apply Kd.N_drew)); exact Kd.N_mono HO463.out (fun _ hk => ⟨hk.1.1.2.2.1, ⟨hk.1.1.2.2.2.1, ⟨hk.1.1.1, ⟨hk.1.1.2.1, hk.1.2⟩⟩⟩⟩)⟩, ⟨by (with_reducible repeat (first | apply rA | apply rN | apply rD)); exact rM HO466.out (fun _ hk => ⟨hk.1.1.1.2, ⟨hk.1.1.1.1, hk.1.2⟩⟩)⟩, ⟨by (with_reducible repeat (first | apply rA | apply rN | apply rD)); exact rM HO469.out (fun _ hk => ⟨hk.1.1.1.2, ⟨hk.1.1.1.1, hk.1.2⟩⟩)⟩, ⟨by (with_reducible repeat (first | apply rA | apply rN | apply rD)); exact rM HO473.out (fun _ hk => ⟨hk.1.1.1.1.2, ⟨hk.1.1.2, hk.1.2⟩⟩)⟩, ⟨by repeat (first | (with_reducible first | exact HB.out | apply eA | apply eN | apply eD) | exact HB.out)⟩⟩
  case rest =>
   as_aux_lemma =>
    clear HC13
    try clear c1; try clear c2; try clear p2; try clear c3; try clear c8; try clear c9; try clear c10; try clear c11; try clear c12; try clear c13; try clear c14; try clear c15; try clear c16; try clear c17; try clear c28; try clear c28b0; try clear c28b1; try clear c28b2; try clear c30; try clear c31; try clear c31b0; try clear c31b1; try clear c32; try clear c32b0; try clear c32b1; try clear c32b2; try clear c35; try clear c35b0; try clear c35b1; try clear c35b2
    obtain ⟨kq, x111_12, rfl, HA, HJ12, HO_3, HO_5, HO_13, HO_14, HO_15, HO_16, HB⟩ := hcut
    cases kq with
    | zero => exact absurd HA.out (by simp [laws_FnTeaching.j0])
    | succ kj12 =>
     have H := HA.out
     clear HA
     simp only [laws_FnTeaching.j0] at H
     by_cases c47 : x111_12 = true
     ·
      subst c47
      have H1 : (none) = some r := by rw [if_pos rfl] at H; exact H
      clear H
      have H := H1
      clear H1
      exact absurd H (by simp)
     ·
      replace c47 := Bool.eq_false_iff.mpr c47
      subst c47
      have H1 : (laws_FnTeaching.l0 kj12 t442 t445 t446 t447 t454 t455 t461 t464 t467 t470 t471 0) = some r := by rw [if_neg (show ¬ (false = true) by decide)] at H; exact H
      clear H
      have H := H1
      clear H1
      have H' := aM H
      clear H
      go_wp2
      go_loopg [20] kj12 (fun kq v20 w' => ∃ (x20_2 : Int), v20 = .int .i64 x20_2 ∧ Aside0 (laws_FnTeaching.l0 kq t442 t445 t446 t447 t454 t455 t461 t464 t467 t470 t471 x20_2 = some r) ∧ Aside0 (kq ≤ kj12) ∧ Aside0 (Kd.N (Kd.slice 3 (Kd.int .i64)) 27 w' w.heap.size (fun k_ => some k_ ≠ (v448 : Value).ownBlock ∧ some k_ ≠ ((.slice Ao23 t461.length co23) : Value).ownBlock ∧ some k_ ≠ ((.slice Ao24 t464.length co24) : Value).ownBlock ∧ some k_ ≠ ((.slice Ao25 t467.length co25) : Value).ownBlock ∧ some k_ ≠ (v472 : Value).ownBlock) (.slice Ao15 t442.length co15) t442) ∧ Aside0 (Kd.R (Kd.int .i64) 3 w' w.heap.size (fun k_ => some k_ ≠ ((.slice Ao24 t464.length co24) : Value).ownBlock ∧ some k_ ≠ ((.slice Ao25 t467.length co25) : Value).ownBlock ∧ some k_ ≠ (v472 : Value).ownBlock) v448 t446) ∧ Aside0 (Kd.N (Kd.slice 3 (Kd.int .i64)) 27 w' w.heap.size (fun k_ => some k_ ≠ ((.slice Ao15 t442.length co15) : Value).ownBlock ∧ some k_ ≠ (v448 : Value).ownBlock ∧ some k_ ≠ ((.slice Ao24 t464.length co24) : Value).ownBlock ∧ some k_ ≠ ((.slice Ao25 t467.length co25) : Value).ownBlock ∧ some k_ ≠ (v472 : Value).ownBlock) (.slice Ao23 t461.length co23) t461) ∧ Aside0 (Kd.R (Kd.int .i64) 3 w' w.heap.size (fun k_ => some k_ ≠ (v448 : Value).ownBlock ∧ some k_ ≠ ((.slice Ao25 t467.length co25) : Value).ownBlock ∧ some k_ ≠ (v472 : Value).ownBlock) (.slice Ao24 t464.length co24) t464) ∧ Aside0 (Kd.R (Kd.int .i64) 3 w' w.heap.size (fun k_ => some k_ ≠ (v448 : Value).ownBlock ∧ some k_ ≠ ((.slice Ao24 t464.length co24) : Value).ownBlock ∧ some k_ ≠ (v472 : Value).ownBlock) (.slice Ao25 t467.length co25) t467) ∧ Aside0 (Kd.R (Kd.int .i64) 3 w' w.heap.size (fun k_ => some k_ ≠ (v448 : Value).ownBlock ∧ some k_ ≠ ((.slice Ao24 t464.length co24) : Value).ownBlock ∧ some k_ ≠ ((.slice Ao25 t467.length co25) : Value).ownBlock) v472 t470) ∧ Aside0 (Below w.heap.size w w'))
      case atStart => exact ⟨(0), (by first | rfl | (simp; done) | (simp [*]; done)), H', ⟨Nat.le_refl _⟩, ⟨by (with_reducible repeat (first | apply Kd.N_alloc | apply Kd.N_drewN | apply Kd.N_drew)); exact HO_3.out⟩, ⟨by (with_reducible repeat (first | apply rA | apply rN | apply rD)); exact HO_5.out⟩, ⟨by (with_reducible repeat (first | apply Kd.N_alloc | apply Kd.N_drewN | apply Kd.N_drew)); exact HO_13.out⟩, ⟨by (with_reducible repeat (first | apply rA | apply rN | apply rD)); exact HO_14.out⟩, ⟨by (with_reducible repeat (first | apply rA | apply rN | apply rD)); exact HO_15.out⟩, ⟨by (with_reducible repeat (first | apply rA | apply rN | apply rD)); exact HO_16.out⟩, ⟨by repeat (first | (with_reducible first | exact HB.out | apply eA | apply eN | apply eD) | exact HB.out)⟩⟩
      case round =>
       as_aux_lemma =>
        clear H'
        try clear c1; try clear c2; try clear p2; try clear c3; try clear c4; try clear c8; try clear c9; try clear c10; try clear c11; try clear c12; try clear c13; try clear c14; try clear c15; try clear c16; try clear c17; try clear c28; try clear c28b0; try clear c28b1; try clear c28b2; try clear c30; try clear c31; try clear c31b0; try clear c31b1; try clear c32; try clear c32b0; try clear c32b1; try clear c32b2; try clear c35; try clear c35b0; try clear c35b1; try clear c35b2; try clear c47; try clear p2
        obtain ⟨x20_2, rfl, HA, HK2, HO_3, HO_5, HO_13, HO_14, HO_15, HO_16, HB⟩ := hrel
        cases gk with
        | zero => exact absurd HA.out (by simp [laws_FnTeaching.l0])
        | succ k2 =>
         have H := HA.out
         clear HA
         simp only [laws_FnTeaching.l0] at H
         have HC48 := aM H
         clear H
         go_upto_region 14 with (fail)
         go_cut [118] (fun v118 wc => ∃ (kq : Nat) (x118_47 : Bool), v118 = .bool x118_47 ∧ Aside0 (laws_FnTeaching.j2 kq t442 t445 t446 t447 t454 t455 t461 t464 t467 t470 t471 x20_2 x118_47 = some r) ∧ Aside0 (kq ≤ k2) ∧ Aside0 (Kd.N (Kd.slice 3 (Kd.int .i64)) 27 wc w.heap.size (fun k_ => some k_ ≠ (v448 : Value).ownBlock ∧ some k_ ≠ ((.slice Ao23 t461.length co23) : Value).ownBlock ∧ some k_ ≠ ((.slice Ao24 t464.length co24) : Value).ownBlock ∧ some k_ ≠ ((.slice Ao25 t467.length co25) : Value).ownBlock ∧ some k_ ≠ (v472 : Value).ownBlock) (.slice Ao15 t442.length co15) t442) ∧ Aside0 (Kd.R (Kd.int .i64) 3 wc w.heap.size (fun k_ => some k_ ≠ ((.slice Ao24 t464.length co24) : Value).ownBlock ∧ some k_ ≠ ((.slice Ao25 t467.length co25) : Value).ownBlock ∧ some k_ ≠ (v472 : Value).ownBlock) v448 t446) ∧ Aside0 (Kd.N (Kd.slice 3 (Kd.int .i64)) 27 wc w.heap.size (fun k_ => some k_ ≠ ((.slice Ao15 t442.length co15) : Value).ownBlock ∧ some k_ ≠ (v448 : Value).ownBlock ∧ some k_ ≠ ((.slice Ao24 t464.length co24) : Value).ownBlock ∧ some k_ ≠ ((.slice Ao25 t467.length co25) : Value).ownBlock ∧ some k_ ≠ (v472 : Value).ownBlock) (.slice Ao23 t461.length co23) t461) ∧ Aside0 (Kd.R (Kd.int .i64) 3 wc w.heap.size (fun k_ => some k_ ≠ (v448 : Value).ownBlock ∧ some k_ ≠ ((.slice Ao25 t467.length co25) : Value).ownBlock ∧ some k_ ≠ (v472 : Value).ownBlock) (.slice Ao24 t464.length co24) t464) ∧ Aside0 (Kd.R (Kd.int .i64) 3 wc w.heap.size (fun k_ => some k_ ≠ (v448 : Value).ownBlock ∧ some k_ ≠ ((.slice Ao24 t464.length co24) : Value).ownBlock ∧ some k_ ≠ (v472 : Value).ownBlock) (.slice Ao25 t467.length co25) t467) ∧ Aside0 (Kd.R (Kd.int .i64) 3 wc w.heap.size (fun k_ => some k_ ≠ (v448 : Value).ownBlock ∧ some k_ ≠ ((.slice Ao24 t464.length co24) : Value).ownBlock ∧ some k_ ≠ ((.slice Ao25 t467.length co25) : Value).ownBlock) v472 t470) ∧ Aside0 (Below w.heap.size w wc))
         case first =>
          as_aux_lemma =>
           have H := HC48.out
           clear HC48
           by_cases c49 : t471 = true
           ·
            subst c49
            have H1 : (laws_FnTeaching.j2 k2 t442 t445 t446 t447 t454 t455 t461 t464 t467 t470 true x20_2 (decide (x20_2 < (t461.length : Int)))) = some r := by rw [if_pos rfl] at H; exact H
            clear H
            have H := H1
            clear H1
            have H' := aM H
            clear H
            go_wp2
            go_meet
            case rel => exact ⟨_, (decide (x20_2 < (t461.length : Int))), (by first | rfl | (simp; done) | (simp [*]; done)), H', ⟨by have := HJ12.out; have := HK2.out; first | omega | exact Nat.le_refl _⟩, ⟨by (with_reducible repeat (first | apply Kd.N_alloc | apply Kd.N_drewN | apply Kd.N_drew)); exact HO_3.out⟩, ⟨by (with_reducible repeat (first | apply rA | apply rN | apply rD)); exact HO_5.out⟩, ⟨by (with_reducible repeat (first | apply Kd.N_alloc | apply Kd.N_drewN | apply Kd.N_drew)); exact HO_13.out⟩, ⟨by (with_reducible repeat (first | apply rA | apply rN | apply rD)); exact HO_14.out⟩, ⟨by (with_reducible repeat (first | apply rA | apply rN | apply rD)); exact HO_15.out⟩, ⟨by (with_reducible repeat (first | apply rA | apply rN | apply rD)); exact HO_16.out⟩, ⟨by repeat (first | (with_reducible first | exact HB.out | apply eA | apply eN | apply eD) | exact HB.out)⟩⟩
           ·
            replace c49 := Bool.eq_false_iff.mpr c49
            subst c49
            have H1 : (laws_FnTeaching.j2 k2 t442 t445 t446 t447 t454 t455 t461 t464 t467 t470 false x20_2 false) = some r := by rw [if_neg (show ¬ (false = true) by decide)] at H; exact H
            clear H
            have H := H1
            clear H1
            have H' := aM H
            clear H
            go_wp2
            go_meet
            case rel => exact ⟨_, (false), (by first | rfl | (simp; done) | (simp [*]; done)), H', ⟨by have := HJ12.out; have := HK2.out; first | omega | exact Nat.le_refl _⟩, ⟨by (with_reducible repeat (first | apply Kd.N_alloc | apply Kd.N_drewN | apply Kd.N_drew)); exact HO_3.out⟩, ⟨by (with_reducible repeat (first | apply rA | apply rN | apply rD)); exact HO_5.out⟩, ⟨by (with_reducible repeat (first | apply Kd.N_alloc | apply Kd.N_drewN | apply Kd.N_drew)); exact HO_13.out⟩, ⟨by (with_reducible repeat (first | apply rA | apply rN | apply rD)); exact HO_14.out⟩, ⟨by (with_reducible repeat (first | apply rA | apply rN | apply rD)); exact HO_15.out⟩, ⟨by (with_reducible repeat (first | apply rA | apply rN | apply rD)); exact HO_16.out⟩, ⟨by repeat (first | (with_reducible first | exact HB.out | apply eA | apply eN | apply eD) | exact HB.out)⟩⟩
         case rest =>
          as_aux_lemma =>
           clear HC48
           try clear c1; try clear c2; try clear p2; try clear c3; try clear c4; try clear c8; try clear c9; try clear c10; try clear c11; try clear c12; try clear c13; try clear c14; try clear c15; try clear c16; try clear c17; try clear c28; try clear c28b0; try clear c28b1; try clear c28b2; try clear c30; try clear c31; try clear c31b0; try clear c31b1; try clear c32; try clear c32b0; try clear c32b1; try clear c32b2; try clear c35; try clear c35b0; try clear c35b1; try clear c35b2; try clear c47; try clear c49; try clear p2
           obtain ⟨kq, x118_47, rfl, HA, HJ47, HO_3, HO_5, HO_13, HO_14, HO_15, HO_16, HB⟩ := hcut
           cases kq with
           | zero => exact absurd HA.out (by simp [laws_FnTeaching.j2])
           | succ kj47 =>
            have H := HA.out
            clear HA
            simp only [laws_FnTeaching.j2] at H
            by_cases c50 : x118_47 = true
            ·
             subst c50
             have H1 : (laws_FnTeaching.l1 kj47 t442 t445 t446 t447 t454 t455 t461 t464 t467 t470 t471 x20_2 true 0) = some r := by rw [if_pos rfl] at H; exact H
             clear H
             have H := H1
             clear H1
             have H' := aM H
             clear H
             go_wp2
             go_loopg [21, 22] kj47 (fun kq v21 v22 w' => ∃ (x21_4 : Bool) (x22_4 : Int), v21 = .bool x21_4 ∧ v22 = .int .i64 x22_4 ∧ Aside0 (laws_FnTeaching.l1 kq t442 t445 t446 t447 t454 t455 t461 t464 t467 t470 t471 x20_2 x21_4 x22_4 = some r) ∧ Aside0 (kq ≤ kj47) ∧ Aside0 (Kd.N (Kd.slice 3 (Kd.int .i64)) 27 w' w.heap.size (fun k_ => some k_ ≠ (v448 : Value).ownBlock ∧ some k_ ≠ ((.slice Ao23 t461.length co23) : Value).ownBlock ∧ some k_ ≠ ((.slice Ao24 t464.length co24) : Value).ownBlock ∧ some k_ ≠ ((.slice Ao25 t467.length co25) : Value).ownBlock ∧ some k_ ≠ (v472 : Value).ownBlock) (.slice Ao15 t442.length co15) t442) ∧ Aside0 (Kd.R (Kd.int .i64) 3 w' w.heap.size (fun k_ => some k_ ≠ ((.slice Ao24 t464.length co24) : Value).ownBlock ∧ some k_ ≠ ((.slice Ao25 t467.length co25) : Value).ownBlock ∧ some k_ ≠ (v472 : Value).ownBlock) v448 t446) ∧ Aside0 (Kd.N (Kd.slice 3 (Kd.int .i64)) 27 w' w.heap.size (fun k_ => some k_ ≠ ((.slice Ao15 t442.length co15) : Value).ownBlock ∧ some k_ ≠ (v448 : Value).ownBlock ∧ some k_ ≠ ((.slice Ao24 t464.length co24) : Value).ownBlock ∧ some k_ ≠ ((.slice Ao25 t467.length co25) : Value).ownBlock ∧ some k_ ≠ (v472 : Value).ownBlock) (.slice Ao23 t461.length co23) t461) ∧ Aside0 (Kd.R (Kd.int .i64) 3 w' w.heap.size (fun k_ => some k_ ≠ (v448 : Value).ownBlock ∧ some k_ ≠ ((.slice Ao25 t467.length co25) : Value).ownBlock ∧ some k_ ≠ (v472 : Value).ownBlock) (.slice Ao24 t464.length co24) t464) ∧ Aside0 (Kd.R (Kd.int .i64) 3 w' w.heap.size (fun k_ => some k_ ≠ (v448 : Value).ownBlock ∧ some k_ ≠ ((.slice Ao24 t464.length co24) : Value).ownBlock ∧ some k_ ≠ (v472 : Value).ownBlock) (.slice Ao25 t467.length co25) t467) ∧ Aside0 (Kd.R (Kd.int .i64) 3 w' w.heap.size (fun k_ => some k_ ≠ (v448 : Value).ownBlock ∧ some k_ ≠ ((.slice Ao24 t464.length co24) : Value).ownBlock ∧ some k_ ≠ ((.slice Ao25 t467.length co25) : Value).ownBlock) v472 t470) ∧ Aside0 (Below w.heap.size w w'))
             case atStart => exact ⟨(true), (0), (by first | rfl | (simp; done) | (simp [*]; done)), (by first | rfl | (simp; done) | (simp [*]; done)), H', ⟨Nat.le_refl _⟩, ⟨by (with_reducible repeat (first | apply Kd.N_alloc | apply Kd.N_drewN | apply Kd.N_drew)); exact HO_3.out⟩, ⟨by (with_reducible repeat (first | apply rA | apply rN | apply rD)); exact HO_5.out⟩, ⟨by (with_reducible repeat (first | apply Kd.N_alloc | apply Kd.N_drewN | apply Kd.N_drew)); exact HO_13.out⟩, ⟨by (with_reducible repeat (first | apply rA | apply rN | apply rD)); exact HO_14.out⟩, ⟨by (with_reducible repeat (first | apply rA | apply rN | apply rD)); exact HO_15.out⟩, ⟨by (with_reducible repeat (first | apply rA | apply rN | apply rD)); exact HO_16.out⟩, ⟨by repeat (first | (with_reducible first | exact HB.out | apply eA | apply eN | apply eD) | exact HB.out)⟩⟩
             case round =>
              as_aux_lemma =>
               clear H'
               try clear c1; try clear c2; try clear p2; try clear c3; try clear c4; try clear c5; try clear c8; try clear c9; try clear c10; try clear c11; try clear c12; try clear c13; try clear c14; try clear c15; try clear c16; try clear c17; try clear c28; try clear c28b0; try clear c28b1; try clear c28b2; try clear c30; try clear c31; try clear c31b0; try clear c31b1; try clear c32; try clear c32b0; try clear c32b1; try clear c32b2; try clear c35; try clear c35b0; try clear c35b1; try clear c35b2; try clear c47; try clear c49; try clear c50; try clear p2
               obtain ⟨x21_4, x22_4, rfl, rfl, HA, HK4, HO_3, HO_5, HO_13, HO_14, HO_15, HO_16, HB⟩ := hrel
               cases gk with
               | zero => exact absurd HA.out (by simp [laws_FnTeaching.l1])
               | succ k4 =>
                have H := HA.out
                clear HA
                simp only [laws_FnTeaching.l1] at H
                by_cases c51 : x22_4 < (t464.length : Int)
                ·
                 rw [if_pos c51] at H
                 have c51b0 : decide (x22_4 < (t464.length : Int)) = true := decide_eq_true c51
                 clear c51
                 by_cases c52 : x21_4 = true
                 ·
                  subst c52
                  have H1 : (if 0 ≤ x20_2 then (if x20_2 < (t461.length : Int) then (if 0 ≤ x22_4 then (if 0 ≤ (rd t464 x22_4) then (if (rd t464 x22_4) < ((rd_L2 t461 x20_2).length : Int) then (if x22_4 < (t467.length : Int) then (laws_FnTeaching.l1 k4 t442 t445 t446 t447 t454 t455 t461 t464 t467 t470 t471 x20_2 ((rd (rd_L2 t461 x20_2) (rd t464 x22_4)) == (rd t467 x22_4)) (wrap64 (x22_4 + 1))) else (none)) else (none)) else (none)) else (none)) else (none)) else (none)) = some r := by rw [if_pos rfl] at H; exact H
                  clear H
                  have H := H1
                  clear H1
                  by_cases c53 : 0 ≤ x20_2
                  ·
                   rw [if_pos c53] at H
                   have c53b0 : decide (0 ≤ x20_2) = true := decide_eq_true c53
                   clear c53
                   by_cases c54 : x20_2 < (t461.length : Int)
                   ·
                    rw [if_pos c54] at H
                    have c54b0 : decide (x20_2 < (t461.length : Int)) = true := decide_eq_true c54
                    clear c54
                    by_cases c55 : 0 ≤ x22_4
                    ·
                     rw [if_pos c55] at H
                     have c55b0 : decide (0 ≤ x22_4) = true := decide_eq_true c55
                     clear c55
                     by_cases c56 : 0 ≤ (rd t464 x22_4)
                     ·
                      rw [if_pos c56] at H
                      have c56b0 : decide (0 ≤ (rd t464 x22_4)) = true := decide_eq_true c56
                      clear c56
                      by_cases c57 : (rd t464 x22_4) < ((rd_L2 t461 x20_2).length : Int)
                      ·
                       rw [if_pos c57] at H
                       have c57b0 : decide ((rd t464 x22_4) < ((rd_L2 t461 x20_2).length : Int)) = true := decide_eq_true c57
                       clear c57
                       by_cases c58 : x22_4 < (t467.length : Int)
                       ·
                        rw [if_pos c58] at H
                        have c58b0 : decide (x22_4 < (t467.length : Int)) = true := decide_eq_true c58
                        clear c58
                        have H' := aM H
                        clear H
                        try go_wp2
                        have n0_ := aM (Kd.N_drew HO_3.out)
                        have n1_ := aM (rD HO_5.out)
                        have n2_ := aM (Kd.N_drew HO_13.out)
                        have n3_ := aM (rD HO_14.out)
                        have n4_ := aM (rD HO_15.out)
                        have n5_ := aM (rD HO_16.out)
                        have n6_ := aM (eD HB.out)
                        clear HO_3
                        clear HO_5
                        clear HO_13
                        clear HO_14
                        clear HO_15
                        clear HO_16
                        clear HB
                        have HO_3 := n0_
                        have HO_5 := n1_
                        have HO_13 := n2_
                        have HO_14 := n3_
                        have HO_15 := n4_
                        have HO_16 := n5_
                        have HB := n6_
                        clear n0_ n1_ n2_ n3_ n4_ n5_ n6_
                        have p480 : 0 ≤ (x20_2 : Int) := of_decide_eq_true (by first | (with_reducible assumption) | assumption)
                        have q480 : x20_2 < (t461.length : Int) := of_decide_eq_true (by first | (with_reducible assumption) | assumption)
                        obtain ⟨ad480, A480_0, c480_0, e480, hx480_0, hl480_0, hi480_0⟩ := at_L2 (Kd.N_reads' HO_13.out).2.2 x20_2 p480 q480
                        cases e480
                        obtain ⟨ce480, hce480, hMe480, hcc480⟩ := Kd.N_get HO_13.out [] x20_2 p480 (by first | exact q480 | exact of_decide_eq_true (by first | (with_reducible assumption) | assumption) | (have e_ := (Kd.N_reads' HO_13.out).1; omega))
                        obtain ⟨ua480_0, uc480_0, rfl, ul480_0, ge480_0⟩ := Kd.FK_slice_open hMe480
                        have hv480_0 := hcc480 0 _ rfl
                        rw [Nat.add_zero, show ((Kd.slice 3 (Kd.int .i64))).sz = 1 from rfl, Nat.mul_one] at hv480_0
                        replace hv480_0 := Option.some.inj (hv480_0.symm.trans hx480_0)
                        injection hv480_0 with hva_ hvn_ hvc_
                        rw [hva_] at ge480_0
                        rw [hvc_] at ul480_0
                        have HL480_0 := aM (show Kd.V (Kd.int .i64) 3 _ w.heap.size _ _ (rd_L2 t461 x20_2) from Kd.V_mk ul480_0 ge480_0)
                        clear hva_ hvn_ hvc_ ge480_0 ul480_0
                        clear hcc480 hce480
                        have HR480_0 := aM hi480_0
                        have HC480_0 := aM hl480_0
                        clear hi480_0 hl480_0
                        replace p480 := eq_true p480
                        replace q480 := eq_true q480
                        have p481 : 0 ≤ (x22_4 : Int) := of_decide_eq_true (by first | (with_reducible assumption) | assumption)
                        have q481 : x22_4 < (t464.length : Int) := of_decide_eq_true (by first | (with_reducible assumption) | assumption)
                        obtain ⟨ad481, e481, hx481_0⟩ := Kd.at_int (Kd.R_reads' HO_14.out).2.2 x22_4 p481 q481
                        cases e481
                        replace p481 := eq_true p481
                        replace q481 := eq_true q481
                        have p482 : 0 ≤ ((rd t464 x22_4) : Int) := of_decide_eq_true (by first | (with_reducible assumption) | assumption)
                        have q482 : (rd t464 x22_4) < ((rd_L2 t461 x20_2).length : Int) := of_decide_eq_true (by first | (with_reducible assumption) | assumption)
                        obtain ⟨ad482, e482, hx482_0⟩ := Kd.at_int (by repeat (first | (with_reducible exact HR480_0.out) | (with_reducible refine Kd.C_alloc ?_ _) | (with_reducible refine Kd.C_drewN ?_ _) | (with_reducible refine Kd.C_drew ?_) | exact HR480_0.out)) (rd t464 x22_4) p482 q482
                        cases e482
                        replace p482 := eq_true p482
                        replace q482 := eq_true q482
                        have p483 : 0 ≤ (x22_4 : Int) := of_decide_eq_true (by first | (with_reducible assumption) | assumption)
                        have q483 : x22_4 < (t467.length : Int) := of_decide_eq_true (by first | (with_reducible assumption) | assumption)
                        obtain ⟨ad483, e483, hx483_0⟩ := Kd.at_int (Kd.R_reads' HO_15.out).2.2 x22_4 p483 q483
                        cases e483
                        replace p483 := eq_true p483
                        replace q483 := eq_true q483
                        refine start_ (n := 19) (S := fun w' => w'.cell? (ad480.add (x20_2).toNat) = some (.slice (some ad482) (rd_L2 t461 x20_2).length c480_0) ∧ w'.cell? (ad481.add (x22_4).toNat) = some (.int .i64 (rd t464 x22_4)) ∧ w'.cell? (ad482.add ((rd t464 x22_4)).toNat) = some (.int .i64 (rd (rd_L2 t461 x20_2) (rd t464 x22_4))) ∧ w'.cell? (ad483.add (x22_4).toNat) = some (.int .i64 (rd t467 x22_4))) (ds := []) #[false, false, false, false, false, false, false, false, false, false, false, false, false, false, false, false, false, false, false] (by kernel_rfl) rfl rfl ⟨hx480_0, hx481_0, hx482_0, hx483_0⟩ (fun hHeld => ?_); refine with_tabW laws_FnTeaching.tab20 laws_FnTeaching.bits20 (fun HT_ HW_ => ?_)
                        generalize wr.drew = w59 at HO_3 HO_5 HO_13 HO_14 HO_15 HO_16 HB HL480_0 HR480_0 hx480_0 hx481_0 hx482_0 hx483_0 hHeld ⊢
                        refine pure_ (i := 0) (N := some 127) (v := ?_) (a' := ?_) #[true, false, false, false, false, false, false, false, false, false, false, false, false, false, false, false, false, false, false] rfl rfl (any_of HT_.out (by kernel_rfl)) (fun _ _ _ h => h) (Or.inl ⟨by rfl, ?_⟩) ?_ ?_
                        rotate_left
                        ·
                         intro w'
                         go_simp
                         with_reducible rfl
                        rotate_left
                        ·
                         simp only [Act.put, sA, sZ, sU, i64_w, i32_w]
                         rfl
                        refine pure_ (i := 1) (N := some 128) (v := ?_) (a' := ?_) #[true, true, false, false, false, false, false, false, false, false, false, false, false, false, false, false, false, false, false] rfl rfl (any_of HT_.out (by kernel_rfl)) (fun _ _ _ h => h) (Or.inl ⟨by rfl, ?_⟩) ?_ ?_
                        rotate_left
                        ·
                         intro w'
                         go_simp
                         with_reducible rfl
                        rotate_left
                        ·
                         simp only [Act.put, sA, sZ, sU, i64_w, i32_w]
                         rfl
                        refine pure_ (i := 2) (N := some 129) (v := ?_) (a' := ?_) #[true, true, true, false, false, false, false, false, false, false, false, false, false, false, false, false, false, false, false] rfl rfl (any_of HT_.out (by kernel_rfl)) (fun _ _ _ h => h) (Or.inl ⟨by rfl, ?_⟩) ?_ ?_
                        rotate_left
                        ·
                         intro w'
                         go_simp
                         with_reducible rfl
                        rotate_left
                        ·
                         simp only [Act.put, sA, sZ, sU, i64_w, i32_w]
                         rfl
                        refine pure_ (i := 3) (N := some 130) (v := ?_) (a' := ?_) #[true, true, true, true, false, false, false, false, false, false, false, false, false, false, false, false, false, false, false] rfl rfl (any_of HT_.out (by kernel_rfl)) (fun _ _ _ h => h) (Or.inl ⟨by rfl, ?_⟩) ?_ ?_
                        rotate_left
                        ·
                         intro w'
                         go_simp
                         with_reducible rfl
                        rotate_left
                        ·
                         simp only [Act.put, sA, sZ, sU, i64_w, i32_w]
                         rfl
                        refine pure_ (i := 4) (N := some 131) (v := ?_) (a' := ?_) #[true, true, true, true, true, false, false, false, false, false, false, false, false, false, false, false, false, false, false] rfl rfl (any_of HT_.out (by kernel_rfl)) (fun _ _ _ h => h) (Or.inl ⟨by rfl, ?_⟩) ?_ ?_
                        rotate_left
                        ·
                         intro w'
                         go_simp
                         with_reducible rfl
                        rotate_left
                        ·
                         simp only [Act.put, sA, sZ, sU, i64_w, i32_w]
                         rfl
                        refine pure_ (i := 6) (N := some 133) (v := ?_) (a' := ?_) #[true, true, true, true, true, false, true, false, false, false, false, false, false, false, false, false, false, false, false] rfl rfl (any_of HT_.out (by kernel_rfl)) (fun _ _ _ h => h) (Or.inl ⟨by rfl, ?_⟩) ?_ ?_
                        rotate_left
                        ·
                         intro w'
                         go_simp
                         with_reducible rfl
                        rotate_left
                        ·
                         simp only [Act.put, sA, sZ, sU, i64_w, i32_w]
                         rfl
                        refine pure_ (i := 7) (N := some 134) (v := ?_) (a' := ?_) #[true, true, true, true, true, false, true, true, false, false, false, false, false, false, false, false, false, false, false] rfl rfl (any_of HT_.out (by kernel_rfl)) (fun _ _ _ h => h) (Or.inl ⟨by rfl, ?_⟩) ?_ ?_
                        rotate_left
                        ·
                         intro w'
                         go_simp
                         with_reducible rfl
                        rotate_left
                        ·
                         simp only [Act.put, sA, sZ, sU, i64_w, i32_w]
                         rfl
                        refine pure_ (i := 8) (N := some 135) (v := ?_) (a' := ?_) #[true, true, true, true, true, false, true, true, true, false, false, false, false, false, false, false, false, false, false] rfl rfl (any_of HT_.out (by kernel_rfl)) (fun _ _ _ h => h) (Or.inl ⟨by rfl, ?_⟩) ?_ ?_
                        rotate_left
                        ·
                         intro w'
                         go_simp
                         with_reducible rfl
                        rotate_left
                        ·
                         simp only [Act.put, sA, sZ, sU, i64_w, i32_w]
                         rfl
                        refine pure_ (i := 12) (N := some 139) (v := ?_) (a' := ?_) #[true, true, true, true, true, false, true, true, true, false, false, false, true, false, false, false, false, false, false] rfl rfl (any_of HT_.out (by kernel_rfl)) (fun _ _ _ h => h) (Or.inl ⟨by rfl, ?_⟩) ?_ ?_
                        rotate_left
                        ·
                         intro w'
                         go_simp
                         with_reducible rfl
                        rotate_left
                        ·
                         simp only [Act.put, sA, sZ, sU, i64_w, i32_w]
                         rfl
                        refine pure_ (i := 13) (N := some 140) (v := ?_) (a' := ?_) #[true, true, true, true, true, false, true, true, true, false, false, false, true, true, false, false, false, false, false] rfl rfl (any_of HT_.out (by kernel_rfl)) (fun _ _ _ h => h) (Or.inl ⟨by rfl, ?_⟩) ?_ ?_
                        rotate_left
                        ·
                         intro w'
                         go_simp
                         with_reducible rfl
                        rotate_left
                        ·
                         simp only [Act.put, sA, sZ, sU, i64_w, i32_w]
                         rfl
                        refine pure_ (i := 14) (N := some 141) (v := ?_) (a' := ?_) #[true, true, true, true, true, false, true, true, true, false, false, false, true, true, true, false, false, false, false] rfl rfl (any_of HT_.out (by kernel_rfl)) (fun _ _ _ h => h) (Or.inl ⟨by rfl, ?_⟩) ?_ ?_
                        rotate_left
                        ·
                         intro w'
                         go_simp
                         with_reducible rfl
                        rotate_left
                        ·
                         simp only [Act.put, sA, sZ, sU, i64_w, i32_w]
                         rfl
                        refine take_ (i := 5) (N := some 132) (v := ?_) (a' := ?_) #[true, true, true, true, true, true, true, true, true, false, false, false, true, true, true, false, false, false, false] rfl rfl (take_ofW HT_.out HW_.out (by kernel_rfl)) (fun _ _ _ h => h) (Or.inl ⟨by rfl, ?_⟩) hHeld ?_ ?_
                        rotate_left
                        ·
                         rintro w' ⟨s0, s1, s2, s3⟩
                         first | (go_simp; with_reducible rfl) | (simp only [add_plain] at s0 s1 s2 s3; go_simp; with_reducible rfl)
                        rotate_left
                        ·
                         simp only [Act.put, sA, sZ, sU, i64_w, i32_w]
                         rfl
                        refine take_ (i := 9) (N := some 136) (v := ?_) (a' := ?_) #[true, true, true, true, true, true, true, true, true, true, false, false, true, true, true, false, false, false, false] rfl rfl (take_ofW HT_.out HW_.out (by kernel_rfl)) (fun _ _ _ h => h) (Or.inl ⟨by rfl, ?_⟩) hHeld ?_ ?_
                        rotate_left
                        ·
                         rintro w' ⟨s0, s1, s2, s3⟩
                         first | (go_simp; with_reducible rfl) | (simp only [add_plain] at s0 s1 s2 s3; go_simp; with_reducible rfl)
                        rotate_left
                        ·
                         simp only [Act.put, sA, sZ, sU, i64_w, i32_w]
                         rfl
                        refine pure_ (i := 10) (N := some 137) (v := ?_) (a' := ?_) #[true, true, true, true, true, true, true, true, true, true, true, false, true, true, true, false, false, false, false] rfl rfl (any_of HT_.out (by kernel_rfl)) (fun _ _ _ h => h) (Or.inl ⟨by rfl, ?_⟩) ?_ ?_
                        rotate_left
                        ·
                         intro w'
                         go_simp
                         with_reducible rfl
                        rotate_left
                        ·
                         simp only [Act.put, sA, sZ, sU, i64_w, i32_w]
                         rfl
                        refine take_ (i := 11) (N := some 138) (v := ?_) (a' := ?_) #[true, true, true, true, true, true, true, true, true, true, true, true, true, true, true, false, false, false, false] rfl rfl (take_ofW HT_.out HW_.out (by kernel_rfl)) (fun _ _ _ h => h) (Or.inl ⟨by rfl, ?_⟩) hHeld ?_ ?_
                        rotate_left
                        ·
                         rintro w' ⟨s0, s1, s2, s3⟩
                         first | (go_simp; with_reducible rfl) | (simp only [add_plain] at s0 s1 s2 s3; go_simp; with_reducible rfl)
                        rotate_left
                        ·
                         simp only [Act.put, sA, sZ, sU, i64_w, i32_w]
                         rfl
                        refine take_ (i := 15) (N := some 142) (v := ?_) (a' := ?_) #[true, true, true, true, true, true, true, true, true, true, true, true, true, true, true, true, false, false, false] rfl rfl (take_ofW HT_.out HW_.out (by kernel_rfl)) (fun _ _ _ h => h) (Or.inl ⟨by rfl, ?_⟩) hHeld ?_ ?_
                        rotate_left
                        ·
                         rintro w' ⟨s0, s1, s2, s3⟩
                         first | (go_simp; with_reducible rfl) | (simp only [add_plain] at s0 s1 s2 s3; go_simp; with_reducible rfl)
                        rotate_left
                        ·
                         simp only [Act.put, sA, sZ, sU, i64_w, i32_w]
                         rfl
                        refine pure_ (i := 16) (N := some 143) (v := ?_) (a' := ?_) #[true, true, true, true, true, true, true, true, true, true, true, true, true, true, true, true, true, false, false] rfl rfl (any_of HT_.out (by kernel_rfl)) (fun _ _ _ h => h) (Or.inl ⟨by rfl, ?_⟩) ?_ ?_
                        rotate_left
                        ·
                         intro w'
                         go_simp
                         with_reducible rfl
                        rotate_left
                        ·
                         simp only [Act.put, sA, sZ, sU, i64_w, i32_w]
                         rfl
                        refine pure_ (i := 17) (N := some 144) (v := ?_) (a' := ?_) #[true, true, true, true, true, true, true, true, true, true, true, true, true, true, true, true, true, true, false] rfl rfl (any_of HT_.out (by kernel_rfl)) (fun _ _ _ h => h) (Or.inl ⟨by rfl, ?_⟩) ?_ ?_
                        rotate_left
                        ·
                         intro w'
                         go_simp
                         with_reducible rfl
                        rotate_left
                        ·
                         simp only [Act.put, sA, sZ, sU, i64_w, i32_w]
                         rfl
                        refine pure_ (i := 18) (N := some 21) (v := ?_) (a' := ?_) #[true, true, true, true, true, true, true, true, true, true, true, true, true, true, true, true, true, true, true] rfl rfl (any_of HT_.out (by kernel_rfl)) (fun _ _ _ h => h) (Or.inl ⟨by rfl, ?_⟩) ?_ ?_
                        rotate_left
                        ·
                         intro w'
                         go_simp
                         with_reducible rfl
                        rotate_left
                        ·
                         simp only [Act.put, sA, sZ, sU, i64_w, i32_w]
                         rfl
                        refine done_ (done_of HT_.out (by kernel_rfl)) ?_
                        try go_wp2
                        go_roundg k4
                        case measure => have := HJ12.out; have := HK2.out; have := HJ47.out; have := HK4.out; omega
                        case rel => exact ⟨(((rd (rd_L2 t461 x20_2) (rd t464 x22_4)) == (rd t467 x22_4))), (wrap64 (x22_4 + 1)), (by first | rfl | (simp; done) | (simp [*]; done)), (by first | rfl | (simp; done) | (simp [*]; done)), H', ⟨by have := HJ12.out; have := HK2.out; have := HJ47.out; have := HK4.out; omega⟩, ⟨by (with_reducible repeat (first | apply Kd.N_alloc | apply Kd.N_drewN | apply Kd.N_drew)); exact HO_3.out⟩, ⟨by (with_reducible repeat (first | apply rA | apply rN | apply rD)); exact HO_5.out⟩, ⟨by (with_reducible repeat (first | apply Kd.N_alloc | apply Kd.N_drewN | apply Kd.N_drew)); exact HO_13.out⟩, ⟨by (with_reducible repeat (first | apply rA | apply rN | apply rD)); exact HO_14.out⟩, ⟨by (with_reducible repeat (first | apply rA | apply rN | apply rD)); exact HO_15.out⟩, ⟨by (with_reducible repeat (first | apply rA | apply rN | apply rD)); exact HO_16.out⟩, ⟨by repeat (first | (with_reducible first | exact HB.out | apply eA | apply eN | apply eD) | exact HB.out)⟩⟩
                       ·
                        rw [if_neg c58] at H
                        exact absurd H (by simp)
                      ·
                       rw [if_neg c57] at H
                       exact absurd H (by simp)
                     ·
                      rw [if_neg c56] at H
                      exact absurd H (by simp)
                    ·
                     rw [if_neg c55] at H
                     exact absurd H (by simp)
                   ·
                    rw [if_neg c54] at H
                    exact absurd H (by simp)
                  ·
                   rw [if_neg c53] at H
                   exact absurd H (by simp)
                 ·
                  replace c52 := Bool.eq_false_iff.mpr c52
                  subst c52
                  have H1 : (laws_FnTeaching.l1 k4 t442 t445 t446 t447 t454 t455 t461 t464 t467 t470 t471 x20_2 false (wrap64 (x22_4 + 1))) = some r := by rw [if_neg (show ¬ (false = true) by decide)] at H; exact H
                  clear H
                  have H := H1
                  clear H1
                  have H' := aM H
                  clear H
                  try go_wp2
                  have n0_ := aM (Kd.N_drew HO_3.out)
                  have n1_ := aM (rD HO_5.out)
                  have n2_ := aM (Kd.N_drew HO_13.out)
                  have n3_ := aM (rD HO_14.out)
                  have n4_ := aM (rD HO_15.out)
                  have n5_ := aM (rD HO_16.out)
                  have n6_ := aM (eD HB.out)
                  clear HO_3
                  clear HO_5
                  clear HO_13
                  clear HO_14
                  clear HO_15
                  clear HO_16
                  clear HB
                  have HO_3 := n0_
                  have HO_5 := n1_
                  have HO_13 := n2_
                  have HO_14 := n3_
                  have HO_15 := n4_
                  have HO_16 := n5_
                  have HB := n6_
                  clear n0_ n1_ n2_ n3_ n4_ n5_ n6_
                  refine start_ (n := 19) (S := fun w' => True) (ds := []) #[false, false, false, false, false, false, false, false, false, false, false, false, false, false, false, false, false, false, false] (by kernel_rfl) rfl rfl trivial (fun hHeld => ?_); refine with_tabW laws_FnTeaching.tab20 laws_FnTeaching.bits20 (fun HT_ HW_ => ?_)
                  generalize wr.drew = w60 at HO_3 HO_5 HO_13 HO_14 HO_15 HO_16 HB hHeld ⊢
                  refine pure_ (i := 0) (N := some 127) (v := ?_) (a' := ?_) #[true, false, false, false, false, false, false, false, false, false, false, false, false, false, false, false, false, false, false] rfl rfl (any_of HT_.out (by kernel_rfl)) (fun _ _ _ h => h) (Or.inl ⟨by rfl, ?_⟩) ?_ ?_
                  rotate_left
                  ·
                   intro w'
                   go_simp
                   with_reducible rfl
                  rotate_left
                  ·
                   simp only [Act.put, sA, sZ, sU, i64_w, i32_w]
                   rfl
                  refine pure_ (i := 1) (N := some 128) (v := ?_) (a' := ?_) #[true, true, false, false, false, false, false, false, false, false, false, false, false, false, false, false, false, false, false] rfl rfl (any_of HT_.out (by kernel_rfl)) (fun _ _ _ h => h) (Or.inl ⟨by rfl, ?_⟩) ?_ ?_
                  rotate_left
                  ·
                   intro w'
                   go_simp
                   with_reducible rfl
                  rotate_left
                  ·
                   simp only [Act.put, sA, sZ, sU, i64_w, i32_w]
                   rfl
                  refine pure_ (i := 2) (N := some 129) (v := undef) (a' := ?_) #[true, true, true, false, false, false, false, false, false, false, false, false, false, false, false, false, false, false, false] rfl rfl (any_of HT_.out (by kernel_rfl)) (fun _ _ _ h => h) (Or.inr ⟨by rfl, rfl⟩) ?_ ?_
                  rotate_left
                  ·
                   simp only [Act.put, sA, sZ, sU, i64_w, i32_w]
                   rfl
                  refine pure_ (i := 3) (N := some 130) (v := undef) (a' := ?_) #[true, true, true, true, false, false, false, false, false, false, false, false, false, false, false, false, false, false, false] rfl rfl (any_of HT_.out (by kernel_rfl)) (fun _ _ _ h => h) (Or.inr ⟨by rfl, rfl⟩) ?_ ?_
                  rotate_left
                  ·
                   simp only [Act.put, sA, sZ, sU, i64_w, i32_w]
                   rfl
                  refine pure_ (i := 4) (N := some 131) (v := undef) (a' := ?_) #[true, true, true, true, true, false, false, false, false, false, false, false, false, false, false, false, false, false, false] rfl rfl (any_of HT_.out (by kernel_rfl)) (fun _ _ _ h => h) (Or.inr ⟨by rfl, rfl⟩) ?_ ?_
                  rotate_left
                  ·
                   simp only [Act.put, sA, sZ, sU, i64_w, i32_w]
                   rfl
                  refine pure_ (i := 5) (N := some 132) (v := undef) (a' := ?_) #[true, true, true, true, true, true, false, false, false, false, false, false, false, false, false, false, false, false, false] rfl rfl (any_of HT_.out (by kernel_rfl)) (fun _ _ _ h => h) (Or.inr ⟨by rfl, rfl⟩) ?_ ?_
                  rotate_left
                  ·
                   simp only [Act.put, sA, sZ, sU, i64_w, i32_w]
                   rfl
                  refine pure_ (i := 6) (N := some 133) (v := undef) (a' := ?_) #[true, true, true, true, true, true, true, false, false, false, false, false, false, false, false, false, false, false, false] rfl rfl (any_of HT_.out (by kernel_rfl)) (fun _ _ _ h => h) (Or.inr ⟨by rfl, rfl⟩) ?_ ?_
                  rotate_left
                  ·
                   simp only [Act.put, sA, sZ, sU, i64_w, i32_w]
                   rfl
                  refine pure_ (i := 7) (N := some 134) (v := undef) (a' := ?_) #[true, true, true, true, true, true, true, true, false, false, false, false, false, false, false, false, false, false, false] rfl rfl (any_of HT_.out (by kernel_rfl)) (fun _ _ _ h => h) (Or.inr ⟨by rfl, rfl⟩) ?_ ?_
                  rotate_left
                  ·
                   simp only [Act.put, sA, sZ, sU, i64_w, i32_w]
                   rfl
                  refine pure_ (i := 8) (N := some 135) (v := undef) (a' := ?_) #[true, true, true, true, true, true, true, true, true, false, false, false, false, false, false, false, false, false, false] rfl rfl (any_of HT_.out (by kernel_rfl)) (fun _ _ _ h => h) (Or.inr ⟨by rfl, rfl⟩) ?_ ?_
                  rotate_left
                  ·
                   simp only [Act.put, sA, sZ, sU, i64_w, i32_w]
                   rfl
                  refine pure_ (i := 9) (N := some 136) (v := undef) (a' := ?_) #[true, true, true, true, true, true, true, true, true, true, false, false, false, false, false, false, false, false, false] rfl rfl (any_of HT_.out (by kernel_rfl)) (fun _ _ _ h => h) (Or.inr ⟨by rfl, rfl⟩) ?_ ?_
                  rotate_left
                  ·
                   simp only [Act.put, sA, sZ, sU, i64_w, i32_w]
                   rfl
                  refine pure_ (i := 10) (N := some 137) (v := undef) (a' := ?_) #[true, true, true, true, true, true, true, true, true, true, true, false, false, false, false, false, false, false, false] rfl rfl (any_of HT_.out (by kernel_rfl)) (fun _ _ _ h => h) (Or.inr ⟨by rfl, rfl⟩) ?_ ?_
                  rotate_left
                  ·
                   simp only [Act.put, sA, sZ, sU, i64_w, i32_w]
                   rfl
                  refine pure_ (i := 11) (N := some 138) (v := undef) (a' := ?_) #[true, true, true, true, true, true, true, true, true, true, true, true, false, false, false, false, false, false, false] rfl rfl (any_of HT_.out (by kernel_rfl)) (fun _ _ _ h => h) (Or.inr ⟨by rfl, rfl⟩) ?_ ?_
                  rotate_left
                  ·
                   simp only [Act.put, sA, sZ, sU, i64_w, i32_w]
                   rfl
                  refine pure_ (i := 12) (N := some 139) (v := undef) (a' := ?_) #[true, true, true, true, true, true, true, true, true, true, true, true, true, false, false, false, false, false, false] rfl rfl (any_of HT_.out (by kernel_rfl)) (fun _ _ _ h => h) (Or.inr ⟨by rfl, rfl⟩) ?_ ?_
                  rotate_left
                  ·
                   simp only [Act.put, sA, sZ, sU, i64_w, i32_w]
                   rfl
                  refine pure_ (i := 13) (N := some 140) (v := undef) (a' := ?_) #[true, true, true, true, true, true, true, true, true, true, true, true, true, true, false, false, false, false, false] rfl rfl (any_of HT_.out (by kernel_rfl)) (fun _ _ _ h => h) (Or.inr ⟨by rfl, rfl⟩) ?_ ?_
                  rotate_left
                  ·
                   simp only [Act.put, sA, sZ, sU, i64_w, i32_w]
                   rfl
                  refine pure_ (i := 14) (N := some 141) (v := undef) (a' := ?_) #[true, true, true, true, true, true, true, true, true, true, true, true, true, true, true, false, false, false, false] rfl rfl (any_of HT_.out (by kernel_rfl)) (fun _ _ _ h => h) (Or.inr ⟨by rfl, rfl⟩) ?_ ?_
                  rotate_left
                  ·
                   simp only [Act.put, sA, sZ, sU, i64_w, i32_w]
                   rfl
                  refine pure_ (i := 15) (N := some 142) (v := undef) (a' := ?_) #[true, true, true, true, true, true, true, true, true, true, true, true, true, true, true, true, false, false, false] rfl rfl (any_of HT_.out (by kernel_rfl)) (fun _ _ _ h => h) (Or.inr ⟨by rfl, rfl⟩) ?_ ?_
                  rotate_left
                  ·
                   simp only [Act.put, sA, sZ, sU, i64_w, i32_w]
                   rfl
                  refine pure_ (i := 16) (N := some 143) (v := undef) (a' := ?_) #[true, true, true, true, true, true, true, true, true, true, true, true, true, true, true, true, true, false, false] rfl rfl (any_of HT_.out (by kernel_rfl)) (fun _ _ _ h => h) (Or.inr ⟨by rfl, rfl⟩) ?_ ?_
                  rotate_left
                  ·
                   simp only [Act.put, sA, sZ, sU, i64_w, i32_w]
                   rfl
                  refine pure_ (i := 17) (N := some 144) (v := ?_) (a' := ?_) #[true, true, true, true, true, true, true, true, true, true, true, true, true, true, true, true, true, true, false] rfl rfl (any_of HT_.out (by kernel_rfl)) (fun _ _ _ h => h) (Or.inl ⟨by rfl, ?_⟩) ?_ ?_
                  rotate_left
                  ·
                   intro w'
                   go_simp
                   with_reducible rfl
                  rotate_left
                  ·
                   simp only [Act.put, sA, sZ, sU, i64_w, i32_w]
                   rfl
                  refine pure_ (i := 18) (N := some 21) (v := ?_) (a' := ?_) #[true, true, true, true, true, true, true, true, true, true, true, true, true, true, true, true, true, true, true] rfl rfl (any_of HT_.out (by kernel_rfl)) (fun _ _ _ h => h) (Or.inl ⟨by rfl, ?_⟩) ?_ ?_
                  rotate_left
                  ·
                   intro w'
                   go_simp
                   with_reducible rfl
                  rotate_left
                  ·
                   simp only [Act.put, sA, sZ, sU, i64_w, i32_w]
                   rfl
                  refine done_ (done_of HT_.out (by kernel_rfl)) ?_
                  try go_wp2
                  go_roundg k4
                  case measure => have := HJ12.out; have := HK2.out; have := HJ47.out; have := HK4.out; omega
                  case rel => exact ⟨(false), (wrap64 (x22_4 + 1)), (by first | rfl | (simp; done) | (simp [*]; done)), (by first | rfl | (simp; done) | (simp [*]; done)), H', ⟨by have := HJ12.out; have := HK2.out; have := HJ47.out; have := HK4.out; omega⟩, ⟨by (with_reducible repeat (first | apply Kd.N_alloc | apply Kd.N_drewN | apply Kd.N_drew)); exact HO_3.out⟩, ⟨by (with_reducible repeat (first | apply rA | apply rN | apply rD)); exact HO_5.out⟩, ⟨by (with_reducible repeat (first | apply Kd.N_alloc | apply Kd.N_drewN | apply Kd.N_drew)); exact HO_13.out⟩, ⟨by (with_reducible repeat (first | apply rA | apply rN | apply rD)); exact HO_14.out⟩, ⟨by (with_reducible repeat (first | apply rA | apply rN | apply rD)); exact HO_15.out⟩, ⟨by (with_reducible repeat (first | apply rA | apply rN | apply rD)); exact HO_16.out⟩, ⟨by repeat (first | (with_reducible first | exact HB.out | apply eA | apply eN | apply eD) | exact HB.out)⟩⟩
                ·
                 rw [if_neg c51] at H
                 have c51b0 : decide (x22_4 < (t464.length : Int)) = false := decide_eq_false c51
                 clear c51
                 replace H := oB.mp H
                 obtain ⟨t484, A610, H⟩ := H
                 replace H : (if (x21_4 != t484) = true then (none) else (laws_FnTeaching.l0 k4 t442 t445 t446 t447 t454 t455 t461 t464 t467 t470 t471 (wrap64 (x20_2 + 1)))) = some r := H
                 have A61 := aM A610
                 clear A610
                 by_cases c62 : (x21_4 != t484) = true
                 ·
                  rw [if_pos c62] at H
                  exact absurd H (by simp)
                 ·
                  rw [if_neg c62] at H
                  have c62b0 : (x21_4 != t484) = false := by simpa using c62
                  (try (have c62b1 : decide (x21_4 = t484) = true := by simpa using c62))
                  (try (have c62b2 : (x21_4 == t484) = true := by simpa using c62))
                  clear c62
                  have H' := aM H
                  clear H
                  obtain ⟨Ao63, co63, eo63⟩ := Kd.R_slice HO_16.out
                  subst eo63
                  go_wp2_with (first | ((with_reducible refine gate_callee (f := 19) rfl ?_); refine goesL_ (some 148) rfl rfl Try.func19 (by kernel_rfl) rfl #[.slice Ao63 t470.length co63, .int .i64 x20_2] rfl (by (try simp only [List.map_toArray, List.map_cons, List.map_nil]); first | done | rfl | (simp only [List.length_drop, List.length_take]; rfl)) ?_; (with_reducible refine (laws_vHas.calls k4 _ _ t470 x20_2 t484 _ ?side1 ?side2 A61.out).mono ?_); (case side1 => repeat (first | exact (Kd.R_reads' HO_16.out).2.2 | (with_reducible refine Kd.C_alloc ?_ _) | (with_reducible refine Kd.C_drewN ?_ _) | (with_reducible refine Kd.C_drew ?_))); (case side2 => exact (Kd.R_reads' HO_16.out).2.1); rintro e w' ⟨rfl, ⟨nd, rfl⟩⟩; refine ⟨_, rfl, ?_⟩))
                  go_roundg k4
                  case measure => have := HJ12.out; have := HK2.out; have := HJ47.out; have := HK4.out; omega
                  case rel => exact ⟨(wrap64 (x20_2 + 1)), (by first | rfl | (simp; done) | (simp [*]; done)), H', ⟨by have := HJ12.out; have := HK2.out; have := HJ47.out; have := HK4.out; omega⟩, ⟨by (with_reducible repeat (first | apply Kd.N_alloc | apply Kd.N_drewN | apply Kd.N_drew)); exact HO_3.out⟩, ⟨by (with_reducible repeat (first | apply rA | apply rN | apply rD)); exact HO_5.out⟩, ⟨by (with_reducible repeat (first | apply Kd.N_alloc | apply Kd.N_drewN | apply Kd.N_drew)); exact HO_13.out⟩, ⟨by (with_reducible repeat (first | apply rA | apply rN | apply rD)); exact HO_14.out⟩, ⟨by (with_reducible repeat (first | apply rA | apply rN | apply rD)); exact HO_15.out⟩, ⟨by (with_reducible repeat (first | apply rA | apply rN | apply rD)); exact HO_16.out⟩, ⟨by repeat (first | (with_reducible first | exact HB.out | apply eA | apply eN | apply eD) | exact HB.out)⟩⟩
            ·
             replace c50 := Bool.eq_false_iff.mpr c50
             subst c50
             have H1 : (if t447 = true then (laws_FnTeaching.l2 kj47 t442 t445 t446 t454 t455 (([] : List Int)) 0) else (some true)) = some r := by rw [if_neg (show ¬ (false = true) by decide)] at H; exact H
             clear H
             have H := H1
             clear H1
             by_cases c64 : t447 = true
             ·
              subst c64
              have H1 : (laws_FnTeaching.l2 kj47 t442 t445 t446 t454 t455 (([] : List Int)) 0) = some r := by rw [if_pos rfl] at H; exact H
              clear H
              have H := H1
              clear H1
              obtain ⟨y485, hy485⟩ : ∃ y_ : List Int, y_ = (([] : List Int)) := ⟨_, rfl⟩
              replace H : (laws_FnTeaching.l2 kj47 t442 t445 t446 t454 t455 y485 0) = some r := by first | (rw [hy485]; with_reducible exact H) | (have H2_ := (Option.bind_some _ _).symm.trans H; rw [hy485]; with_reducible exact H2_) | (have H2_ := (Option.bind_some _ _).symm.trans H; with_reducible exact H2_) | with_reducible exact H | (rw [hy485]; exact H) | exact H
              have Ny485 := aM hy485
              clear hy485
              have H' := aM H
              clear H
              go_wp2_with (first | ((with_reducible refine gate_dst (N := 152) rfl ?_); (try (refine gate_guard (by rfl) ?_; dsimp only)); refine Kd.R_lit (Kd.int .i64) _ 3 ?hg (N := 152) ?hd (xs := ([] : List Int)) (inner := []) (ok := fun _ => True) (okp := fun _ => True) ?hr ?hp (fun _ hk => hk) trivial (Below.refl _ _) (Nat.le_refl _) (by simp) ?_; (case hd => rfl); (case hg => rfl); (case hr => first | (go_simp; done) | (go_simp; rfl)); (case hp => exact (Reps.none _ _)); intro v486 w65 ho66 hb hg_ hnew_; clear hg_ hnew_; (first | rw [← Ny485.out] at ho66 | (simp only [Int.reduceToNat] at ho66; rw [← Ny485.out] at ho66)); have n0_ := aM (Kd.N_elder' (by (with_reducible repeat (first | apply Kd.N_alloc | apply Kd.N_drewN | apply Kd.N_drew)); exact HO_3.out) (Kd.R_base ho66) hb); have n1_ := aM (Kd.R_elder' (by (with_reducible repeat (first | apply rA | apply rN | apply rD)); exact HO_5.out) (Kd.R_base ho66) hb); have n2_ := aM (Kd.N_elder' (by (with_reducible repeat (first | apply Kd.N_alloc | apply Kd.N_drewN | apply Kd.N_drew)); exact HO_13.out) (Kd.R_base ho66) hb); have n3_ := aM (Kd.R_elder' (by (with_reducible repeat (first | apply rA | apply rN | apply rD)); exact HO_14.out) (Kd.R_base ho66) hb); have n4_ := aM (Kd.R_elder' (by (with_reducible repeat (first | apply rA | apply rN | apply rD)); exact HO_15.out) (Kd.R_base ho66) hb); have n5_ := aM (Kd.R_elder' (by (with_reducible repeat (first | apply rA | apply rN | apply rD)); exact HO_16.out) (Kd.R_base ho66) hb); have n6_ := aM (Kd.R_lower (Kd.R_new' (Kd.R_new' (Kd.R_new' (Kd.R_new' ho66 (Kd.R_lt (by (with_reducible repeat (first | apply rA | apply rN | apply rD)); exact HO_5.out))) (Kd.R_lt (by (with_reducible repeat (first | apply rA | apply rN | apply rD)); exact HO_14.out))) (Kd.R_lt (by (with_reducible repeat (first | apply rA | apply rN | apply rD)); exact HO_15.out))) (Kd.R_lt (by (with_reducible repeat (first | apply rA | apply rN | apply rD)); exact HO_16.out))) (below_size (by repeat (first | (with_reducible first | exact HB.out | apply eA | apply eN | apply eD) | exact HB.out)))); have n7_ := aM (below_step (by repeat (first | (with_reducible first | exact HB.out | apply eA | apply eN | apply eD) | exact HB.out)) hb); clear HO_3; clear HO_5; clear HO_13; clear HO_14; clear HO_15; clear HO_16; clear HB; have HO_3 := n0_; have HO_5 := n1_; have HO_13 := n2_; have HO_14 := n3_; have HO_15 := n4_; have HO_16 := n5_; have HO487 := n6_; have HB := n7_; clear n0_ n1_ n2_ n3_ n4_ n5_ n6_ n7_; clear hb ho66))
              go_loopg [23, 24] kj47 (fun kq v23 v24 w' => ∃ (x23_4 : List Int) (x24_4 : Int), v24 = .int .i64 x24_4 ∧ Aside0 (laws_FnTeaching.l2 kq t442 t445 t446 t454 t455 x23_4 x24_4 = some r) ∧ Aside0 (kq ≤ kj47) ∧ Aside0 (Kd.N (Kd.slice 3 (Kd.int .i64)) 27 w' w.heap.size (fun k_ => some k_ ≠ (v448 : Value).ownBlock ∧ some k_ ≠ (v23 : Value).ownBlock) (.slice Ao15 t442.length co15) t442) ∧ Aside0 (Kd.R (Kd.int .i64) 3 w' w.heap.size (fun k_ => some k_ ≠ (v23 : Value).ownBlock) v448 t446) ∧ Aside0 (Kd.R (Kd.int .i64) 3 w' w.heap.size (fun k_ => some k_ ≠ (v448 : Value).ownBlock) v23 x23_4) ∧ Aside0 (Below w.heap.size w w'))
              case atStart => exact ⟨(y485), (0), (by first | rfl | (simp; done) | (simp [*]; done)), H', ⟨Nat.le_refl _⟩, ⟨by (with_reducible repeat (first | apply Kd.N_alloc | apply Kd.N_drewN | apply Kd.N_drew)); exact Kd.N_mono HO_3.out (fun _ hk => ⟨hk.1.1, hk.2⟩)⟩, ⟨by (with_reducible repeat (first | apply rA | apply rN | apply rD)); exact rM HO_5.out (fun _ hk => hk.2)⟩, ⟨by (with_reducible repeat (first | apply rA | apply rN | apply rD)); exact rM HO487.out (fun _ hk => hk.1.1.1.2)⟩, ⟨by repeat (first | (with_reducible first | exact HB.out | apply eA | apply eN | apply eD) | exact HB.out)⟩⟩
              case round =>
               as_aux_lemma =>
                clear H'
                try clear c1; try clear c2; try clear p2; try clear c3; try clear c4; try clear p4; try clear q4; try clear hx4; try clear c5; try clear c6; try clear p6; try clear c8; try clear c9; try clear c10; try clear c11; try clear c12; try clear c13; try clear c14; try clear c15; try clear c16; try clear c17; try clear c19; try clear c28; try clear c28b0; try clear c28b1; try clear c28b2; try clear c30; try clear c31; try clear c31b0; try clear c31b1; try clear c32; try clear c32b0; try clear c32b1; try clear c32b2; try clear c35; try clear c35b0; try clear c35b1; try clear c35b2; try clear c47; try clear c48; try clear p48; try clear q48; try clear hx48; try clear c49; try clear c50; try clear c51; try clear c51b0; try clear c52; try clear c53; try clear c53b0; try clear c54; try clear c54b0; try clear c55; try clear c55b0; try clear c56; try clear c56b0; try clear c57; try clear c57b0; try clear c58; try clear c58b0; try clear c62; try clear c62b0; try clear c62b1; try clear c62b2; try clear c64; try clear p64; try clear hx480_0; try clear hx481_0; try clear hx482_0; try clear hx483_0; try clear p2; try clear p480; try clear p481; try clear p482; try clear p483; try clear q480; try clear q481; try clear q482; try clear q483
                obtain ⟨x23_4, x24_4, rfl, HA, HK4, HO_3, HO_5, HO_23, HB⟩ := hrel
                cases gk with
                | zero => exact absurd HA.out (by simp [laws_FnTeaching.l2])
                | succ k4 =>
                 have H := HA.out
                 clear HA
                 simp only [laws_FnTeaching.l2] at H
                 by_cases c67 : x24_4 < (t446.length : Int)
                 ·
                  rw [if_pos c67] at H
                  have c67b0 : decide (x24_4 < (t446.length : Int)) = true := decide_eq_true c67
                  clear c67
                  by_cases c68 : 0 ≤ t445
                  ·
                   rw [if_pos c68] at H
                   have c68b0 : decide (0 ≤ t445) = true := decide_eq_true c68
                   clear c68
                   by_cases c69 : t445 < (t442.length : Int)
                   ·
                    rw [if_pos c69] at H
                    have c69b0 : decide (t445 < (t442.length : Int)) = true := decide_eq_true c69
                    clear c69
                    by_cases c70 : 0 ≤ x24_4
                    ·
                     rw [if_pos c70] at H
                     have c70b0 : decide (0 ≤ x24_4) = true := decide_eq_true c70
                     clear c70
                     by_cases c71 : 0 ≤ (rd t446 x24_4)
                     ·
                      rw [if_pos c71] at H
                      have c71b0 : decide (0 ≤ (rd t446 x24_4)) = true := decide_eq_true c71
                      clear c71
                      by_cases c72 : (rd t446 x24_4) < ((rd_L2 t442 t445).length : Int)
                      ·
                       rw [if_pos c72] at H
                       have c72b0 : decide ((rd t446 x24_4) < ((rd_L2 t442 t445).length : Int)) = true := decide_eq_true c72
                       clear c72
                       by_cases c73 : x23_4.length < 17592186044416
                       ·
                        rw [if_pos c73] at H
                        have LMc73 := aM c73
                        clear c73
                        obtain ⟨y491, hy491⟩ : ∃ y_ : List Int, y_ = (x23_4 ++ [rd (rd_L2 t442 t445) (rd t446 x24_4)]) := ⟨_, rfl⟩
                        replace H : (laws_FnTeaching.l2 k4 t442 t445 t446 t454 t455 y491 (wrap64 (x24_4 + 1))) = some r := by first | (rw [hy491]; with_reducible exact H) | (have H2_ := (Option.bind_some _ _).symm.trans H; rw [hy491]; with_reducible exact H2_) | (have H2_ := (Option.bind_some _ _).symm.trans H; with_reducible exact H2_) | with_reducible exact H | (rw [hy491]; exact H) | exact H
                        have Ny491 := aM hy491
                        clear hy491
                        have H' := aM H
                        clear H
                        obtain ⟨Ao74, co74, eo74⟩ := Kd.R_slice HO_5.out
                        subst eo74
                        try go_wp2
                        have n0_ := aM (Kd.N_drew HO_3.out)
                        have n1_ := aM (rD HO_5.out)
                        have n2_ := aM (rD HO_23.out)
                        have n3_ := aM (eD HB.out)
                        clear HO_3
                        clear HO_5
                        clear HO_23
                        clear HB
                        have HO_3 := n0_
                        have HO_5 := n1_
                        have HO_23 := n2_
                        have HB := n3_
                        clear n0_ n1_ n2_ n3_
                        have p488 : 0 ≤ (t445 : Int) := of_decide_eq_true (by first | (with_reducible assumption) | assumption)
                        have q488 : t445 < (t442.length : Int) := of_decide_eq_true (by first | (with_reducible assumption) | assumption)
                        obtain ⟨ad488, A488_0, c488_0, e488, hx488_0, hl488_0, hi488_0⟩ := at_L2 (Kd.N_reads' HO_3.out).2.2 t445 p488 q488
                        cases e488
                        obtain ⟨ce488, hce488, hMe488, hcc488⟩ := Kd.N_get HO_3.out [] t445 p488 (by first | exact q488 | exact of_decide_eq_true (by first | (with_reducible assumption) | assumption) | (have e_ := (Kd.N_reads' HO_3.out).1; omega))
                        obtain ⟨ua488_0, uc488_0, rfl, ul488_0, ge488_0⟩ := Kd.FK_slice_open hMe488
                        have hv488_0 := hcc488 0 _ rfl
                        rw [Nat.add_zero, show ((Kd.slice 3 (Kd.int .i64))).sz = 1 from rfl, Nat.mul_one] at hv488_0
                        replace hv488_0 := Option.some.inj (hv488_0.symm.trans hx488_0)
                        injection hv488_0 with hva_ hvn_ hvc_
                        rw [hva_] at ge488_0
                        rw [hvc_] at ul488_0
                        have HL488_0 := aM (show Kd.V (Kd.int .i64) 3 _ w.heap.size _ _ (rd_L2 t442 t445) from Kd.V_mk ul488_0 ge488_0)
                        clear hva_ hvn_ hvc_ ge488_0 ul488_0
                        clear hcc488 hce488
                        have HR488_0 := aM hi488_0
                        have HC488_0 := aM hl488_0
                        clear hi488_0 hl488_0
                        replace p488 := eq_true p488
                        replace q488 := eq_true q488
                        have p489 : 0 ≤ (x24_4 : Int) := of_decide_eq_true (by first | (with_reducible assumption) | assumption)
                        have q489 : x24_4 < (t446.length : Int) := of_decide_eq_true (by first | (with_reducible assumption) | assumption)
                        obtain ⟨ad489, e489, hx489_0⟩ := Kd.at_int (Kd.R_reads' HO_5.out).2.2 x24_4 p489 q489
                        cases e489
                        replace p489 := eq_true p489
                        replace q489 := eq_true q489
                        have p490 : 0 ≤ ((rd t446 x24_4) : Int) := of_decide_eq_true (by first | (with_reducible assumption) | assumption)
                        have q490 : (rd t446 x24_4) < ((rd_L2 t442 t445).length : Int) := of_decide_eq_true (by first | (with_reducible assumption) | assumption)
                        obtain ⟨ad490, e490, hx490_0⟩ := Kd.at_int (by repeat (first | (with_reducible exact HR488_0.out) | (with_reducible refine Kd.C_alloc ?_ _) | (with_reducible refine Kd.C_drewN ?_ _) | (with_reducible refine Kd.C_drew ?_) | exact HR488_0.out)) (rd t446 x24_4) p490 q490
                        cases e490
                        replace p490 := eq_true p490
                        replace q490 := eq_true q490
                        refine start_ (n := 14) (S := fun w' => w'.cell? (ad488.add (t445).toNat) = some (.slice (some ad490) (rd_L2 t442 t445).length c488_0) ∧ w'.cell? (ad489.add (x24_4).toNat) = some (.int .i64 (rd t446 x24_4)) ∧ w'.cell? (ad490.add ((rd t446 x24_4)).toNat) = some (.int .i64 (rd (rd_L2 t442 t445) (rd t446 x24_4)))) (ds := [11, 12]) #[false, false, false, false, false, false, false, false, false, false, false, false, false, false] (by kernel_rfl) rfl rfl ⟨hx488_0, hx489_0, hx490_0⟩ (fun hHeld => ?_); refine with_tabW laws_FnTeaching.tab29 laws_FnTeaching.bits29 (fun HT_ HW_ => ?_)
                        generalize wr.drew = w75 at HO_3 HO_5 HO_23 HB HL488_0 HR488_0 hx488_0 hx489_0 hx490_0 hHeld ⊢
                        refine pure_ (i := 0) (N := some 159) (v := ?_) (a' := ?_) #[true, false, false, false, false, false, false, false, false, false, false, false, false, false] rfl rfl (any_of HT_.out (by kernel_rfl)) (fun _ _ _ h => h) (Or.inl ⟨by rfl, ?_⟩) ?_ ?_
                        rotate_left
                        ·
                         intro w'
                         go_simp
                         with_reducible rfl
                        rotate_left
                        ·
                         simp only [Act.put, sA, sZ, sU, i64_w, i32_w]
                         rfl
                        refine pure_ (i := 1) (N := some 160) (v := ?_) (a' := ?_) #[true, true, false, false, false, false, false, false, false, false, false, false, false, false] rfl rfl (any_of HT_.out (by kernel_rfl)) (fun _ _ _ h => h) (Or.inl ⟨by rfl, ?_⟩) ?_ ?_
                        rotate_left
                        ·
                         intro w'
                         go_simp
                         with_reducible rfl
                        rotate_left
                        ·
                         simp only [Act.put, sA, sZ, sU, i64_w, i32_w]
                         rfl
                        refine pure_ (i := 2) (N := some 161) (v := ?_) (a' := ?_) #[true, true, true, false, false, false, false, false, false, false, false, false, false, false] rfl rfl (any_of HT_.out (by kernel_rfl)) (fun _ _ _ h => h) (Or.inl ⟨by rfl, ?_⟩) ?_ ?_
                        rotate_left
                        ·
                         intro w'
                         go_simp
                         with_reducible rfl
                        rotate_left
                        ·
                         simp only [Act.put, sA, sZ, sU, i64_w, i32_w]
                         rfl
                        refine pure_ (i := 3) (N := some 162) (v := ?_) (a' := ?_) #[true, true, true, true, false, false, false, false, false, false, false, false, false, false] rfl rfl (any_of HT_.out (by kernel_rfl)) (fun _ _ _ h => h) (Or.inl ⟨by rfl, ?_⟩) ?_ ?_
                        rotate_left
                        ·
                         intro w'
                         go_simp
                         with_reducible rfl
                        rotate_left
                        ·
                         simp only [Act.put, sA, sZ, sU, i64_w, i32_w]
                         rfl
                        refine pure_ (i := 5) (N := some 164) (v := ?_) (a' := ?_) #[true, true, true, true, false, true, false, false, false, false, false, false, false, false] rfl rfl (any_of HT_.out (by kernel_rfl)) (fun _ _ _ h => h) (Or.inl ⟨by rfl, ?_⟩) ?_ ?_
                        rotate_left
                        ·
                         intro w'
                         go_simp
                         with_reducible rfl
                        rotate_left
                        ·
                         simp only [Act.put, sA, sZ, sU, i64_w, i32_w]
                         rfl
                        refine pure_ (i := 6) (N := some 165) (v := ?_) (a' := ?_) #[true, true, true, true, false, true, true, false, false, false, false, false, false, false] rfl rfl (any_of HT_.out (by kernel_rfl)) (fun _ _ _ h => h) (Or.inl ⟨by rfl, ?_⟩) ?_ ?_
                        rotate_left
                        ·
                         intro w'
                         go_simp
                         with_reducible rfl
                        rotate_left
                        ·
                         simp only [Act.put, sA, sZ, sU, i64_w, i32_w]
                         rfl
                        refine pure_ (i := 7) (N := some 166) (v := ?_) (a' := ?_) #[true, true, true, true, false, true, true, true, false, false, false, false, false, false] rfl rfl (any_of HT_.out (by kernel_rfl)) (fun _ _ _ h => h) (Or.inl ⟨by rfl, ?_⟩) ?_ ?_
                        rotate_left
                        ·
                         intro w'
                         go_simp
                         with_reducible rfl
                        rotate_left
                        ·
                         simp only [Act.put, sA, sZ, sU, i64_w, i32_w]
                         rfl
                        refine take_ (i := 4) (N := some 163) (v := ?_) (a' := ?_) #[true, true, true, true, true, true, true, true, false, false, false, false, false, false] rfl rfl (take_ofW HT_.out HW_.out (by kernel_rfl)) (fun _ _ _ h => h) (Or.inl ⟨by rfl, ?_⟩) hHeld ?_ ?_
                        rotate_left
                        ·
                         rintro w' ⟨s0, s1, s2⟩
                         first | (go_simp; with_reducible rfl) | (simp only [add_plain] at s0 s1 s2; go_simp; with_reducible rfl)
                        rotate_left
                        ·
                         simp only [Act.put, sA, sZ, sU, i64_w, i32_w]
                         rfl
                        refine take_ (i := 8) (N := some 167) (v := ?_) (a' := ?_) #[true, true, true, true, true, true, true, true, true, false, false, false, false, false] rfl rfl (take_ofW HT_.out HW_.out (by kernel_rfl)) (fun _ _ _ h => h) (Or.inl ⟨by rfl, ?_⟩) hHeld ?_ ?_
                        rotate_left
                        ·
                         rintro w' ⟨s0, s1, s2⟩
                         first | (go_simp; with_reducible rfl) | (simp only [add_plain] at s0 s1 s2; go_simp; with_reducible rfl)
                        rotate_left
                        ·
                         simp only [Act.put, sA, sZ, sU, i64_w, i32_w]
                         rfl
                        refine pure_ (i := 9) (N := some 168) (v := ?_) (a' := ?_) #[true, true, true, true, true, true, true, true, true, true, false, false, false, false] rfl rfl (any_of HT_.out (by kernel_rfl)) (fun _ _ _ h => h) (Or.inl ⟨by rfl, ?_⟩) ?_ ?_
                        rotate_left
                        ·
                         intro w'
                         go_simp
                         with_reducible rfl
                        rotate_left
                        ·
                         simp only [Act.put, sA, sZ, sU, i64_w, i32_w]
                         rfl
                        refine take_ (i := 10) (N := some 169) (v := ?_) (a' := ?_) #[true, true, true, true, true, true, true, true, true, true, true, false, false, false] rfl rfl (take_ofW HT_.out HW_.out (by kernel_rfl)) (fun _ _ _ h => h) (Or.inl ⟨by rfl, ?_⟩) hHeld ?_ ?_
                        rotate_left
                        ·
                         rintro w' ⟨s0, s1, s2⟩
                         first | (go_simp; with_reducible rfl) | (simp only [add_plain] at s0 s1 s2; go_simp; with_reducible rfl)
                        rotate_left
                        ·
                         simp only [Act.put, sA, sZ, sU, i64_w, i32_w]
                         rfl
                        refine last_ (i := 11) (N := some 170) #[true, true, true, true, true, true, true, true, true, true, true, true, false, false] rfl rfl (one_of HT_.out (by kernel_rfl)) (by decide) (fun K hK => ?_)
                        refine value_ (w1 := ?_) (v := ?_) (by rfl) rfl ?_ ?_
                        rotate_left 2
                        ·
                         go_simp
                         constructor
                         ·
                          rfl
                         ·
                          rfl
                        refine hK.out _ _ ?_
                        clear hK K
                        refine norm_ (a' := ?_) ?_ ?_
                        rotate_left
                        ·
                         show Act.put _ (some 170) _ = _
                         simp only [Act.put, sA, sZ, sU, i64_w, i32_w]
                         rfl
                        refine last_ (i := 12) (N := some 171) #[true, true, true, true, true, true, true, true, true, true, true, true, true, false] rfl rfl (one_of HT_.out (by kernel_rfl)) (by decide) (fun K hK => ?_)
                        refine Kd.R_append_step (Kd.int .i64) (w0 := w) w.heap.size (by rfl) (.tmp 159) (.tmp 170) 27 3 (.int .i64 0) 8 rfl Try.underlying27 info3 rfl (by decide) (by omega) u23 x23_4 (rd (rd_L2 t442 t445) (rd t446 x24_4)) [.int .i64 (rd (rd_L2 t442 t445) (rd t446 x24_4))] (fun k_ => some k_ ≠ (.slice (some ad489) t446.length co74 : Value).ownBlock) (fun _ => False) rfl rfl ?aP (fun _ hk => hk.elim) ?aF ?aO ?aB ?aS ?aL ?_
                        (case aP => exact rfl)
                        (case aB => exact (by repeat (first | (with_reducible first | exact HB.out | apply eA | apply eN | apply eD) | exact HB.out)))
                        (case aF => exact (fun k_ hk => Kd.fresh' (Kd.R_lt (by (with_reducible repeat (first | apply rA | apply rN | apply rD)); exact HO_5.out)) k_ hk))
                        (case aO => exact (by (with_reducible repeat (first | apply rA | apply rN | apply rD)); exact HO_23.out))
                        (case aS => exact (below_size (by repeat (first | (with_reducible first | exact HB.out | apply eA | apply eN | apply eD) | exact HB.out))))
                        (case aL => have := LMc73.out; omega)
                        intro v492 w76 ho hb hg hat
                        rw [← Ny491.out] at ho
                        have n0_ := aM (Kd.N_afterv (ok := (fun k_ => some k_ ≠ (.slice (some ad489) t446.length co74 : Value).ownBlock)) (by (with_reducible repeat (first | apply Kd.N_alloc | apply Kd.N_drewN | apply Kd.N_drew)); exact HO_3.out) hg hat)
                        have n1_ := aM (Kd.R_after (ok := (fun _ => True)) (by (with_reducible repeat (first | apply rA | apply rN | apply rD)); exact rM HO_5.out (fun _ hk => ⟨trivial, hk⟩)) hg hat)
                        have n2_ := aM (Kd.V_afterv (ok := (fun k_ => some k_ ≠ (.slice (some ad488) t442.length co15 : Value).ownBlock ∧ some k_ ≠ (.slice (some ad489) t446.length co74 : Value).ownBlock)) (by (with_reducible repeat (first | apply Kd.V_alloc | apply Kd.V_drewN | apply Kd.V_drew)); exact Kd.V_mono HL488_0.out (fun _ hk => ⟨⟨hk.2, hk.1.1⟩, hk.1.2⟩)) hg hat)
                        have n3_ := aM (hb)
                        have n4_ := aM (ho)
                        clear HO_3
                        clear HO_5
                        clear HL488_0
                        clear HB
                        clear HO_23
                        have HO_3 := n0_
                        have HO_5 := n1_
                        have HL488_0 := n2_
                        have HB := n3_
                        have HO493 := n4_
                        clear n0_ n1_ n2_ n3_ n4_
                        clear ho hb hg hat
                        refine hK.out _ _ ?_
                        clear hK K
                        refine norm_ (a' := ?_) ?_ ?_
                        rotate_left
                        ·
                         show Act.put _ (some 171) _ = _
                         simp only [Act.put, sA, sZ, sU, i64_w, i32_w]
                         rfl
                        refine pure_ (i := 13) (N := some 23) (v := ?_) (a' := ?_) #[true, true, true, true, true, true, true, true, true, true, true, true, true, true] rfl rfl (any_of HT_.out (by kernel_rfl)) (fun _ _ _ h => h) (Or.inl ⟨by rfl, ?_⟩) ?_ ?_
                        rotate_left
                        ·
                         intro w'
                         go_simp
                         with_reducible rfl
                        rotate_left
                        ·
                         simp only [Act.put, sA, sZ, sU, i64_w, i32_w]
                         rfl
                        refine done_ (done_of HT_.out (by kernel_rfl)) ?_
                        try go_wp2
                        go_roundg k4
                        case measure => have := HJ12.out; have := HK2.out; have := HJ47.out; have := HK4.out; omega
                        case rel => exact ⟨(y491), (wrap64 (x24_4 + 1)), (by first | rfl | (simp; done) | (simp [*]; done)), H', ⟨by have := HJ12.out; have := HK2.out; have := HJ47.out; have := HK4.out; omega⟩, ⟨by (with_reducible repeat (first | apply Kd.N_alloc | apply Kd.N_drewN | apply Kd.N_drew)); exact HO_3.out⟩, ⟨by (with_reducible repeat (first | apply rA | apply rN | apply rD)); exact rM HO_5.out (fun _ hk => hk.2)⟩, ⟨by (with_reducible repeat (first | apply rA | apply rN | apply rD)); exact HO493.out⟩, ⟨by repeat (first | (with_reducible first | exact HB.out | apply eA | apply eN | apply eD) | exact HB.out)⟩⟩
                       ·
                        rw [if_neg c73] at H
                        exact absurd H (by simp)
                      ·
                       rw [if_neg c72] at H
                       exact absurd H (by simp)
                     ·
                      rw [if_neg c71] at H
                      exact absurd H (by simp)
                    ·
                     rw [if_neg c70] at H
                     exact absurd H (by simp)
                   ·
                    rw [if_neg c69] at H
                    exact absurd H (by simp)
                  ·
                   rw [if_neg c68] at H
                   exact absurd H (by simp)
                 ·
                  rw [if_neg c67] at H
                  have c67b0 : decide (x24_4 < (t446.length : Int)) = false := decide_eq_false c67
                  clear c67
                  replace H := oB.mp H
                  obtain ⟨⟨t494, t495⟩, A770, H⟩ := H
                  replace H : (if t495 = true then ((laws_vInts.f k4 t494 (([t445] : List Int))).bind fun t501 => (if t501 = true then (laws_FnTeaching.j5 k4 t442 t446 t455 x23_4 (decide ((t446.length : Int) > t454))) else (laws_FnTeaching.j5 k4 t442 t446 t455 x23_4 true))) else (laws_FnTeaching.j5 k4 t442 t446 t455 x23_4 true)) = some r := H
                  have A77 := aM A770
                  clear A770
                  have HC78 := aM H
                  clear H
                  obtain ⟨Ao79, co79, eo79⟩ := Kd.R_slice HO_5.out
                  subst eo79
                  obtain ⟨Ao80, co80, eo80⟩ := Kd.R_slice HO_23.out
                  subst eo80
                  go_upto_region 31 with (first | ((with_reducible refine gate_callee (f := 16) rfl ?_); refine goesL_ (some 176) rfl rfl Try.func16 (by kernel_rfl) rfl #[.slice Ao15 t442.length co15, .slice Ao79 t446.length co79, .slice Ao80 x23_4.length co80] rfl (by (try simp only [List.map_toArray, List.map_cons, List.map_nil]); first | done | rfl | (simp only [List.length_drop, List.length_take]; rfl)) ?_; (with_reducible refine (impl_VersionOf.calls k4 _ _ t442 _ _ t446 _ _ x23_4 t494 t495 _ ?side1 ?side2 ?side3 ?side4 ?side5 ?side6 A77.out).mono ?_); (case side1 => repeat (first | exact (Kd.N_reads' HO_3.out).2.2 | (with_reducible refine Kd.C_alloc ?_ _) | (with_reducible refine Kd.C_drewN ?_ _) | (with_reducible refine Kd.C_drew ?_))); (case side2 => exact (Kd.N_reads' HO_3.out).2.1); (case side3 => repeat (first | exact (Kd.R_reads' HO_5.out).2.2 | (with_reducible refine Kd.C_alloc ?_ _) | (with_reducible refine Kd.C_drewN ?_ _) | (with_reducible refine Kd.C_drew ?_))); (case side4 => exact (Kd.R_reads' HO_5.out).2.1); (case side5 => repeat (first | exact (Kd.R_reads' HO_23.out).2.2 | (with_reducible refine Kd.C_alloc ?_ _) | (with_reducible refine Kd.C_drewN ?_ _) | (with_reducible refine Kd.C_drew ?_))); (case side6 => exact (Kd.R_reads' HO_23.out).2.1); rintro e w81 ⟨v496, rfl, ho0, hb⟩; refine ⟨_, rfl, ?_⟩; have n0_ := aM (Kd.N_elder' (by (with_reducible repeat (first | apply Kd.N_alloc | apply Kd.N_drewN | apply Kd.N_drew)); exact HO_3.out) (Kd.R_base ho0) hb); have n1_ := aM (Kd.R_elder' (by (with_reducible repeat (first | apply rA | apply rN | apply rD)); exact HO_5.out) (Kd.R_base ho0) hb); have n2_ := aM (Kd.R_elder' (by (with_reducible repeat (first | apply rA | apply rN | apply rD)); exact HO_23.out) (Kd.R_base ho0) hb); have n3_ := aM (Kd.R_lower (Kd.R_new' (Kd.R_new' ho0 (Kd.R_lt (by (with_reducible repeat (first | apply rA | apply rN | apply rD)); exact HO_5.out))) (Kd.R_lt (by (with_reducible repeat (first | apply rA | apply rN | apply rD)); exact HO_23.out))) (below_size (by repeat (first | (with_reducible first | exact HB.out | apply eA | apply eN | apply eD) | exact HB.out)))); have n4_ := aM (below_step (by repeat (first | (with_reducible first | exact HB.out | apply eA | apply eN | apply eD) | exact HB.out)) hb); clear HO_3; clear HO_5; clear HO_23; clear HB; have HO_3 := n0_; have HO_5 := n1_; have HO_23 := n2_; have HO497 := n3_; have HB := n4_; clear n0_ n1_ n2_ n3_ n4_; (try clear hb); (try clear hb2); (try clear hk); (try clear hi); (try clear ho0)))
                  (try simp only [Act.put, sA, sZ, sU])
                  go_cut [193] (fun v193 wc => ∃ (kq : Nat) (x193_77 : Bool), v193 = .bool x193_77 ∧ Aside0 (laws_FnTeaching.j5 kq t442 t446 t455 x23_4 x193_77 = some r) ∧ Aside0 (kq ≤ k4) ∧ Aside0 (Kd.N (Kd.slice 3 (Kd.int .i64)) 27 wc w.heap.size (fun k_ => some k_ ≠ ((.slice Ao79 t446.length co79) : Value).ownBlock ∧ some k_ ≠ ((.slice Ao80 x23_4.length co80) : Value).ownBlock) (.slice Ao15 t442.length co15) t442) ∧ Aside0 (Kd.R (Kd.int .i64) 3 wc w.heap.size (fun k_ => some k_ ≠ ((.slice Ao80 x23_4.length co80) : Value).ownBlock) (.slice Ao79 t446.length co79) t446) ∧ Aside0 (Kd.R (Kd.int .i64) 3 wc w.heap.size (fun k_ => some k_ ≠ ((.slice Ao79 t446.length co79) : Value).ownBlock) (.slice Ao80 x23_4.length co80) x23_4) ∧ Aside0 (Below w.heap.size w wc))
                  case first =>
                   as_aux_lemma =>
                    have H := HC78.out
                    clear HC78
                    by_cases c82 : t495 = true
                    ·
                     subst c82
                     have H1 : ((laws_vInts.f k4 t494 (([t445] : List Int))).bind fun t501 => (if t501 = true then (laws_FnTeaching.j5 k4 t442 t446 t455 x23_4 (decide ((t446.length : Int) > t454))) else (laws_FnTeaching.j5 k4 t442 t446 t455 x23_4 true))) = some r := by rw [if_pos rfl] at H; exact H
                     clear H
                     have H := H1
                     clear H1
                     obtain ⟨y498, hy498⟩ : ∃ y_ : List Int, y_ = (([t445] : List Int)) := ⟨_, rfl⟩
                     replace H : ((laws_vInts.f k4 t494 y498).bind fun t501 => (if t501 = true then (laws_FnTeaching.j5 k4 t442 t446 t455 x23_4 (decide ((t446.length : Int) > t454))) else (laws_FnTeaching.j5 k4 t442 t446 t455 x23_4 true))) = some r := by first | (rw [hy498]; with_reducible exact H) | (have H2_ := (Option.bind_some _ _).symm.trans H; rw [hy498]; with_reducible exact H2_) | (have H2_ := (Option.bind_some _ _).symm.trans H; with_reducible exact H2_) | with_reducible exact H | (rw [hy498]; exact H) | exact H
                     have Ny498 := aM hy498
                     clear hy498
                     replace H := oB.mp H
                     obtain ⟨t501, A830, H⟩ := H
                     replace H : (if t501 = true then (laws_FnTeaching.j5 k4 t442 t446 t455 x23_4 (decide ((t446.length : Int) > t454))) else (laws_FnTeaching.j5 k4 t442 t446 t455 x23_4 true)) = some r := H
                     have A83 := aM A830
                     clear A830
                     by_cases c84 : t501 = true
                     ·
                      subst c84
                      have H1 : (laws_FnTeaching.j5 k4 t442 t446 t455 x23_4 (decide ((t446.length : Int) > t454))) = some r := by rw [if_pos rfl] at H; exact H
                      clear H
                      have H := H1
                      clear H1
                      have H' := aM H
                      clear H
                      go_wp2_with (first | ((with_reducible refine gate_dst (N := 184) rfl ?_); (try (refine gate_guard (by rfl) ?_; dsimp only)); refine Kd.R_lit (Kd.int .i64) _ 3 ?hg (N := 184) ?hd (xs := ([t445] : List Int)) (inner := [.int .i64 t445]) (ok := fun _ => True) (okp := fun _ => True) ?hr ?hp (fun _ hk => hk) trivial (Below.refl _ _) (Nat.le_refl _) (by simp) ?_; (case hd => rfl); (case hg => rfl); (case hr => first | (go_simp; done) | (go_simp; rfl)); (case hp => exact (Reps.one (show Kd.M (Kd.int .i64) _ _ _ t445 [.int .i64 t445] from rfl) (Reps.none _ _))); intro v499 w85 ho86 hb hg_ hnew_; clear hg_ hnew_; (first | rw [← Ny498.out] at ho86 | (simp only [Int.reduceToNat] at ho86; rw [← Ny498.out] at ho86)); have n0_ := aM (Kd.N_elder' (by (with_reducible repeat (first | apply Kd.N_alloc | apply Kd.N_drewN | apply Kd.N_drew)); exact HO_3.out) (Kd.R_base ho86) hb); have n1_ := aM (Kd.R_elder' (by (with_reducible repeat (first | apply rA | apply rN | apply rD)); exact HO_5.out) (Kd.R_base ho86) hb); have n2_ := aM (Kd.R_elder' (by (with_reducible repeat (first | apply rA | apply rN | apply rD)); exact HO_23.out) (Kd.R_base ho86) hb); have n3_ := aM (Kd.R_elder' (by (with_reducible repeat (first | apply rA | apply rN | apply rD)); exact HO497.out) (Kd.R_base ho86) hb); have n4_ := aM (Kd.R_lower (Kd.R_new' (Kd.R_new' (Kd.R_new' ho86 (Kd.R_lt (by (with_reducible repeat (first | apply rA | apply rN | apply rD)); exact HO_5.out))) (Kd.R_lt (by (with_reducible repeat (first | apply rA | apply rN | apply rD)); exact HO_23.out))) (Kd.R_lt (by (with_reducible repeat (first | apply rA | apply rN | apply rD)); exact HO497.out))) (below_size (by repeat (first | (with_reducible first | exact HB.out | apply eA | apply eN | apply eD) | exact HB.out)))); have n5_ := aM (below_step (by repeat (first | (with_reducible first | exact HB.out | apply eA | apply eN | apply eD) | exact HB.out)) hb); clear HO_3; clear HO_5; clear HO_23; clear HO497; clear HB; have HO_3 := n0_; have HO_5 := n1_; have HO_23 := n2_; have HO497 := n3_; have HO500 := n4_; have HB := n5_; clear n0_ n1_ n2_ n3_ n4_ n5_; clear hb ho86; obtain ⟨Ao87, co87, eo87⟩ := Kd.R_slice HO497.out; subst eo87; obtain ⟨Ao88, co88, eo88⟩ := Kd.R_slice HO500.out; subst eo88) | (go_at_call 18; (with_reducible refine (laws_vInts.calls k4 _ _ t494 _ _ y498 true _ ?side1 ?side2 ?side3 ?side4 A83.out).mono ?_); (case side1 => repeat (first | exact (Kd.R_reads' HO497.out).2.2 | (with_reducible refine Kd.C_alloc ?_ _) | (with_reducible refine Kd.C_drewN ?_ _) | (with_reducible refine Kd.C_drew ?_))); (case side2 => exact (Kd.R_reads' HO497.out).2.1); (case side3 => repeat (first | exact (Kd.R_reads' HO500.out).2.2 | (with_reducible refine Kd.C_alloc ?_ _) | (with_reducible refine Kd.C_drewN ?_ _) | (with_reducible refine Kd.C_drew ?_))); (case side4 => exact (Kd.R_reads' HO500.out).2.1); rintro e w' ⟨rfl, ⟨nd, rfl⟩⟩))
                      go_meet
                      case rel => exact ⟨_, (decide ((t446.length : Int) > t454)), (by first | rfl | (simp; done) | (simp [*]; done)), H', ⟨by have := HJ12.out; have := HK2.out; have := HJ47.out; have := HK4.out; first | omega | exact Nat.le_refl _⟩, ⟨by (with_reducible repeat (first | apply Kd.N_alloc | apply Kd.N_drewN | apply Kd.N_drew)); exact Kd.N_mono HO_3.out (fun _ hk => ⟨hk.1.1.1, hk.1.1.2⟩)⟩, ⟨by (with_reducible repeat (first | apply rA | apply rN | apply rD)); exact rM HO_5.out (fun _ hk => hk.1.1)⟩, ⟨by (with_reducible repeat (first | apply rA | apply rN | apply rD)); exact rM HO_23.out (fun _ hk => hk.1.1)⟩, ⟨by repeat (first | (with_reducible first | exact HB.out | apply eA | apply eN | apply eD) | exact HB.out)⟩⟩
                     ·
                      replace c84 := Bool.eq_false_iff.mpr c84
                      subst c84
                      have H1 : (laws_FnTeaching.j5 k4 t442 t446 t455 x23_4 true) = some r := by rw [if_neg (show ¬ (false = true) by decide)] at H; exact H
                      clear H
                      have H := H1
                      clear H1
                      have H' := aM H
                      clear H
                      go_wp2_with (first | ((with_reducible refine gate_dst (N := 184) rfl ?_); (try (refine gate_guard (by rfl) ?_; dsimp only)); refine Kd.R_lit (Kd.int .i64) _ 3 ?hg (N := 184) ?hd (xs := ([t445] : List Int)) (inner := [.int .i64 t445]) (ok := fun _ => True) (okp := fun _ => True) ?hr ?hp (fun _ hk => hk) trivial (Below.refl _ _) (Nat.le_refl _) (by simp) ?_; (case hd => rfl); (case hg => rfl); (case hr => first | (go_simp; done) | (go_simp; rfl)); (case hp => exact (Reps.one (show Kd.M (Kd.int .i64) _ _ _ t445 [.int .i64 t445] from rfl) (Reps.none _ _))); intro v499 w89 ho90 hb hg_ hnew_; clear hg_ hnew_; (first | rw [← Ny498.out] at ho90 | (simp only [Int.reduceToNat] at ho90; rw [← Ny498.out] at ho90)); have n0_ := aM (Kd.N_elder' (by (with_reducible repeat (first | apply Kd.N_alloc | apply Kd.N_drewN | apply Kd.N_drew)); exact HO_3.out) (Kd.R_base ho90) hb); have n1_ := aM (Kd.R_elder' (by (with_reducible repeat (first | apply rA | apply rN | apply rD)); exact HO_5.out) (Kd.R_base ho90) hb); have n2_ := aM (Kd.R_elder' (by (with_reducible repeat (first | apply rA | apply rN | apply rD)); exact HO_23.out) (Kd.R_base ho90) hb); have n3_ := aM (Kd.R_elder' (by (with_reducible repeat (first | apply rA | apply rN | apply rD)); exact HO497.out) (Kd.R_base ho90) hb); have n4_ := aM (Kd.R_lower (Kd.R_new' (Kd.R_new' (Kd.R_new' ho90 (Kd.R_lt (by (with_reducible repeat (first | apply rA | apply rN | apply rD)); exact HO_5.out))) (Kd.R_lt (by (with_reducible repeat (first | apply rA | apply rN | apply rD)); exact HO_23.out))) (Kd.R_lt (by (with_reducible repeat (first | apply rA | apply rN | apply rD)); exact HO497.out))) (below_size (by repeat (first | (with_reducible first | exact HB.out | apply eA | apply eN | apply eD) | exact HB.out)))); have n5_ := aM (below_step (by repeat (first | (with_reducible first | exact HB.out | apply eA | apply eN | apply eD) | exact HB.out)) hb); clear HO_3; clear HO_5; clear HO_23; clear HO497; clear HB; have HO_3 := n0_; have HO_5 := n1_; have HO_23 := n2_; have HO497 := n3_; have HO500 := n4_; have HB := n5_; clear n0_ n1_ n2_ n3_ n4_ n5_; clear hb ho90; obtain ⟨Ao91, co91, eo91⟩ := Kd.R_slice HO497.out; subst eo91; obtain ⟨Ao92, co92, eo92⟩ := Kd.R_slice HO500.out; subst eo92) | (go_at_call 18; (with_reducible refine (laws_vInts.calls k4 _ _ t494 _ _ y498 false _ ?side1 ?side2 ?side3 ?side4 A83.out).mono ?_); (case side1 => repeat (first | exact (Kd.R_reads' HO497.out).2.2 | (with_reducible refine Kd.C_alloc ?_ _) | (with_reducible refine Kd.C_drewN ?_ _) | (with_reducible refine Kd.C_drew ?_))); (case side2 => exact (Kd.R_reads' HO497.out).2.1); (case side3 => repeat (first | exact (Kd.R_reads' HO500.out).2.2 | (with_reducible refine Kd.C_alloc ?_ _) | (with_reducible refine Kd.C_drewN ?_ _) | (with_reducible refine Kd.C_drew ?_))); (case side4 => exact (Kd.R_reads' HO500.out).2.1); rintro e w' ⟨rfl, ⟨nd, rfl⟩⟩))
                      go_meet
                      case rel => exact ⟨_, (true), (by first | rfl | (simp; done) | (simp [*]; done)), H', ⟨by have := HJ12.out; have := HK2.out; have := HJ47.out; have := HK4.out; first | omega | exact Nat.le_refl _⟩, ⟨by (with_reducible repeat (first | apply Kd.N_alloc | apply Kd.N_drewN | apply Kd.N_drew)); exact Kd.N_mono HO_3.out (fun _ hk => ⟨hk.1.1.1, hk.1.1.2⟩)⟩, ⟨by (with_reducible repeat (first | apply rA | apply rN | apply rD)); exact rM HO_5.out (fun _ hk => hk.1.1)⟩, ⟨by (with_reducible repeat (first | apply rA | apply rN | apply rD)); exact rM HO_23.out (fun _ hk => hk.1.1)⟩, ⟨by repeat (first | (with_reducible first | exact HB.out | apply eA | apply eN | apply eD) | exact HB.out)⟩⟩
                    ·
                     replace c82 := Bool.eq_false_iff.mpr c82
                     subst c82
                     have H1 : (laws_FnTeaching.j5 k4 t442 t446 t455 x23_4 true) = some r := by rw [if_neg (show ¬ (false = true) by decide)] at H; exact H
                     clear H
                     have H := H1
                     clear H1
                     have H' := aM H
                     clear H
                     go_wp2
                     go_meet
                     case rel => exact ⟨_, (true), (by first | rfl | (simp; done) | (simp [*]; done)), H', ⟨by have := HJ12.out; have := HK2.out; have := HJ47.out; have := HK4.out; first | omega | exact Nat.le_refl _⟩, ⟨by (with_reducible repeat (first | apply Kd.N_alloc | apply Kd.N_drewN | apply Kd.N_drew)); exact Kd.N_mono HO_3.out (fun _ hk => ⟨hk.1.1, hk.1.2⟩)⟩, ⟨by (with_reducible repeat (first | apply rA | apply rN | apply rD)); exact rM HO_5.out (fun _ hk => hk.1)⟩, ⟨by (with_reducible repeat (first | apply rA | apply rN | apply rD)); exact rM HO_23.out (fun _ hk => hk.1)⟩, ⟨by repeat (first | (with_reducible first | exact HB.out | apply eA | apply eN | apply eD) | exact HB.out)⟩⟩
                  case rest =>
                   as_aux_lemma =>
                    clear HC78
                    try clear c1; try clear c2; try clear p2; try clear c3; try clear c4; try clear p4; try clear q4; try clear hx4; try clear c5; try clear c6; try clear p6; try clear c7; try clear c8; try clear c9; try clear c10; try clear c11; try clear c12; try clear c13; try clear c14; try clear c15; try clear c16; try clear c17; try clear c19; try clear c28; try clear c28b0; try clear c28b1; try clear c28b2; try clear c30; try clear c31; try clear c31b0; try clear c31b1; try clear c32; try clear c32b0; try clear c32b1; try clear c32b2; try clear c35; try clear c35b0; try clear c35b1; try clear c35b2; try clear c47; try clear c48; try clear p48; try clear q48; try clear hx48; try clear c49; try clear p49; try clear q49; try clear hx49; try clear c50; try clear c51; try clear c51b0; try clear c52; try clear c53; try clear c53b0; try clear c54; try clear c54b0; try clear c55; try clear c55b0; try clear c56; try clear c56b0; try clear c57; try clear c57b0; try clear c58; try clear c58b0; try clear c62; try clear c62b0; try clear c62b1; try clear c62b2; try clear c64; try clear p64; try clear c67; try clear c67b0; try clear c68; try clear c68b0; try clear c69; try clear c69b0; try clear c70; try clear c70b0; try clear c71; try clear c71b0; try clear c72; try clear c72b0; try clear c73; try clear c82; try clear c84; try clear hx480_0; try clear hx481_0; try clear hx482_0; try clear hx483_0; try clear hx488_0; try clear hx489_0; try clear hx490_0; try clear p2; try clear p4; try clear p48; try clear p480; try clear p481; try clear p482; try clear p483; try clear p488; try clear p489; try clear p490; try clear p6; try clear p64; try clear q4; try clear q48; try clear q480; try clear q481; try clear q482; try clear q483; try clear q488; try clear q489; try clear q490
                    obtain ⟨kq, x193_77, rfl, HA, HJ77, HO_3, HO_5, HO_23, HB⟩ := hcut
                    cases kq with
                    | zero => exact absurd HA.out (by simp [laws_FnTeaching.j5])
                    | succ kj77 =>
                     have H := HA.out
                     clear HA
                     simp only [laws_FnTeaching.j5] at H
                     by_cases c93 : x193_77 = true
                     ·
                      subst c93
                      have H1 : (none) = some r := by rw [if_pos rfl] at H; exact H
                      clear H
                      have H := H1
                      clear H1
                      exact absurd H (by simp)
                     ·
                      replace c93 := Bool.eq_false_iff.mpr c93
                      subst c93
                      have H1 : (laws_FnTeaching.l3 kj77 t442 t446 t455 x23_4 0) = some r := by rw [if_neg (show ¬ (false = true) by decide)] at H; exact H
                      clear H
                      have H := H1
                      clear H1
                      have H' := aM H
                      clear H
                      go_wp2
                      go_loopg [27] kj77 (fun kq v27 w' => ∃ (x27_6 : Int), v27 = .int .i64 x27_6 ∧ Aside0 (laws_FnTeaching.l3 kq t442 t446 t455 x23_4 x27_6 = some r) ∧ Aside0 (kq ≤ kj77) ∧ Aside0 (Kd.N (Kd.slice 3 (Kd.int .i64)) 27 w' w.heap.size (fun k_ => some k_ ≠ ((.slice Ao79 t446.length co79) : Value).ownBlock ∧ some k_ ≠ ((.slice Ao80 x23_4.length co80) : Value).ownBlock) (.slice Ao15 t442.length co15) t442) ∧ Aside0 (Kd.R (Kd.int .i64) 3 w' w.heap.size (fun k_ => some k_ ≠ ((.slice Ao80 x23_4.length co80) : Value).ownBlock) (.slice Ao79 t446.length co79) t446) ∧ Aside0 (Kd.R (Kd.int .i64) 3 w' w.heap.size (fun k_ => some k_ ≠ ((.slice Ao79 t446.length co79) : Value).ownBlock) (.slice Ao80 x23_4.length co80) x23_4) ∧ Aside0 (Below w.heap.size w w'))
                      case atStart => exact ⟨(0), (by first | rfl | (simp; done) | (simp [*]; done)), H', ⟨Nat.le_refl _⟩, ⟨by (with_reducible repeat (first | apply Kd.N_alloc | apply Kd.N_drewN | apply Kd.N_drew)); exact HO_3.out⟩, ⟨by (with_reducible repeat (first | apply rA | apply rN | apply rD)); exact HO_5.out⟩, ⟨by (with_reducible repeat (first | apply rA | apply rN | apply rD)); exact HO_23.out⟩, ⟨by repeat (first | (with_reducible first | exact HB.out | apply eA | apply eN | apply eD) | exact HB.out)⟩⟩
                      case round =>
                       as_aux_lemma =>
                        clear H'
                        try clear c1; try clear c2; try clear p2; try clear c3; try clear c4; try clear p4; try clear q4; try clear hx4; try clear c5; try clear c6; try clear p6; try clear c7; try clear c8; try clear c9; try clear c10; try clear c11; try clear c12; try clear c13; try clear c14; try clear c15; try clear c16; try clear c17; try clear c19; try clear c28; try clear c28b0; try clear c28b1; try clear c28b2; try clear c30; try clear c31; try clear c31b0; try clear c31b1; try clear c32; try clear c32b0; try clear c32b1; try clear c32b2; try clear c35; try clear c35b0; try clear c35b1; try clear c35b2; try clear c47; try clear c48; try clear p48; try clear q48; try clear hx48; try clear c49; try clear p49; try clear q49; try clear hx49; try clear c50; try clear c51; try clear c51b0; try clear c52; try clear c53; try clear c53b0; try clear c54; try clear c54b0; try clear c55; try clear c55b0; try clear c56; try clear c56b0; try clear c57; try clear c57b0; try clear c58; try clear c58b0; try clear c62; try clear c62b0; try clear c62b1; try clear c62b2; try clear c64; try clear p64; try clear c67; try clear c67b0; try clear c68; try clear c68b0; try clear c69; try clear c69b0; try clear c70; try clear c70b0; try clear c71; try clear c71b0; try clear c72; try clear c72b0; try clear c73; try clear c82; try clear c84; try clear c93; try clear hx480_0; try clear hx481_0; try clear hx482_0; try clear hx483_0; try clear hx488_0; try clear hx489_0; try clear hx490_0; try clear p2; try clear p4; try clear p48; try clear p480; try clear p481; try clear p482; try clear p483; try clear p488; try clear p489; try clear p49; try clear p490; try clear p6; try clear p64; try clear q4; try clear q48; try clear q480; try clear q481; try clear q482; try clear q483; try clear q488; try clear q489; try clear q49; try clear q490
                        obtain ⟨x27_6, rfl, HA, HK6, HO_3, HO_5, HO_23, HB⟩ := hrel
                        cases gk with
                        | zero => exact absurd HA.out (by simp [laws_FnTeaching.l3])
                        | succ k6 =>
                         have H := HA.out
                         clear HA
                         simp only [laws_FnTeaching.l3] at H
                         by_cases c94 : x27_6 < (t446.length : Int)
                         ·
                          rw [if_pos c94] at H
                          have c94b0 : decide (x27_6 < (t446.length : Int)) = true := decide_eq_true c94
                          clear c94
                          obtain ⟨y502, hy502⟩ : ∃ y_ : List Int, y_ = (([] : List Int)) := ⟨_, rfl⟩
                          replace H : (if 0 ≤ x27_6 then (if x27_6 ≤ (t446.length : Int) then ((some (t446.take (x27_6 : Int).toNat : List Int)).bind fun y505 => (if y502.length + y505.length < 17592186044416 then ((some (y502 ++ y505 : List Int)).bind fun y510 => (if 0 ≤ (wrap64 (x27_6 + 1)) then (if (wrap64 (x27_6 + 1)) ≤ (t446.length : Int) then ((some (t446.drop ((wrap64 (x27_6 + 1)) : Int).toNat : List Int)).bind fun y513 => (if y510.length + y513.length < 17592186044416 then ((some (([] : List Int) : List Int)).bind fun y521 => (if x27_6 ≤ (x23_4.length : Int) then ((some (x23_4.take (x27_6 : Int).toNat : List Int)).bind fun y524 => (if y521.length + y524.length < 17592186044416 then ((some (y521 ++ y524 : List Int)).bind fun y529 => (if (wrap64 (x27_6 + 1)) ≤ (x23_4.length : Int) then ((some (x23_4.drop ((wrap64 (x27_6 + 1)) : Int).toNat : List Int)).bind fun y532 => (if y529.length + y532.length < 17592186044416 then ((impl_VersionOf.f k6 t442 (y510 ++ y513) (y529 ++ y532)).bind fun bt540 => (if bt540.2 = true then (if (bt540.1.length : Int) < 2 then (none) else (laws_FnTeaching.l3 k6 t442 t446 t455 x23_4 (wrap64 (x27_6 + 1)))) else (none))) else (none))) else (none))) else (none))) else (none))) else (none))) else (none)) else (none))) else (none))) else (none)) else (none)) = some r := by first | (rw [hy502]; with_reducible exact H) | (have H2_ := (Option.bind_some _ _).symm.trans H; rw [hy502]; with_reducible exact H2_) | (have H2_ := (Option.bind_some _ _).symm.trans H; with_reducible exact H2_) | with_reducible exact H | (rw [hy502]; exact H) | exact H
                          have Ny502 := aM hy502
                          clear hy502
                          by_cases c95 : 0 ≤ x27_6
                          ·
                           rw [if_pos c95] at H
                           have c95b0 := eq_true c95
                           have c95b1 : decide (0 ≤ x27_6) = true := decide_eq_true c95
                           clear c95
                           by_cases c96 : x27_6 ≤ (t446.length : Int)
                           ·
                            rw [if_pos c96] at H
                            have c96b0 := eq_true c96
                            have c96b1 : decide (x27_6 ≤ (t446.length : Int)) = true := decide_eq_true c96
                            clear c96
                            obtain ⟨y505, hy505⟩ : ∃ y_ : List Int, y_ = (t446.take (x27_6 : Int).toNat) := ⟨_, rfl⟩
                            replace H : (if y502.length + y505.length < 17592186044416 then ((some (y502 ++ y505 : List Int)).bind fun y510 => (if 0 ≤ (wrap64 (x27_6 + 1)) then (if (wrap64 (x27_6 + 1)) ≤ (t446.length : Int) then ((some (t446.drop ((wrap64 (x27_6 + 1)) : Int).toNat : List Int)).bind fun y513 => (if y510.length + y513.length < 17592186044416 then ((some (([] : List Int) : List Int)).bind fun y521 => (if x27_6 ≤ (x23_4.length : Int) then ((some (x23_4.take (x27_6 : Int).toNat : List Int)).bind fun y524 => (if y521.length + y524.length < 17592186044416 then ((some (y521 ++ y524 : List Int)).bind fun y529 => (if (wrap64 (x27_6 + 1)) ≤ (x23_4.length : Int) then ((some (x23_4.drop ((wrap64 (x27_6 + 1)) : Int).toNat : List Int)).bind fun y532 => (if y529.length + y532.length < 17592186044416 then ((impl_VersionOf.f k6 t442 (y510 ++ y513) (y529 ++ y532)).bind fun bt540 => (if bt540.2 = true then (if (bt540.1.length : Int) < 2 then (none) else (laws_FnTeaching.l3 k6 t442 t446 t455 x23_4 (wrap64 (x27_6 + 1)))) else (none))) else (none))) else (none))) else (none))) else (none))) else (none))) else (none)) else (none))) else (none)) = some r := by first | (rw [hy505]; with_reducible exact H) | (have H2_ := (Option.bind_some _ _).symm.trans H; rw [hy505]; with_reducible exact H2_) | (have H2_ := (Option.bind_some _ _).symm.trans H; with_reducible exact H2_) | with_reducible exact H | (rw [hy505]; exact H) | exact H
                            have Ny505 := aM hy505
                            clear hy505
                            by_cases c97 : y502.length + y505.length < 17592186044416
                            ·
                             rw [if_pos c97] at H
                             have LMc97 := aM c97
                             clear c97
                             obtain ⟨y510, hy510⟩ : ∃ y_ : List Int, y_ = (y502 ++ y505) := ⟨_, rfl⟩
                             replace H : (if 0 ≤ (wrap64 (x27_6 + 1)) then (if (wrap64 (x27_6 + 1)) ≤ (t446.length : Int) then ((some (t446.drop ((wrap64 (x27_6 + 1)) : Int).toNat : List Int)).bind fun y513 => (if y510.length + y513.length < 17592186044416 then ((some (([] : List Int) : List Int)).bind fun y521 => (if x27_6 ≤ (x23_4.length : Int) then ((some (x23_4.take (x27_6 : Int).toNat : List Int)).bind fun y524 => (if y521.length + y524.length < 17592186044416 then ((some (y521 ++ y524 : List Int)).bind fun y529 => (if (wrap64 (x27_6 + 1)) ≤ (x23_4.length : Int) then ((some (x23_4.drop ((wrap64 (x27_6 + 1)) : Int).toNat : List Int)).bind fun y532 => (if y529.length + y532.length < 17592186044416 then ((impl_VersionOf.f k6 t442 (y510 ++ y513) (y529 ++ y532)).bind fun bt540 => (if bt540.2 = true then (if (bt540.1.length : Int) < 2 then (none) else (laws_FnTeaching.l3 k6 t442 t446 t455 x23_4 (wrap64 (x27_6 + 1)))) else (none))) else (none))) else (none))) else (none))) else (none))) else (none))) else (none)) else (none)) = some r := by first | (rw [hy510]; with_reducible exact H) | (have H2_ := (Option.bind_some _ _).symm.trans H; rw [hy510]; with_reducible exact H2_) | (have H2_ := (Option.bind_some _ _).symm.trans H; with_reducible exact H2_) | with_reducible exact H | (rw [hy510]; exact H) | exact H
                             have Ny510 := aM hy510
                             clear hy510
                             obtain ⟨ji98, hji98⟩ : ∃ j_ : Int, (wrap64 (x27_6 + 1)) = j_ := ⟨_, rfl⟩
                             replace H : (if 0 ≤ (ji98) then (if (ji98) ≤ (t446.length : Int) then ((some (t446.drop ((ji98) : Int).toNat : List Int)).bind fun y513 => (if y510.length + y513.length < 17592186044416 then ((some (([] : List Int) : List Int)).bind fun y521 => (if x27_6 ≤ (x23_4.length : Int) then ((some (x23_4.take (x27_6 : Int).toNat : List Int)).bind fun y524 => (if y521.length + y524.length < 17592186044416 then ((some (y521 ++ y524 : List Int)).bind fun y529 => (if (ji98) ≤ (x23_4.length : Int) then ((some (x23_4.drop ((ji98) : Int).toNat : List Int)).bind fun y532 => (if y529.length + y532.length < 17592186044416 then ((impl_VersionOf.f k6 t442 (y510 ++ y513) (y529 ++ y532)).bind fun bt540 => (if bt540.2 = true then (if (bt540.1.length : Int) < 2 then (none) else (laws_FnTeaching.l3 k6 t442 t446 t455 x23_4 ji98)) else (none))) else (none))) else (none))) else (none))) else (none))) else (none))) else (none)) else (none)) = some r := by first | (rw [hji98] at H; exact H) | (simp only [hji98] at H ⊢; exact H)
                             have hji98w : (IntKind.i64.wrap (x27_6 + 1)) = ji98 := (i64_w _).trans hji98
                             by_cases c99 : 0 ≤ (ji98)
                             ·
                              rw [if_pos c99] at H
                              have c99b0 := eq_true c99
                              have c99b1 : decide (0 ≤ (ji98)) = true := decide_eq_true c99
                              clear c99
                              by_cases c100 : (ji98) ≤ (t446.length : Int)
                              ·
                               rw [if_pos c100] at H
                               have c100b0 := eq_true c100
                               have c100b1 : decide ((ji98) ≤ (t446.length : Int)) = true := decide_eq_true c100
                               clear c100
                               obtain ⟨y513, hy513⟩ : ∃ y_ : List Int, y_ = (t446.drop ((ji98) : Int).toNat) := ⟨_, rfl⟩
                               replace H : (if y510.length + y513.length < 17592186044416 then ((some (([] : List Int) : List Int)).bind fun y521 => (if x27_6 ≤ (x23_4.length : Int) then ((some (x23_4.take (x27_6 : Int).toNat : List Int)).bind fun y524 => (if y521.length + y524.length < 17592186044416 then ((some (y521 ++ y524 : List Int)).bind fun y529 => (if (ji98) ≤ (x23_4.length : Int) then ((some (x23_4.drop ((ji98) : Int).toNat : List Int)).bind fun y532 => (if y529.length + y532.length < 17592186044416 then ((impl_VersionOf.f k6 t442 (y510 ++ y513) (y529 ++ y532)).bind fun bt540 => (if bt540.2 = true then (if (bt540.1.length : Int) < 2 then (none) else (laws_FnTeaching.l3 k6 t442 t446 t455 x23_4 ji98)) else (none))) else (none))) else (none))) else (none))) else (none))) else (none)) = some r := by first | (rw [hy513]; with_reducible exact H) | (have H2_ := (Option.bind_some _ _).symm.trans H; rw [hy513]; with_reducible exact H2_) | (have H2_ := (Option.bind_some _ _).symm.trans H; with_reducible exact H2_) | with_reducible exact H | (rw [hy513]; exact H) | exact H
                               have Ny513 := aM hy513
                               clear hy513
                               by_cases c101 : y510.length + y513.length < 17592186044416
                               ·
                                rw [if_pos c101] at H
                                have LMc101 := aM c101
                                clear c101
                                obtain ⟨y518, hy518⟩ : ∃ y_ : List Int, y_ = (y510 ++ y513) := ⟨_, rfl⟩
                                replace H : ((some (([] : List Int) : List Int)).bind fun y521 => (if x27_6 ≤ (x23_4.length : Int) then ((some (x23_4.take (x27_6 : Int).toNat : List Int)).bind fun y524 => (if y521.length + y524.length < 17592186044416 then ((some (y521 ++ y524 : List Int)).bind fun y529 => (if (ji98) ≤ (x23_4.length : Int) then ((some (x23_4.drop ((ji98) : Int).toNat : List Int)).bind fun y532 => (if y529.length + y532.length < 17592186044416 then ((impl_VersionOf.f k6 t442 y518 (y529 ++ y532)).bind fun bt540 => (if bt540.2 = true then (if (bt540.1.length : Int) < 2 then (none) else (laws_FnTeaching.l3 k6 t442 t446 t455 x23_4 ji98)) else (none))) else (none))) else (none))) else (none))) else (none))) = some r := by first | (rw [hy518]; with_reducible exact H) | (have H2_ := (Option.bind_some _ _).symm.trans H; rw [hy518]; with_reducible exact H2_) | (have H2_ := (Option.bind_some _ _).symm.trans H; with_reducible exact H2_) | with_reducible exact H | (rw [hy518]; exact H) | exact H
                                have Ny518 := aM hy518
                                clear hy518
                                obtain ⟨y521, hy521⟩ : ∃ y_ : List Int, y_ = (([] : List Int)) := ⟨_, rfl⟩
                                replace H : (if x27_6 ≤ (x23_4.length : Int) then ((some (x23_4.take (x27_6 : Int).toNat : List Int)).bind fun y524 => (if y521.length + y524.length < 17592186044416 then ((some (y521 ++ y524 : List Int)).bind fun y529 => (if (ji98) ≤ (x23_4.length : Int) then ((some (x23_4.drop ((ji98) : Int).toNat : List Int)).bind fun y532 => (if y529.length + y532.length < 17592186044416 then ((impl_VersionOf.f k6 t442 y518 (y529 ++ y532)).bind fun bt540 => (if bt540.2 = true then (if (bt540.1.length : Int) < 2 then (none) else (laws_FnTeaching.l3 k6 t442 t446 t455 x23_4 ji98)) else (none))) else (none))) else (none))) else (none))) else (none)) = some r := by first | (rw [hy521]; with_reducible exact H) | (have H2_ := (Option.bind_some _ _).symm.trans H; rw [hy521]; with_reducible exact H2_) | (have H2_ := (Option.bind_some _ _).symm.trans H; with_reducible exact H2_) | with_reducible exact H | (rw [hy521]; exact H) | exact H
                                have Ny521 := aM hy521
                                clear hy521
                                have c102b0 := eq_true (of_decide_eq_true (by first | (with_reducible assumption) | assumption) : 0 ≤ x27_6)
                                by_cases c103 : x27_6 ≤ (x23_4.length : Int)
                                ·
                                 rw [if_pos c103] at H
                                 have c103b0 := eq_true c103
                                 have c103b1 : decide (x27_6 ≤ (x23_4.length : Int)) = true := decide_eq_true c103
                                 clear c103
                                 obtain ⟨y524, hy524⟩ : ∃ y_ : List Int, y_ = (x23_4.take (x27_6 : Int).toNat) := ⟨_, rfl⟩
                                 replace H : (if y521.length + y524.length < 17592186044416 then ((some (y521 ++ y524 : List Int)).bind fun y529 => (if (ji98) ≤ (x23_4.length : Int) then ((some (x23_4.drop ((ji98) : Int).toNat : List Int)).bind fun y532 => (if y529.length + y532.length < 17592186044416 then ((impl_VersionOf.f k6 t442 y518 (y529 ++ y532)).bind fun bt540 => (if bt540.2 = true then (if (bt540.1.length : Int) < 2 then (none) else (laws_FnTeaching.l3 k6 t442 t446 t455 x23_4 ji98)) else (none))) else (none))) else (none))) else (none)) = some r := by first | (rw [hy524]; with_reducible exact H) | (have H2_ := (Option.bind_some _ _).symm.trans H; rw [hy524]; with_reducible exact H2_) | (have H2_ := (Option.bind_some _ _).symm.trans H; with_reducible exact H2_) | with_reducible exact H | (rw [hy524]; exact H) | exact H
                                 have Ny524 := aM hy524
                                 clear hy524
                                 by_cases c104 : y521.length + y524.length < 17592186044416
                                 ·
                                  rw [if_pos c104] at H
                                  have LMc104 := aM c104
                                  clear c104
                                  obtain ⟨y529, hy529⟩ : ∃ y_ : List Int, y_ = (y521 ++ y524) := ⟨_, rfl⟩
                                  replace H : (if (ji98) ≤ (x23_4.length : Int) then ((some (x23_4.drop ((ji98) : Int).toNat : List Int)).bind fun y532 => (if y529.length + y532.length < 17592186044416 then ((impl_VersionOf.f k6 t442 y518 (y529 ++ y532)).bind fun bt540 => (if bt540.2 = true then (if (bt540.1.length : Int) < 2 then (none) else (laws_FnTeaching.l3 k6 t442 t446 t455 x23_4 ji98)) else (none))) else (none))) else (none)) = some r := by first | (rw [hy529]; with_reducible exact H) | (have H2_ := (Option.bind_some _ _).symm.trans H; rw [hy529]; with_reducible exact H2_) | (have H2_ := (Option.bind_some _ _).symm.trans H; with_reducible exact H2_) | with_reducible exact H | (rw [hy529]; exact H) | exact H
                                  have Ny529 := aM hy529
                                  clear hy529
                                  have c105b0 := eq_true (of_decide_eq_true (by first | (with_reducible assumption) | assumption) : 0 ≤ (ji98))
                                  by_cases c106 : (ji98) ≤ (x23_4.length : Int)
                                  ·
                                   rw [if_pos c106] at H
                                   have c106b0 := eq_true c106
                                   have c106b1 : decide ((ji98) ≤ (x23_4.length : Int)) = true := decide_eq_true c106
                                   clear c106
                                   obtain ⟨y532, hy532⟩ : ∃ y_ : List Int, y_ = (x23_4.drop ((ji98) : Int).toNat) := ⟨_, rfl⟩
                                   replace H : (if y529.length + y532.length < 17592186044416 then ((impl_VersionOf.f k6 t442 y518 (y529 ++ y532)).bind fun bt540 => (if bt540.2 = true then (if (bt540.1.length : Int) < 2 then (none) else (laws_FnTeaching.l3 k6 t442 t446 t455 x23_4 ji98)) else (none))) else (none)) = some r := by first | (rw [hy532]; with_reducible exact H) | (have H2_ := (Option.bind_some _ _).symm.trans H; rw [hy532]; with_reducible exact H2_) | (have H2_ := (Option.bind_some _ _).symm.trans H; with_reducible exact H2_) | with_reducible exact H | (rw [hy532]; exact H) | exact H
                                   have Ny532 := aM hy532
                                   clear hy532
                                   by_cases c107 : y529.length + y532.length < 17592186044416
                                   ·
                                    rw [if_pos c107] at H
                                    have LMc107 := aM c107
                                    clear c107
                                    obtain ⟨y537, hy537⟩ : ∃ y_ : List Int, y_ = (y529 ++ y532) := ⟨_, rfl⟩
                                    replace H : ((impl_VersionOf.f k6 t442 y518 y537).bind fun bt540 => (if bt540.2 = true then (if (bt540.1.length : Int) < 2 then (none) else (laws_FnTeaching.l3 k6 t442 t446 t455 x23_4 ji98)) else (none))) = some r := by first | (rw [hy537]; with_reducible exact H) | (have H2_ := (Option.bind_some _ _).symm.trans H; rw [hy537]; with_reducible exact H2_) | (have H2_ := (Option.bind_some _ _).symm.trans H; with_reducible exact H2_) | with_reducible exact H | (rw [hy537]; exact H) | exact H
                                    have Ny537 := aM hy537
                                    clear hy537
                                    replace H := oB.mp H
                                    obtain ⟨⟨t540, t541⟩, A1080, H⟩ := H
                                    replace H : (if t541 = true then (if (t540.length : Int) < 2 then (none) else (laws_FnTeaching.l3 k6 t442 t446 t455 x23_4 ji98)) else (none)) = some r := H
                                    have A108 := aM A1080
                                    clear A1080
                                    by_cases c109 : t541 = true
                                    ·
                                     subst c109
                                     have H1 : (if (t540.length : Int) < 2 then (none) else (laws_FnTeaching.l3 k6 t442 t446 t455 x23_4 ji98)) = some r := by rw [if_pos rfl] at H; exact H
                                     clear H
                                     have H := H1
                                     clear H1
                                     by_cases c110 : (t540.length : Int) < 2
                                     ·
                                      rw [if_pos c110] at H
                                      exact absurd H (by simp)
                                     ·
                                      rw [if_neg c110] at H
                                      have c110b0 : decide ((t540.length : Int) < 2) = false := decide_eq_false c110
                                      have c110b1 : decide (t540.length < 2) = false := decide_eq_false (by omega)
                                      clear c110
                                      have H' := aM H
                                      clear H
                                      try go_wp2
                                      have n0_ := aM (Kd.N_drew HO_3.out)
                                      have n1_ := aM (rD HO_5.out)
                                      have n2_ := aM (rD HO_23.out)
                                      have n3_ := aM (eD HB.out)
                                      clear HO_3
                                      clear HO_5
                                      clear HO_23
                                      clear HB
                                      have HO_3 := n0_
                                      have HO_5 := n1_
                                      have HO_23 := n2_
                                      have HB := n3_
                                      clear n0_ n1_ n2_ n3_
                                      have q112 : (x27_6 : Int) ≤ ((t446.length : Int) : Int) := of_decide_eq_true (by first | (with_reducible assumption) | assumption)
                                      obtain ⟨i0112, hi0112, _, hsz112, _⟩ := info_parts info3
                                      have hroom112 : t446.length ≤ co79 := (Kd.R_reads' HO_5.out).2.1
                                      have hC112 : Kd.F (Kd.int .i64) _ _ Ao79 t446.length t446 := (Kd.V_at (base := w.heap.size) (Kd.R_V (Kd.R_apart' (HO_5.out) (Kd.N_typed HO_3.out) (by decide)))).2.2
                                      have hcut112 := cut_to (P := Try.prog) 27 3 .i64 Try.underlying27 hi0112 Ao79 t446.length co79 x27_6 (of_decide_eq_true (by first | (with_reducible assumption) | assumption)) q112 hroom112
                                      have hr112 := Kd.F_take (m := (x27_6 : Int).toNat) hC112 (by omega)
                                      have hy112 : y505.length = (x27_6 : Int).toNat := (by rw [Ny505.out, List.length_take]; omega)
                                      rw [← Ny505.out] at hr112
                                      rw [← hy112] at hcut112
                                      have HO509 := aM (show Kd.V (Kd.int .i64) 3 _ w.heap.size _ (.slice Ao79 y505.length co79) y505 from Kd.V_mk (by omega) hr112)
                                      have HC509 := aM (show y505.length ≤ co79 from by omega)
                                      clear hr112 hC112 hroom112 hi0112 hsz112
                                      have KY112 := aM hy112
                                      clear hy112
                                      replace q112 := eq_true q112
                                      have q113 : ((ji98) : Int) ≤ ((t446.length : Int) : Int) := of_decide_eq_true (by first | (with_reducible assumption) | assumption)
                                      obtain ⟨i0113, hi0113, _, hsz113, _⟩ := info_parts info3
                                      have hroom113 : t446.length ≤ co79 := (Kd.R_reads' HO_5.out).2.1
                                      have hC113 : Kd.F (Kd.int .i64) _ _ Ao79 t446.length t446 := (Kd.V_at (base := w.heap.size) (Kd.R_V (Kd.R_apart' (HO_5.out) (Kd.N_typed HO_3.out) (by decide)))).2.2
                                      have q0113 : (0 : Int) ≤ ((ji98) : Int) := of_decide_eq_true (by first | (with_reducible assumption) | assumption)
                                      have hcut113 := cut_from (P := Try.prog) 27 3 .i64 Try.underlying27 hi0113 1 hsz113 Ao79 t446.length co79 (ji98) q0113 q113
                                      have hr113 := Kd.F_cut (m := ((ji98) : Int).toNat) (c := co79) hC113 (by omega) hroom113
                                      obtain ⟨A113, hA113⟩ : ∃ A1, A1 = (if co79 = ((ji98) : Int).toNat then Ao79 else (Ao79 : Option Addr).map (·.add (((ji98) : Int).toNat * 1))) := ⟨_, rfl⟩
                                      obtain ⟨c113, hc113⟩ : ∃ c1, c1 = co79 - ((ji98) : Int).toNat := ⟨_, rfl⟩
                                      have hy113 : y513.length = t446.length - ((ji98) : Int).toNat := (by rw [Ny513.out, List.length_drop] <;> omega)
                                      rw [show (t446).drop ((ji98) : Int).toNat = y513 from Ny513.out.symm] at hr113
                                      replace hr113 : Kd.F (Kd.int .i64) _ _ A113 y513.length y513 := (by rw [hA113]; exact hr113)
                                      rw [← hy113, ← hA113, ← hc113] at hcut113
                                      have HO517 := aM (show Kd.V (Kd.int .i64) 3 _ w.heap.size _ (.slice A113 y513.length c113) y513 from Kd.V_mk (by rw [hy113, hc113]; exact Nat.sub_le_sub_right hroom113 _) hr113)
                                      have HC517 := aM (show y513.length ≤ c113 from by rw [hy113, hc113]; exact Nat.sub_le_sub_right hroom113 _)
                                      clear hr113 hC113 hroom113 hi0113 hsz113 hc113
                                      have KY113 := aM hy113
                                      have KA113 := aM hA113
                                      clear hy113 hA113
                                      replace q113 := eq_true q113
                                      refine start_ (n := 11) (S := fun w' => True) (ds := []) #[false, false, false, false, false, false, false, false, false, false, false] (by kernel_rfl) rfl rfl trivial (fun hHeld => ?_); refine with_tabW laws_FnTeaching.tab36 laws_FnTeaching.bits36 (fun HT_ HW_ => ?_)
                                      generalize wr.drew = w111 at HO_3 HO_5 HO_23 HB HO509 HO517 hHeld ⊢
                                      refine pure_ (i := 1) (N := some 201) (v := ?_) (a' := ?_) #[false, true, false, false, false, false, false, false, false, false, false] rfl rfl (any_of HT_.out (by kernel_rfl)) (fun _ _ _ h => h) (Or.inl ⟨by rfl, ?_⟩) ?_ ?_
                                      rotate_left
                                      ·
                                       intro w'
                                       go_simp
                                       with_reducible rfl
                                      rotate_left
                                      ·
                                       simp only [Act.put, sA, sZ, sU, i64_w, i32_w]
                                       rfl
                                      refine pure_ (i := 2) (N := some 202) (v := ?_) (a' := ?_) #[false, true, true, false, false, false, false, false, false, false, false] rfl rfl (any_of HT_.out (by kernel_rfl)) (fun _ _ _ h => h) (Or.inl ⟨by rfl, ?_⟩) ?_ ?_
                                      rotate_left
                                      ·
                                       intro w'
                                       go_simp
                                       with_reducible rfl
                                      rotate_left
                                      ·
                                       simp only [Act.put, sA, sZ, sU, i64_w, i32_w]
                                       rfl
                                      refine pure_ (i := 3) (N := some 203) (v := ?_) (a' := ?_) #[false, true, true, true, false, false, false, false, false, false, false] rfl rfl (any_of HT_.out (by kernel_rfl)) (fun _ _ _ h => h) (Or.inl ⟨by rfl, ?_⟩) ?_ ?_
                                      rotate_left
                                      ·
                                       intro w'
                                       go_simp
                                       with_reducible rfl
                                      rotate_left
                                      ·
                                       simp only [Act.put, sA, sZ, sU, i64_w, i32_w]
                                       rfl
                                      refine pure_ (i := 5) (N := some 205) (v := ?_) (a' := ?_) #[false, true, true, true, false, true, false, false, false, false, false] rfl rfl (any_of HT_.out (by kernel_rfl)) (fun _ _ _ h => h) (Or.inl ⟨by rfl, ?_⟩) ?_ ?_
                                      rotate_left
                                      ·
                                       intro w'
                                       go_simp
                                       with_reducible rfl
                                      rotate_left
                                      ·
                                       simp only [Act.put, sA, sZ, sU, i64_w, i32_w]
                                       rfl
                                      refine pure_ (i := 6) (N := some 206) (v := ?_) (a' := ?_) #[false, true, true, true, false, true, true, false, false, false, false] rfl rfl (any_of HT_.out (by kernel_rfl)) (fun _ _ _ h => h) (Or.inl ⟨by rfl, ?_⟩) ?_ ?_
                                      rotate_left
                                      ·
                                       intro w'
                                       go_simp
                                       with_reducible rfl
                                      rotate_left
                                      ·
                                       simp only [Act.put, sA, sZ, sU, i64_w, i32_w]
                                       rfl
                                      refine pure_ (i := 7) (N := some 207) (v := ?_) (a' := ?_) #[false, true, true, true, false, true, true, true, false, false, false] rfl rfl (any_of HT_.out (by kernel_rfl)) (fun _ _ _ h => h) (Or.inl ⟨by rfl, ?_⟩) ?_ ?_
                                      rotate_left
                                      ·
                                       intro w'
                                       go_simp
                                       with_reducible rfl
                                      rotate_left
                                      ·
                                       simp only [Act.put, sA, sZ, sU, i64_w, i32_w]
                                       rfl
                                      refine pure_ (i := 8) (N := some 208) (v := ?_) (a' := ?_) #[false, true, true, true, false, true, true, true, true, false, false] rfl rfl (any_of HT_.out (by kernel_rfl)) (fun _ _ _ h => h) (Or.inl ⟨by rfl, ?_⟩) ?_ ?_
                                      rotate_left
                                      ·
                                       intro w'
                                       go_simp
                                       with_reducible rfl
                                      rotate_left
                                      ·
                                       simp only [Act.put, sA, sZ, sU, i64_w, i32_w]
                                       rfl
                                      refine one_ (i := 0) (N := some 200) #[true, true, true, true, false, true, true, true, true, false, false] rfl rfl (one_of HT_.out (by kernel_rfl)) (by decide) (fun K hK => ?_)
                                      refine Kd.R_lit_step (Kd.int .i64) _ 3 ?hg (N := 200) ?hd (xs := ([] : List Int)) (inner := []) (ok := fun _ => True) (okp := fun _ => True) ?hr ?hp (fun _ hk => hk) trivial (Below.refl _ _) (Nat.le_refl _) (by simp) ?_; (case hd => rfl); (case hg => rfl); (case hr => first | (go_simp; done) | (go_simp; rfl)); (case hp => exact (Reps.none _ _))
                                      intro v503 w114 ho115 hb hg_ hnew_
                                      clear hg_ hnew_
                                      (first | rw [← Ny502.out] at ho115 | (simp only [Int.reduceToNat] at ho115; rw [← Ny502.out] at ho115))
                                      have n0_ := aM (Kd.N_elder' (by (with_reducible repeat (first | apply Kd.N_alloc | apply Kd.N_drewN | apply Kd.N_drew)); exact HO_3.out) (Kd.R_base ho115) hb)
                                      have n1_ := aM (Kd.R_elder' (by (with_reducible repeat (first | apply rA | apply rN | apply rD)); exact HO_5.out) (Kd.R_base ho115) hb)
                                      have n2_ := aM (Kd.R_elder' (by (with_reducible repeat (first | apply rA | apply rN | apply rD)); exact HO_23.out) (Kd.R_base ho115) hb)
                                      have n3_ := aM (Kd.V_elder' (by (with_reducible repeat (first | apply Kd.V_alloc | apply Kd.V_drewN | apply Kd.V_drew)); exact HO509.out) (Kd.R_base ho115) hb)
                                      have n4_ := aM (Kd.V_elder' (by (with_reducible repeat (first | apply Kd.V_alloc | apply Kd.V_drewN | apply Kd.V_drew)); exact HO517.out) (Kd.R_base ho115) hb)
                                      have n5_ := aM (Kd.R_lower (Kd.R_new' (Kd.R_new' ho115 (Kd.R_lt (by (with_reducible repeat (first | apply rA | apply rN | apply rD)); exact HO_5.out))) (Kd.R_lt (by (with_reducible repeat (first | apply rA | apply rN | apply rD)); exact HO_23.out))) (below_size (by repeat (first | (with_reducible first | exact HB.out | apply eA | apply eN | apply eD) | exact HB.out))))
                                      have n6_ := aM (below_step (by repeat (first | (with_reducible first | exact HB.out | apply eA | apply eN | apply eD) | exact HB.out)) hb)
                                      clear HO_3
                                      clear HO_5
                                      clear HO_23
                                      clear HO509
                                      clear HO517
                                      clear HB
                                      have HO_3 := n0_
                                      have HO_5 := n1_
                                      have HO_23 := n2_
                                      have HO509 := n3_
                                      have HO517 := n4_
                                      have HO504 := n5_
                                      have HB := n6_
                                      clear n0_ n1_ n2_ n3_ n4_ n5_ n6_
                                      clear hb ho115
                                      refine hK.out _ _ trivial (fun hHeld => ?_)
                                      clear hK K
                                      refine norm_ (a' := ?_) ?_ ?_
                                      rotate_left
                                      ·
                                       show Act.put _ (some 200) _ = _
                                       simp only [Act.put, sA, sZ, sU, i64_w, i32_w]
                                       rfl
                                      refine one_ (i := 4) (N := some 204) #[true, true, true, true, true, true, true, true, true, false, false] rfl rfl (one_of HT_.out (by kernel_rfl)) (by decide) (fun K hK => ?_)
                                      refine Kd.R_append_rows_step (Kd.int .i64) (w0 := w) w.heap.size (by rfl) (.tmp 200) (.tmp 203) 27 3 (.int .i64 0) 8 rfl Try.underlying27 info3 rfl (by decide) (by omega) v503 y502 y505 _ _ _ (fun k_ => some k_ ≠ (.slice Ao79 t446.length co79 : Value).ownBlock ∧ some k_ ≠ (.slice Ao80 x23_4.length co80 : Value).ownBlock) (fun _ => False) rfl rfl ?aO ?aR (fun _ _ h => h) (fun _ h => h.elim) ?aF ?aB ?aS ?aL ?_
                                      (case aR => repeat (first | exact (Kd.V_reads' HO509.out).2.2 | (with_reducible refine Kd.C_alloc ?_ _) | (with_reducible refine Kd.C_drewN ?_ _) | (with_reducible refine Kd.C_drew ?_)))
                                      (case aB => exact (by repeat (first | (with_reducible first | exact HB.out | apply eA | apply eN | apply eD) | exact HB.out)))
                                      (case aF => exact (fun k_ hk => ⟨Kd.fresh' (Kd.R_lt (by (with_reducible repeat (first | apply rA | apply rN | apply rD)); exact HO_5.out)) k_ hk, Kd.fresh' (Kd.R_lt (by (with_reducible repeat (first | apply rA | apply rN | apply rD)); exact HO_23.out)) k_ hk⟩))
                                      (case aO => exact (by (with_reducible repeat (first | apply rA | apply rN | apply rD)); exact rM HO504.out (fun _ hk => ⟨hk.1.2, hk.2⟩)))
                                      (case aS => exact (below_size (by repeat (first | (with_reducible first | exact HB.out | apply eA | apply eN | apply eD) | exact HB.out))))
                                      (case aL => have := LMc97.out; omega)
                                      intro v511 w116 ho hb hg hat
                                      rw [← Ny510.out] at ho
                                      have n0_ := aM (Kd.N_afterv (ok := (fun k_ => some k_ ≠ (.slice Ao79 t446.length co79 : Value).ownBlock ∧ some k_ ≠ (.slice Ao80 x23_4.length co80 : Value).ownBlock)) (by (with_reducible repeat (first | apply Kd.N_alloc | apply Kd.N_drewN | apply Kd.N_drew)); exact HO_3.out) hg hat)
                                      have n1_ := aM (Kd.R_after (ok := (fun k_ => some k_ ≠ (.slice Ao80 x23_4.length co80 : Value).ownBlock)) (by (with_reducible repeat (first | apply rA | apply rN | apply rD)); exact HO_5.out) hg hat)
                                      have n2_ := aM (Kd.R_after (ok := (fun k_ => some k_ ≠ (.slice Ao79 t446.length co79 : Value).ownBlock)) (by (with_reducible repeat (first | apply rA | apply rN | apply rD)); exact HO_23.out) hg hat)
                                      have n3_ := aM (Kd.V_afterv (ok := (fun k_ => some k_ ≠ (.slice Ao15 t442.length co15 : Value).ownBlock ∧ some k_ ≠ (.slice Ao80 x23_4.length co80 : Value).ownBlock)) (by (with_reducible repeat (first | apply Kd.V_alloc | apply Kd.V_drewN | apply Kd.V_drew)); exact Kd.V_mono HO509.out (fun _ hk => ⟨⟨hk.1.2, hk.1.1⟩, hk.2⟩)) hg hat)
                                      have n4_ := aM (Kd.V_afterv (ok := (fun k_ => some k_ ≠ (.slice Ao15 t442.length co15 : Value).ownBlock ∧ some k_ ≠ (.slice Ao80 x23_4.length co80 : Value).ownBlock)) (by (with_reducible repeat (first | apply Kd.V_alloc | apply Kd.V_drewN | apply Kd.V_drew)); exact Kd.V_mono HO517.out (fun _ hk => ⟨⟨hk.1.2, hk.1.1⟩, hk.2⟩)) hg hat)
                                      have n5_ := aM (hb)
                                      have n6_ := aM (ho)
                                      clear HO_3
                                      clear HO_5
                                      clear HO_23
                                      clear HO509
                                      clear HO517
                                      clear HB
                                      clear HO504
                                      have HO_3 := n0_
                                      have HO_5 := n1_
                                      have HO_23 := n2_
                                      have HO509 := n3_
                                      have HO517 := n4_
                                      have HB := n5_
                                      have HO512 := n6_
                                      clear n0_ n1_ n2_ n3_ n4_ n5_ n6_
                                      clear ho hb hg hat
                                      refine hK.out _ _ trivial (fun hHeld => ?_)
                                      clear hK K
                                      refine norm_ (a' := ?_) ?_ ?_
                                      rotate_left
                                      ·
                                       show Act.put _ (some 204) _ = _
                                       simp only [Act.put, sA, sZ, sU, i64_w, i32_w]
                                       rfl
                                      refine one_ (i := 9) (N := some 209) #[true, true, true, true, true, true, true, true, true, true, false] rfl rfl (one_of HT_.out (by kernel_rfl)) (by decide) (fun K hK => ?_)
                                      refine Kd.R_append_rows_step (Kd.int .i64) (w0 := w) w.heap.size (by rfl) (.tmp 204) (.tmp 208) 27 3 (.int .i64 0) 8 rfl Try.underlying27 info3 rfl (by decide) (by omega) v511 y510 y513 _ _ _ (fun k_ => some k_ ≠ (.slice Ao79 t446.length co79 : Value).ownBlock ∧ some k_ ≠ (.slice Ao80 x23_4.length co80 : Value).ownBlock) (fun _ => False) rfl rfl ?aO ?aR (fun _ _ h => h) (fun _ h => h.elim) ?aF ?aB ?aS ?aL ?_
                                      (case aR => repeat (first | exact (Kd.V_reads' HO517.out).2.2 | (with_reducible refine Kd.C_alloc ?_ _) | (with_reducible refine Kd.C_drewN ?_ _) | (with_reducible refine Kd.C_drew ?_)))
                                      (case aB => exact (by repeat (first | (with_reducible first | exact HB.out | apply eA | apply eN | apply eD) | exact HB.out)))
                                      (case aF => exact (fun k_ hk => ⟨Kd.fresh' (Kd.R_lt (by (with_reducible repeat (first | apply rA | apply rN | apply rD)); exact HO_5.out)) k_ hk, Kd.fresh' (Kd.R_lt (by (with_reducible repeat (first | apply rA | apply rN | apply rD)); exact HO_23.out)) k_ hk⟩))
                                      (case aO => exact (by (with_reducible repeat (first | apply rA | apply rN | apply rD)); exact HO512.out))
                                      (case aS => exact (below_size (by repeat (first | (with_reducible first | exact HB.out | apply eA | apply eN | apply eD) | exact HB.out))))
                                      (case aL => have := LMc101.out; omega)
                                      intro v519 w117 ho hb hg hat
                                      rw [← Ny518.out] at ho
                                      have n0_ := aM (Kd.N_afterv (ok := (fun k_ => some k_ ≠ (.slice Ao79 t446.length co79 : Value).ownBlock ∧ some k_ ≠ (.slice Ao80 x23_4.length co80 : Value).ownBlock)) (by (with_reducible repeat (first | apply Kd.N_alloc | apply Kd.N_drewN | apply Kd.N_drew)); exact HO_3.out) hg hat)
                                      have n1_ := aM (Kd.R_after (ok := (fun k_ => some k_ ≠ (.slice Ao80 x23_4.length co80 : Value).ownBlock)) (by (with_reducible repeat (first | apply rA | apply rN | apply rD)); exact HO_5.out) hg hat)
                                      have n2_ := aM (Kd.R_after (ok := (fun k_ => some k_ ≠ (.slice Ao79 t446.length co79 : Value).ownBlock)) (by (with_reducible repeat (first | apply rA | apply rN | apply rD)); exact HO_23.out) hg hat)
                                      have n3_ := aM (Kd.V_afterv (ok := (fun k_ => some k_ ≠ (.slice Ao15 t442.length co15 : Value).ownBlock ∧ some k_ ≠ (.slice Ao80 x23_4.length co80 : Value).ownBlock)) (by (with_reducible repeat (first | apply Kd.V_alloc | apply Kd.V_drewN | apply Kd.V_drew)); exact HO509.out) hg hat)
                                      have n4_ := aM (Kd.V_afterv (ok := (fun k_ => some k_ ≠ (.slice Ao15 t442.length co15 : Value).ownBlock ∧ some k_ ≠ (.slice Ao80 x23_4.length co80 : Value).ownBlock)) (by (with_reducible repeat (first | apply Kd.V_alloc | apply Kd.V_drewN | apply Kd.V_drew)); exact HO517.out) hg hat)
                                      have n5_ := aM (hb)
                                      have n6_ := aM (ho)
                                      clear HO_3
                                      clear HO_5
                                      clear HO_23
                                      clear HO509
                                      clear HO517
                                      clear HB
                                      clear HO512
                                      have HO_3 := n0_
                                      have HO_5 := n1_
                                      have HO_23 := n2_
                                      have HO509 := n3_
                                      have HO517 := n4_
                                      have HB := n5_
                                      have HO520 := n6_
                                      clear n0_ n1_ n2_ n3_ n4_ n5_ n6_
                                      clear ho hb hg hat
                                      refine hK.out _ _ trivial (fun hHeld => ?_)
                                      clear hK K
                                      refine norm_ (a' := ?_) ?_ ?_
                                      rotate_left
                                      ·
                                       show Act.put _ (some 209) _ = _
                                       simp only [Act.put, sA, sZ, sU, i64_w, i32_w]
                                       rfl
                                      refine pure_ (i := 10) (N := some 28) (v := ?_) (a' := ?_) #[true, true, true, true, true, true, true, true, true, true, true] rfl rfl (any_of HT_.out (by kernel_rfl)) (fun _ _ _ h => h) (Or.inl ⟨by rfl, ?_⟩) ?_ ?_
                                      rotate_left
                                      ·
                                       intro w'
                                       go_simp
                                       with_reducible rfl
                                      rotate_left
                                      ·
                                       simp only [Act.put, sA, sZ, sU, i64_w, i32_w]
                                       rfl
                                      refine done_ (done_of HT_.out (by kernel_rfl)) ?_
                                      try go_wp2
                                      have n0_ := aM (Kd.N_drew HO_3.out)
                                      have n1_ := aM (rD HO_5.out)
                                      have n2_ := aM (rD HO_23.out)
                                      have n3_ := aM (Kd.V_drew HO509.out)
                                      have n4_ := aM (Kd.V_drew HO517.out)
                                      have n5_ := aM (rD HO520.out)
                                      have n6_ := aM (eD HB.out)
                                      clear HO_3
                                      clear HO_5
                                      clear HO_23
                                      clear HO509
                                      clear HO517
                                      clear HO520
                                      clear HB
                                      have HO_3 := n0_
                                      have HO_5 := n1_
                                      have HO_23 := n2_
                                      have HO509 := n3_
                                      have HO517 := n4_
                                      have HO520 := n5_
                                      have HB := n6_
                                      clear n0_ n1_ n2_ n3_ n4_ n5_ n6_
                                      have q119 : (x27_6 : Int) ≤ ((x23_4.length : Int) : Int) := of_decide_eq_true (by first | (with_reducible assumption) | assumption)
                                      obtain ⟨i0119, hi0119, _, hsz119, _⟩ := info_parts info3
                                      have hroom119 : x23_4.length ≤ co80 := (Kd.R_reads' HO_23.out).2.1
                                      have hC119 : Kd.F (Kd.int .i64) _ _ Ao80 x23_4.length x23_4 := (Kd.V_at (base := w.heap.size) (Kd.R_V (Kd.R_apart' (HO_23.out) (Kd.N_typed HO_3.out) (by decide)))).2.2
                                      have hcut119 := cut_to (P := Try.prog) 27 3 .i64 Try.underlying27 hi0119 Ao80 x23_4.length co80 x27_6 (of_decide_eq_true (by first | (with_reducible assumption) | assumption)) q119 hroom119
                                      have hr119 := Kd.F_take (m := (x27_6 : Int).toNat) hC119 (by omega)
                                      have hy119 : y524.length = (x27_6 : Int).toNat := (by rw [Ny524.out, List.length_take]; omega)
                                      rw [← Ny524.out] at hr119
                                      rw [← hy119] at hcut119
                                      have HO528 := aM (show Kd.V (Kd.int .i64) 3 _ w.heap.size _ (.slice Ao80 y524.length co80) y524 from Kd.V_mk (by omega) hr119)
                                      have HC528 := aM (show y524.length ≤ co80 from by omega)
                                      clear hr119 hC119 hroom119 hi0119 hsz119
                                      have KY119 := aM hy119
                                      clear hy119
                                      replace q119 := eq_true q119
                                      have q120 : ((ji98) : Int) ≤ ((x23_4.length : Int) : Int) := of_decide_eq_true (by first | (with_reducible assumption) | assumption)
                                      obtain ⟨i0120, hi0120, _, hsz120, _⟩ := info_parts info3
                                      have hroom120 : x23_4.length ≤ co80 := (Kd.R_reads' HO_23.out).2.1
                                      have hC120 : Kd.F (Kd.int .i64) _ _ Ao80 x23_4.length x23_4 := (Kd.V_at (base := w.heap.size) (Kd.R_V (Kd.R_apart' (HO_23.out) (Kd.N_typed HO_3.out) (by decide)))).2.2
                                      have q0120 : (0 : Int) ≤ ((ji98) : Int) := of_decide_eq_true (by first | (with_reducible assumption) | assumption)
                                      have hcut120 := cut_from (P := Try.prog) 27 3 .i64 Try.underlying27 hi0120 1 hsz120 Ao80 x23_4.length co80 (ji98) q0120 q120
                                      have hr120 := Kd.F_cut (m := ((ji98) : Int).toNat) (c := co80) hC120 (by omega) hroom120
                                      obtain ⟨A120, hA120⟩ : ∃ A1, A1 = (if co80 = ((ji98) : Int).toNat then Ao80 else (Ao80 : Option Addr).map (·.add (((ji98) : Int).toNat * 1))) := ⟨_, rfl⟩
                                      obtain ⟨c120, hc120⟩ : ∃ c1, c1 = co80 - ((ji98) : Int).toNat := ⟨_, rfl⟩
                                      have hy120 : y532.length = x23_4.length - ((ji98) : Int).toNat := (by rw [Ny532.out, List.length_drop] <;> omega)
                                      rw [show (x23_4).drop ((ji98) : Int).toNat = y532 from Ny532.out.symm] at hr120
                                      replace hr120 : Kd.F (Kd.int .i64) _ _ A120 y532.length y532 := (by rw [hA120]; exact hr120)
                                      rw [← hy120, ← hA120, ← hc120] at hcut120
                                      have HO536 := aM (show Kd.V (Kd.int .i64) 3 _ w.heap.size _ (.slice A120 y532.length c120) y532 from Kd.V_mk (by rw [hy120, hc120]; exact Nat.sub_le_sub_right hroom120 _) hr120)
                                      have HC536 := aM (show y532.length ≤ c120 from by rw [hy120, hc120]; exact Nat.sub_le_sub_right hroom120 _)
                                      clear hr120 hC120 hroom120 hi0120 hsz120 hc120
                                      have KY120 := aM hy120
                                      have KA120 := aM hA120
                                      clear hy120 hA120
                                      replace q120 := eq_true q120
                                      refine start_ (n := 11) (S := fun w' => True) (ds := []) #[false, false, false, false, false, false, false, false, false, false, false] (by kernel_rfl) rfl rfl trivial (fun hHeld => ?_); refine with_tabW laws_FnTeaching.tab37 laws_FnTeaching.bits37 (fun HT_ HW_ => ?_)
                                      generalize w117.drew = w118 at HO_3 HO_5 HO_23 HO509 HO517 HO520 HB HO528 HO536 hHeld ⊢
                                      refine pure_ (i := 1) (N := some 211) (v := ?_) (a' := ?_) #[false, true, false, false, false, false, false, false, false, false, false] rfl rfl (any_of HT_.out (by kernel_rfl)) (fun _ _ _ h => h) (Or.inl ⟨by rfl, ?_⟩) ?_ ?_
                                      rotate_left
                                      ·
                                       intro w'
                                       go_simp
                                       with_reducible rfl
                                      rotate_left
                                      ·
                                       simp only [Act.put, sA, sZ, sU, i64_w, i32_w]
                                       rfl
                                      refine pure_ (i := 2) (N := some 212) (v := ?_) (a' := ?_) #[false, true, true, false, false, false, false, false, false, false, false] rfl rfl (any_of HT_.out (by kernel_rfl)) (fun _ _ _ h => h) (Or.inl ⟨by rfl, ?_⟩) ?_ ?_
                                      rotate_left
                                      ·
                                       intro w'
                                       go_simp
                                       with_reducible rfl
                                      rotate_left
                                      ·
                                       simp only [Act.put, sA, sZ, sU, i64_w, i32_w]
                                       rfl
                                      refine pure_ (i := 3) (N := some 213) (v := ?_) (a' := ?_) #[false, true, true, true, false, false, false, false, false, false, false] rfl rfl (any_of HT_.out (by kernel_rfl)) (fun _ _ _ h => h) (Or.inl ⟨by rfl, ?_⟩) ?_ ?_
                                      rotate_left
                                      ·
                                       intro w'
                                       go_simp
                                       with_reducible rfl
                                      rotate_left
                                      ·
                                       simp only [Act.put, sA, sZ, sU, i64_w, i32_w]
                                       rfl
                                      refine pure_ (i := 5) (N := some 215) (v := ?_) (a' := ?_) #[false, true, true, true, false, true, false, false, false, false, false] rfl rfl (any_of HT_.out (by kernel_rfl)) (fun _ _ _ h => h) (Or.inl ⟨by rfl, ?_⟩) ?_ ?_
                                      rotate_left
                                      ·
                                       intro w'
                                       go_simp
                                       with_reducible rfl
                                      rotate_left
                                      ·
                                       simp only [Act.put, sA, sZ, sU, i64_w, i32_w]
                                       rfl
                                      refine pure_ (i := 6) (N := some 216) (v := ?_) (a' := ?_) #[false, true, true, true, false, true, true, false, false, false, false] rfl rfl (any_of HT_.out (by kernel_rfl)) (fun _ _ _ h => h) (Or.inl ⟨by rfl, ?_⟩) ?_ ?_
                                      rotate_left
                                      ·
                                       intro w'
                                       go_simp
                                       with_reducible rfl
                                      rotate_left
                                      ·
                                       simp only [Act.put, sA, sZ, sU, i64_w, i32_w]
                                       rfl
                                      refine pure_ (i := 7) (N := some 217) (v := ?_) (a' := ?_) #[false, true, true, true, false, true, true, true, false, false, false] rfl rfl (any_of HT_.out (by kernel_rfl)) (fun _ _ _ h => h) (Or.inl ⟨by rfl, ?_⟩) ?_ ?_
                                      rotate_left
                                      ·
                                       intro w'
                                       go_simp
                                       with_reducible rfl
                                      rotate_left
                                      ·
                                       simp only [Act.put, sA, sZ, sU, i64_w, i32_w]
                                       rfl
                                      refine pure_ (i := 8) (N := some 218) (v := ?_) (a' := ?_) #[false, true, true, true, false, true, true, true, true, false, false] rfl rfl (any_of HT_.out (by kernel_rfl)) (fun _ _ _ h => h) (Or.inl ⟨by rfl, ?_⟩) ?_ ?_
                                      rotate_left
                                      ·
                                       intro w'
                                       go_simp
                                       with_reducible rfl
                                      rotate_left
                                      ·
                                       simp only [Act.put, sA, sZ, sU, i64_w, i32_w]
                                       rfl
                                      refine one_ (i := 0) (N := some 210) #[true, true, true, true, false, true, true, true, true, false, false] rfl rfl (one_of HT_.out (by kernel_rfl)) (by decide) (fun K hK => ?_)
                                      refine Kd.R_lit_step (Kd.int .i64) _ 3 ?hg (N := 210) ?hd (xs := ([] : List Int)) (inner := []) (ok := fun _ => True) (okp := fun _ => True) ?hr ?hp (fun _ hk => hk) trivial (Below.refl _ _) (Nat.le_refl _) (by simp) ?_; (case hd => rfl); (case hg => rfl); (case hr => first | (go_simp; done) | (go_simp; rfl)); (case hp => exact (Reps.none _ _))
                                      intro v522 w121 ho122 hb hg_ hnew_
                                      clear hg_ hnew_
                                      (first | rw [← Ny521.out] at ho122 | (simp only [Int.reduceToNat] at ho122; rw [← Ny521.out] at ho122))
                                      have n0_ := aM (Kd.N_elder' (by (with_reducible repeat (first | apply Kd.N_alloc | apply Kd.N_drewN | apply Kd.N_drew)); exact HO_3.out) (Kd.R_base ho122) hb)
                                      have n1_ := aM (Kd.R_elder' (by (with_reducible repeat (first | apply rA | apply rN | apply rD)); exact HO_5.out) (Kd.R_base ho122) hb)
                                      have n2_ := aM (Kd.R_elder' (by (with_reducible repeat (first | apply rA | apply rN | apply rD)); exact HO_23.out) (Kd.R_base ho122) hb)
                                      have n3_ := aM (Kd.V_elder' (by (with_reducible repeat (first | apply Kd.V_alloc | apply Kd.V_drewN | apply Kd.V_drew)); exact HO509.out) (Kd.R_base ho122) hb)
                                      have n4_ := aM (Kd.V_elder' (by (with_reducible repeat (first | apply Kd.V_alloc | apply Kd.V_drewN | apply Kd.V_drew)); exact HO517.out) (Kd.R_base ho122) hb)
                                      have n5_ := aM (Kd.R_elder' (by (with_reducible repeat (first | apply rA | apply rN | apply rD)); exact HO520.out) (Kd.R_base ho122) hb)
                                      have n6_ := aM (Kd.V_elder' (by (with_reducible repeat (first | apply Kd.V_alloc | apply Kd.V_drewN | apply Kd.V_drew)); exact HO528.out) (Kd.R_base ho122) hb)
                                      have n7_ := aM (Kd.V_elder' (by (with_reducible repeat (first | apply Kd.V_alloc | apply Kd.V_drewN | apply Kd.V_drew)); exact HO536.out) (Kd.R_base ho122) hb)
                                      have n8_ := aM (Kd.R_lower (Kd.R_new' (Kd.R_new' (Kd.R_new' ho122 (Kd.R_lt (by (with_reducible repeat (first | apply rA | apply rN | apply rD)); exact HO_5.out))) (Kd.R_lt (by (with_reducible repeat (first | apply rA | apply rN | apply rD)); exact HO_23.out))) (Kd.R_lt (by (with_reducible repeat (first | apply rA | apply rN | apply rD)); exact HO520.out))) (below_size (by repeat (first | (with_reducible first | exact HB.out | apply eA | apply eN | apply eD) | exact HB.out))))
                                      have n9_ := aM (below_step (by repeat (first | (with_reducible first | exact HB.out | apply eA | apply eN | apply eD) | exact HB.out)) hb)
                                      clear HO_3
                                      clear HO_5
                                      clear HO_23
                                      clear HO509
                                      clear HO517
                                      clear HO520
                                      clear HO528
                                      clear HO536
                                      clear HB
                                      have HO_3 := n0_
                                      have HO_5 := n1_
                                      have HO_23 := n2_
                                      have HO509 := n3_
                                      have HO517 := n4_
                                      have HO520 := n5_
                                      have HO528 := n6_
                                      have HO536 := n7_
                                      have HO523 := n8_
                                      have HB := n9_
                                      clear n0_ n1_ n2_ n3_ n4_ n5_ n6_ n7_ n8_ n9_
                                      clear hb ho122
                                      refine hK.out _ _ trivial (fun hHeld => ?_)
                                      clear hK K
                                      refine norm_ (a' := ?_) ?_ ?_
                                      rotate_left
                                      ·
                                       show Act.put _ (some 210) _ = _
                                       simp only [Act.put, sA, sZ, sU, i64_w, i32_w]
                                       rfl
                                      refine one_ (i := 4) (N := some 214) #[true, true, true, true, true, true, true, true, true, false, false] rfl rfl (one_of HT_.out (by kernel_rfl)) (by decide) (fun K hK => ?_)
                                      refine Kd.R_append_rows_step (Kd.int .i64) (w0 := w) w.heap.size (by rfl) (.tmp 210) (.tmp 213) 27 3 (.int .i64 0) 8 rfl Try.underlying27 info3 rfl (by decide) (by omega) v522 y521 y524 _ _ _ (fun k_ => some k_ ≠ (.slice Ao79 t446.length co79 : Value).ownBlock ∧ some k_ ≠ (.slice Ao80 x23_4.length co80 : Value).ownBlock ∧ some k_ ≠ (v519 : Value).ownBlock) (fun _ => False) rfl rfl ?aO ?aR (fun _ _ h => h) (fun _ h => h.elim) ?aF ?aB ?aS ?aL ?_
                                      (case aR => repeat (first | exact (Kd.V_reads' HO528.out).2.2 | (with_reducible refine Kd.C_alloc ?_ _) | (with_reducible refine Kd.C_drewN ?_ _) | (with_reducible refine Kd.C_drew ?_)))
                                      (case aB => exact (by repeat (first | (with_reducible first | exact HB.out | apply eA | apply eN | apply eD) | exact HB.out)))
                                      (case aF => exact (fun k_ hk => ⟨Kd.fresh' (Kd.R_lt (by (with_reducible repeat (first | apply rA | apply rN | apply rD)); exact HO_5.out)) k_ hk, Kd.fresh' (Kd.R_lt (by (with_reducible repeat (first | apply rA | apply rN | apply rD)); exact HO_23.out)) k_ hk, Kd.fresh' (Kd.R_lt (by (with_reducible repeat (first | apply rA | apply rN | apply rD)); exact HO520.out)) k_ hk⟩))
                                      (case aO => exact (by (with_reducible repeat (first | apply rA | apply rN | apply rD)); exact rM HO523.out (fun _ hk => ⟨hk.1.1.2, ⟨hk.1.2, hk.2⟩⟩)))
                                      (case aS => exact (below_size (by repeat (first | (with_reducible first | exact HB.out | apply eA | apply eN | apply eD) | exact HB.out))))
                                      (case aL => have := LMc104.out; omega)
                                      intro v530 w123 ho hb hg hat
                                      rw [← Ny529.out] at ho
                                      have n0_ := aM (Kd.N_afterv (ok := (fun k_ => some k_ ≠ (.slice Ao79 t446.length co79 : Value).ownBlock ∧ some k_ ≠ (.slice Ao80 x23_4.length co80 : Value).ownBlock ∧ some k_ ≠ (v519 : Value).ownBlock)) (by (with_reducible repeat (first | apply Kd.N_alloc | apply Kd.N_drewN | apply Kd.N_drew)); exact Kd.N_mono HO_3.out (fun _ hk => ⟨⟨hk.1.1.1, ⟨hk.1.1.2, hk.1.2⟩⟩, hk.2⟩)) hg hat)
                                      have n1_ := aM (Kd.R_after (ok := (fun k_ => some k_ ≠ (.slice Ao80 x23_4.length co80 : Value).ownBlock ∧ some k_ ≠ (v519 : Value).ownBlock)) (by (with_reducible repeat (first | apply rA | apply rN | apply rD)); exact HO_5.out) hg hat)
                                      have n2_ := aM (Kd.R_after (ok := (fun k_ => some k_ ≠ (.slice Ao79 t446.length co79 : Value).ownBlock ∧ some k_ ≠ (v519 : Value).ownBlock)) (by (with_reducible repeat (first | apply rA | apply rN | apply rD)); exact HO_23.out) hg hat)
                                      have n3_ := aM (Kd.V_afterv (ok := (fun k_ => some k_ ≠ (.slice Ao15 t442.length co15 : Value).ownBlock ∧ some k_ ≠ (.slice Ao80 x23_4.length co80 : Value).ownBlock ∧ some k_ ≠ (v519 : Value).ownBlock)) (by (with_reducible repeat (first | apply Kd.V_alloc | apply Kd.V_drewN | apply Kd.V_drew)); exact Kd.V_mono HO509.out (fun _ hk => ⟨⟨hk.1.1.1, ⟨hk.1.1.2, hk.1.2⟩⟩, hk.2⟩)) hg hat)
                                      have n4_ := aM (Kd.V_afterv (ok := (fun k_ => some k_ ≠ (.slice Ao15 t442.length co15 : Value).ownBlock ∧ some k_ ≠ (.slice Ao80 x23_4.length co80 : Value).ownBlock ∧ some k_ ≠ (v519 : Value).ownBlock)) (by (with_reducible repeat (first | apply Kd.V_alloc | apply Kd.V_drewN | apply Kd.V_drew)); exact Kd.V_mono HO517.out (fun _ hk => ⟨⟨hk.1.1.1, ⟨hk.1.1.2, hk.1.2⟩⟩, hk.2⟩)) hg hat)
                                      have n5_ := aM (Kd.R_after (ok := (fun k_ => some k_ ≠ (.slice Ao79 t446.length co79 : Value).ownBlock ∧ some k_ ≠ (.slice Ao80 x23_4.length co80 : Value).ownBlock)) (by (with_reducible repeat (first | apply rA | apply rN | apply rD)); exact HO520.out) hg hat)
                                      have n6_ := aM (Kd.V_afterv (ok := (fun k_ => some k_ ≠ (.slice Ao15 t442.length co15 : Value).ownBlock ∧ some k_ ≠ (.slice Ao79 t446.length co79 : Value).ownBlock ∧ some k_ ≠ (v519 : Value).ownBlock)) (by (with_reducible repeat (first | apply Kd.V_alloc | apply Kd.V_drewN | apply Kd.V_drew)); exact Kd.V_mono HO528.out (fun _ hk => ⟨⟨hk.1.2, ⟨hk.1.1.1, hk.1.1.2⟩⟩, hk.2⟩)) hg hat)
                                      have n7_ := aM (Kd.V_afterv (ok := (fun k_ => some k_ ≠ (.slice Ao15 t442.length co15 : Value).ownBlock ∧ some k_ ≠ (.slice Ao79 t446.length co79 : Value).ownBlock ∧ some k_ ≠ (v519 : Value).ownBlock)) (by (with_reducible repeat (first | apply Kd.V_alloc | apply Kd.V_drewN | apply Kd.V_drew)); exact Kd.V_mono HO536.out (fun _ hk => ⟨⟨hk.1.2, ⟨hk.1.1.1, hk.1.1.2⟩⟩, hk.2⟩)) hg hat)
                                      have n8_ := aM (hb)
                                      have n9_ := aM (ho)
                                      clear HO_3
                                      clear HO_5
                                      clear HO_23
                                      clear HO509
                                      clear HO517
                                      clear HO520
                                      clear HO528
                                      clear HO536
                                      clear HB
                                      clear HO523
                                      have HO_3 := n0_
                                      have HO_5 := n1_
                                      have HO_23 := n2_
                                      have HO509 := n3_
                                      have HO517 := n4_
                                      have HO520 := n5_
                                      have HO528 := n6_
                                      have HO536 := n7_
                                      have HB := n8_
                                      have HO531 := n9_
                                      clear n0_ n1_ n2_ n3_ n4_ n5_ n6_ n7_ n8_ n9_
                                      clear ho hb hg hat
                                      refine hK.out _ _ trivial (fun hHeld => ?_)
                                      clear hK K
                                      refine norm_ (a' := ?_) ?_ ?_
                                      rotate_left
                                      ·
                                       show Act.put _ (some 214) _ = _
                                       simp only [Act.put, sA, sZ, sU, i64_w, i32_w]
                                       rfl
                                      refine one_ (i := 9) (N := some 219) #[true, true, true, true, true, true, true, true, true, true, false] rfl rfl (one_of HT_.out (by kernel_rfl)) (by decide) (fun K hK => ?_)
                                      refine Kd.R_append_rows_step (Kd.int .i64) (w0 := w) w.heap.size (by rfl) (.tmp 214) (.tmp 218) 27 3 (.int .i64 0) 8 rfl Try.underlying27 info3 rfl (by decide) (by omega) v530 y529 y532 _ _ _ (fun k_ => some k_ ≠ (.slice Ao79 t446.length co79 : Value).ownBlock ∧ some k_ ≠ (.slice Ao80 x23_4.length co80 : Value).ownBlock ∧ some k_ ≠ (v519 : Value).ownBlock) (fun _ => False) rfl rfl ?aO ?aR (fun _ _ h => h) (fun _ h => h.elim) ?aF ?aB ?aS ?aL ?_
                                      (case aR => repeat (first | exact (Kd.V_reads' HO536.out).2.2 | (with_reducible refine Kd.C_alloc ?_ _) | (with_reducible refine Kd.C_drewN ?_ _) | (with_reducible refine Kd.C_drew ?_)))
                                      (case aB => exact (by repeat (first | (with_reducible first | exact HB.out | apply eA | apply eN | apply eD) | exact HB.out)))
                                      (case aF => exact (fun k_ hk => ⟨Kd.fresh' (Kd.R_lt (by (with_reducible repeat (first | apply rA | apply rN | apply rD)); exact HO_5.out)) k_ hk, Kd.fresh' (Kd.R_lt (by (with_reducible repeat (first | apply rA | apply rN | apply rD)); exact HO_23.out)) k_ hk, Kd.fresh' (Kd.R_lt (by (with_reducible repeat (first | apply rA | apply rN | apply rD)); exact HO520.out)) k_ hk⟩))
                                      (case aO => exact (by (with_reducible repeat (first | apply rA | apply rN | apply rD)); exact HO531.out))
                                      (case aS => exact (below_size (by repeat (first | (with_reducible first | exact HB.out | apply eA | apply eN | apply eD) | exact HB.out))))
                                      (case aL => have := LMc107.out; omega)
                                      intro v538 w124 ho hb hg hat
                                      rw [← Ny537.out] at ho
                                      have n0_ := aM (Kd.N_afterv (ok := (fun k_ => some k_ ≠ (.slice Ao79 t446.length co79 : Value).ownBlock ∧ some k_ ≠ (.slice Ao80 x23_4.length co80 : Value).ownBlock ∧ some k_ ≠ (v519 : Value).ownBlock)) (by (with_reducible repeat (first | apply Kd.N_alloc | apply Kd.N_drewN | apply Kd.N_drew)); exact HO_3.out) hg hat)
                                      have n1_ := aM (Kd.R_after (ok := (fun k_ => some k_ ≠ (.slice Ao80 x23_4.length co80 : Value).ownBlock ∧ some k_ ≠ (v519 : Value).ownBlock)) (by (with_reducible repeat (first | apply rA | apply rN | apply rD)); exact HO_5.out) hg hat)
                                      have n2_ := aM (Kd.R_after (ok := (fun k_ => some k_ ≠ (.slice Ao79 t446.length co79 : Value).ownBlock ∧ some k_ ≠ (v519 : Value).ownBlock)) (by (with_reducible repeat (first | apply rA | apply rN | apply rD)); exact HO_23.out) hg hat)
                                      have n3_ := aM (Kd.V_afterv (ok := (fun k_ => some k_ ≠ (.slice Ao15 t442.length co15 : Value).ownBlock ∧ some k_ ≠ (.slice Ao80 x23_4.length co80 : Value).ownBlock ∧ some k_ ≠ (v519 : Value).ownBlock)) (by (with_reducible repeat (first | apply Kd.V_alloc | apply Kd.V_drewN | apply Kd.V_drew)); exact HO509.out) hg hat)
                                      have n4_ := aM (Kd.V_afterv (ok := (fun k_ => some k_ ≠ (.slice Ao15 t442.length co15 : Value).ownBlock ∧ some k_ ≠ (.slice Ao80 x23_4.length co80 : Value).ownBlock ∧ some k_ ≠ (v519 : Value).ownBlock)) (by (with_reducible repeat (first | apply Kd.V_alloc | apply Kd.V_drewN | apply Kd.V_drew)); exact HO517.out) hg hat)
                                      have n5_ := aM (Kd.R_after (ok := (fun k_ => some k_ ≠ (.slice Ao79 t446.length co79 : Value).ownBlock ∧ some k_ ≠ (.slice Ao80 x23_4.length co80 : Value).ownBlock)) (by (with_reducible repeat (first | apply rA | apply rN | apply rD)); exact HO520.out) hg hat)
                                      have n6_ := aM (Kd.V_afterv (ok := (fun k_ => some k_ ≠ (.slice Ao15 t442.length co15 : Value).ownBlock ∧ some k_ ≠ (.slice Ao79 t446.length co79 : Value).ownBlock ∧ some k_ ≠ (v519 : Value).ownBlock)) (by (with_reducible repeat (first | apply Kd.V_alloc | apply Kd.V_drewN | apply Kd.V_drew)); exact HO528.out) hg hat)
                                      have n7_ := aM (Kd.V_afterv (ok := (fun k_ => some k_ ≠ (.slice Ao15 t442.length co15 : Value).ownBlock ∧ some k_ ≠ (.slice Ao79 t446.length co79 : Value).ownBlock ∧ some k_ ≠ (v519 : Value).ownBlock)) (by (with_reducible repeat (first | apply Kd.V_alloc | apply Kd.V_drewN | apply Kd.V_drew)); exact HO536.out) hg hat)
                                      have n8_ := aM (hb)
                                      have n9_ := aM (ho)
                                      clear HO_3
                                      clear HO_5
                                      clear HO_23
                                      clear HO509
                                      clear HO517
                                      clear HO520
                                      clear HO528
                                      clear HO536
                                      clear HB
                                      clear HO531
                                      have HO_3 := n0_
                                      have HO_5 := n1_
                                      have HO_23 := n2_
                                      have HO509 := n3_
                                      have HO517 := n4_
                                      have HO520 := n5_
                                      have HO528 := n6_
                                      have HO536 := n7_
                                      have HB := n8_
                                      have HO539 := n9_
                                      clear n0_ n1_ n2_ n3_ n4_ n5_ n6_ n7_ n8_ n9_
                                      clear ho hb hg hat
                                      refine hK.out _ _ trivial (fun hHeld => ?_)
                                      clear hK K
                                      refine norm_ (a' := ?_) ?_ ?_
                                      rotate_left
                                      ·
                                       show Act.put _ (some 219) _ = _
                                       simp only [Act.put, sA, sZ, sU, i64_w, i32_w]
                                       rfl
                                      refine pure_ (i := 10) (N := some 29) (v := ?_) (a' := ?_) #[true, true, true, true, true, true, true, true, true, true, true] rfl rfl (any_of HT_.out (by kernel_rfl)) (fun _ _ _ h => h) (Or.inl ⟨by rfl, ?_⟩) ?_ ?_
                                      rotate_left
                                      ·
                                       intro w'
                                       go_simp
                                       with_reducible rfl
                                      rotate_left
                                      ·
                                       simp only [Act.put, sA, sZ, sU, i64_w, i32_w]
                                       rfl
                                      refine done_ (done_of HT_.out (by kernel_rfl)) ?_
                                      obtain ⟨Ao125, co125, eo125⟩ := Kd.R_slice HO520.out
                                      subst eo125
                                      obtain ⟨Ao126, co126, eo126⟩ := Kd.R_slice HO539.out
                                      subst eo126
                                      try go_wp2_with (first | ((with_reducible refine gate_callee (f := 16) rfl ?_); refine goesL_ (some 224) rfl rfl Try.func16 (by kernel_rfl) rfl #[.slice Ao15 t442.length co15, .slice Ao125 y518.length co125, .slice Ao126 y537.length co126] rfl (by (try simp only [List.map_toArray, List.map_cons, List.map_nil]); first | done | rfl | (simp only [List.length_drop, List.length_take]; rfl)) ?_; (with_reducible refine (impl_VersionOf.calls k6 _ _ t442 _ _ y518 _ _ y537 t540 true _ ?side1 ?side2 ?side3 ?side4 ?side5 ?side6 A108.out).mono ?_); (case side1 => repeat (first | exact (Kd.N_reads' HO_3.out).2.2 | (with_reducible refine Kd.C_alloc ?_ _) | (with_reducible refine Kd.C_drewN ?_ _) | (with_reducible refine Kd.C_drew ?_))); (case side2 => exact (Kd.N_reads' HO_3.out).2.1); (case side3 => repeat (first | exact (Kd.R_reads' HO520.out).2.2 | (with_reducible refine Kd.C_alloc ?_ _) | (with_reducible refine Kd.C_drewN ?_ _) | (with_reducible refine Kd.C_drew ?_))); (case side4 => exact (Kd.R_reads' HO520.out).2.1); (case side5 => repeat (first | exact (Kd.R_reads' HO539.out).2.2 | (with_reducible refine Kd.C_alloc ?_ _) | (with_reducible refine Kd.C_drewN ?_ _) | (with_reducible refine Kd.C_drew ?_))); (case side6 => exact (Kd.R_reads' HO539.out).2.1); rintro e w127 ⟨v542, rfl, ho0, hb⟩; refine ⟨_, rfl, ?_⟩; have n0_ := aM (Kd.N_elder' (by (with_reducible repeat (first | apply Kd.N_alloc | apply Kd.N_drewN | apply Kd.N_drew)); exact HO_3.out) (Kd.R_base ho0) hb); have n1_ := aM (Kd.R_elder' (by (with_reducible repeat (first | apply rA | apply rN | apply rD)); exact HO_5.out) (Kd.R_base ho0) hb); have n2_ := aM (Kd.R_elder' (by (with_reducible repeat (first | apply rA | apply rN | apply rD)); exact HO_23.out) (Kd.R_base ho0) hb); have n3_ := aM (Kd.V_elder' (by (with_reducible repeat (first | apply Kd.V_alloc | apply Kd.V_drewN | apply Kd.V_drew)); exact HO509.out) (Kd.R_base ho0) hb); have n4_ := aM (Kd.V_elder' (by (with_reducible repeat (first | apply Kd.V_alloc | apply Kd.V_drewN | apply Kd.V_drew)); exact HO517.out) (Kd.R_base ho0) hb); have n5_ := aM (Kd.R_elder' (by (with_reducible repeat (first | apply rA | apply rN | apply rD)); exact HO520.out) (Kd.R_base ho0) hb); have n6_ := aM (Kd.V_elder' (by (with_reducible repeat (first | apply Kd.V_alloc | apply Kd.V_drewN | apply Kd.V_drew)); exact HO528.out) (Kd.R_base ho0) hb); have n7_ := aM (Kd.V_elder' (by (with_reducible repeat (first | apply Kd.V_alloc | apply Kd.V_drewN | apply Kd.V_drew)); exact HO536.out) (Kd.R_base ho0) hb); have n8_ := aM (Kd.R_elder' (by (with_reducible repeat (first | apply rA | apply rN | apply rD)); exact HO539.out) (Kd.R_base ho0) hb); have n9_ := aM (Kd.R_lower (Kd.R_new' (Kd.R_new' (Kd.R_new' (Kd.R_new' ho0 (Kd.R_lt (by (with_reducible repeat (first | apply rA | apply rN | apply rD)); exact HO_5.out))) (Kd.R_lt (by (with_reducible repeat (first | apply rA | apply rN | apply rD)); exact HO_23.out))) (Kd.R_lt (by (with_reducible repeat (first | apply rA | apply rN | apply rD)); exact HO520.out))) (Kd.R_lt (by (with_reducible repeat (first | apply rA | apply rN | apply rD)); exact HO539.out))) (below_size (by repeat (first | (with_reducible first | exact HB.out | apply eA | apply eN | apply eD) | exact HB.out)))); have n10_ := aM (below_step (by repeat (first | (with_reducible first | exact HB.out | apply eA | apply eN | apply eD) | exact HB.out)) hb); clear HO_3; clear HO_5; clear HO_23; clear HO509; clear HO517; clear HO520; clear HO528; clear HO536; clear HO539; clear HB; have HO_3 := n0_; have HO_5 := n1_; have HO_23 := n2_; have HO509 := n3_; have HO517 := n4_; have HO520 := n5_; have HO528 := n6_; have HO536 := n7_; have HO539 := n8_; have HO543 := n9_; have HB := n10_; clear n0_ n1_ n2_ n3_ n4_ n5_ n6_ n7_ n8_ n9_ n10_; (try clear hb); (try clear hb2); (try clear hk); (try clear hi); (try clear ho0); obtain ⟨Ao128, co128, eo128⟩ := Kd.R_slice HO543.out; subst eo128))
                                      go_roundg k6
                                      case measure => have := HJ12.out; have := HK2.out; have := HJ47.out; have := HK4.out; have := HJ77.out; have := HK6.out; omega
                                      case rel => exact ⟨(ji98), (by first | rfl | (simp; done) | (simp only [← hji98] <;> (first | rfl | simp)) | (simp [*]; done)), H', ⟨by have := HJ12.out; have := HK2.out; have := HJ47.out; have := HK4.out; have := HJ77.out; have := HK6.out; omega⟩, ⟨by (with_reducible repeat (first | apply Kd.N_alloc | apply Kd.N_drewN | apply Kd.N_drew)); exact Kd.N_mono HO_3.out (fun _ hk => ⟨hk.1.1.1, hk.1.1.2.1⟩)⟩, ⟨by (with_reducible repeat (first | apply rA | apply rN | apply rD)); exact rM HO_5.out (fun _ hk => hk.1.1.1)⟩, ⟨by (with_reducible repeat (first | apply rA | apply rN | apply rD)); exact rM HO_23.out (fun _ hk => hk.1.1.1)⟩, ⟨by repeat (first | (with_reducible first | exact HB.out | apply eA | apply eN | apply eD) | exact HB.out)⟩⟩
                                    ·
                                     replace c109 := Bool.eq_false_iff.mpr c109
                                     subst c109
                                     have H1 : (none) = some r := by rw [if_neg (show ¬ (false = true) by decide)] at H; exact H
                                     clear H
                                     have H := H1
                                     clear H1
                                     exact absurd H (by simp)
                                   ·
                                    rw [if_neg c107] at H
                                    exact absurd H (by simp)
                                  ·
                                   rw [if_neg c106] at H
                                   exact absurd H (by simp)
                                 ·
                                  rw [if_neg c104] at H
                                  exact absurd H (by simp)
                                ·
                                 rw [if_neg c103] at H
                                 exact absurd H (by simp)
                               ·
                                rw [if_neg c101] at H
                                exact absurd H (by simp)
                              ·
                               rw [if_neg c100] at H
                               exact absurd H (by simp)
                             ·
                              rw [if_neg c99] at H
                              exact absurd H (by simp)
                            ·
                             rw [if_neg c97] at H
                             exact absurd H (by simp)
                           ·
                            rw [if_neg c96] at H
                            exact absurd H (by simp)
                          ·
                           rw [if_neg c95] at H
                           exact absurd H (by simp)
                         ·
                          rw [if_neg c94] at H
                          have c94b0 : decide (x27_6 < (t446.length : Int)) = false := decide_eq_false c94
                          clear c94
                          obtain rfl := Option.some.inj H
                          go_wp2
                          go_ret
                          exact ⟨by first | rfl | (simp [errW_none, errW_some] <;> rfl) | (simp [*, errW_none, errW_some] <;> rfl), by repeat (first | (with_reducible first | exact HB.out | apply eA | apply eN | apply eD) | exact HB.out)⟩
             ·
              replace c64 := Bool.eq_false_iff.mpr c64
              subst c64
              have H1 : (some true) = some r := by rw [if_neg (show ¬ (false = true) by decide)] at H; exact H
              clear H
              have H := H1
              clear H1
              obtain rfl := Option.some.inj H
              go_wp2
              go_ret
              exact ⟨by first | rfl | (simp [errW_none, errW_some] <;> rfl) | (simp [*, errW_none, errW_some] <;> rfl), by repeat (first | (with_reducible first | exact HB.out | apply eA | apply eN | apply eD) | exact HB.out)⟩
def laws_FnTeaching.Pure : Prop := ∀ (l0 : List Int), l0.length ≤ maxLen → l0.length * 1 ≤ 140737488351232 → (∀ x ∈ l0, (Lit.int .u8 x).wf = true) → ∃ k, laws_FnTeaching.f k l0 = some true
theorem laws_FnTeaching.walk (P : laws_FnTeaching.Pure) (a0 : Option Addr) (len0 cap0 : Nat) (z0 : List Int) (w : World) (w0 : (a0 = none ∧ len0 = 0 ∧ cap0 = 0 ∧ z0 = []) ∨ ∃ x, a0 = some x ∧ len0 ≤ cap0 ∧ cap0 ≤ maxLen ∧ z0.length = cap0 ∧ (∀ i, i < z0.length → w.cell? (x.add i) = some (.int .u8 (z0.getD i 0))) ∧ ∀ n ∈ z0, (Lit.int .u8 n).wf = true) (y0 : len0 * 1 ≤ 140737488351232) :
  Calls Try.prog 3 #[.slice a0 len0 cap0] w fun e w' => e = .returned (.bool true) ∧ Below w.heap.size w w' := by
 obtain ⟨l0, rfl, hr0, hm0, hw0, hc0⟩ := ReadsInt.ofRowC w0
 obtain ⟨k, h⟩ := P l0 hm0 y0 hw0
 refine (laws_FnTeaching.calls k _ _ l0 true w (Kd.C_of_reads (d := (0 : Int)) (h1 := fun _ => rfl) hr0) hc0 h).mono ?_
 rintro e w' ⟨rfl, hd⟩
 exact ⟨rfl, hd⟩
end Go.Proofs.Ytlbleemoiabmdaa.PFnTeaching
