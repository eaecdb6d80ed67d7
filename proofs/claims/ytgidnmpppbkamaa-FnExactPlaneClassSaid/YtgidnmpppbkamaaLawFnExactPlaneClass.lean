-- Own text.
import Derived.Test.YtgidnmpppbkamaaRows
import Derived.Test.YtgidnmpppbkamaaMFnExactPlaneClassx17
import Derived.Test.YtgidnmpppbkamaaPureFnExactPlaneClass
import Derived.Test.YtgidnmpppbkamaaZFnExactPlaneClassOpen
import Derived.WalkKit
import Derived.ProofKit
import Derived.OpenShut
import Derived.ShutString
import Derived.ChangeOld
import Derived.Below
import Derived.SizedLaws
import Derived.Lib.SmallJoins
namespace Go.Proofs.Ytgidnmpppbkamaa.fnExactPlaneClass
open Go.ChangeShapes Go.WideShapes Go.ChangeAt Go.RowKit Go.Proofs.YtgidnmpppbkamaaW.PrintWords
open Go.ChangeMaps (open_string shut_string)
set_option linter.unusedVariables false
theorem own : ownKnob Try.prog.godebug = none := by kernel_rfl
theorem laidOut : laidOutB Try.prog = true := by kernel_rfl
set_option maxRecDepth 100000 in
theorem lifted (os : Os) (started : os.Started) (H : Type) (enc : TypeId × Value → H) :
  ReturnsInHanded {} Try.checked os 5 .any (Rows.fnExactPlaneClassSpec.pre6 enc Try.prog Try.f5 Rows.fnExactPlaneClassRow.domain false) (Rows.fnExactPlaneClassSpec.post enc Try.prog Try.f5 false true false false) := by
 refine returnsInHanded_of_change_sized (C := Try.checked) own started (by kernel_rfl) Try.func5
  (ChangeSpec.witness6 (enc := enc) (C := Try.checked) false ⟨#[], #[.slice none 0 0], []⟩ 8 (by kernel_rfl) (by kernel_rfl) (by kernel_rfl) (by kernel_rfl)) ?_
 intro W base args ds gs before hval0 hW hcnd hsz0 _
 have hval : ∀ (j : Nat) t v, Try.f5.params[j]? = some t → args[j]? = some v → Value.okWide Try.prog W .any base t v := hval0
 have hW' := hW
 obtain ⟨p, q, hA0, hV, rfl, hfz, hnd⟩ := hW
 have hA : DataW.TrodAll enc Try.prog W 0 (fun _ => true) true Try.f5.params.toList args.toList ds p := hA0
 rw [Try.params5] at hA hval
 obtain ⟨v0, vs0, d0, ds0, p0, q0, hargs, rfl, rfl, h0, r0⟩ := trodAll_cons hA
 obtain ⟨rfl, rfl, rfl⟩ := trodAll_nil r0
 obtain rfl : args = #[v0] := by cases args; simp_all
 obtain ⟨rfl, rfl⟩ := trodVars_none hV
 have k0 := h0
 have lt0 : ∀ x ∈ p0, x.block < W.heap.size := by obtain ⟨m, hm⟩ := k0; exact DataW.trod_lt m _ _ _ hm
 obtain ⟨z0, y0, x0, rfl⟩ := okWide_slice Try.underlying32 (hval 0 32 v0 rfl rfl)
 obtain ⟨fuel0, f0⟩ := h0
 rw [show (Value.slice z0 y0 x0).cells.toList = [.slice z0 y0 x0] by simp [Value.cells]] at f0
 obtain ⟨A0, c0, l0, e0, C0, b0, m0, w0⟩ := Open.read_rows Try.underlying32 Try.underlying22 Try.underlying3 (by kernel_rfl) (by kernel_rfl) f0
 simp only [List.cons.injEq, and_true, Value.slice.injEq] at e0
 obtain ⟨rfl, rfl, rfl⟩ := e0
 have pu := Pure.FnExactPlaneClass l0 m0 w0
 obtain ⟨k, pu⟩ := pu
 refine (PFnExactPlaneClass.laws_FnExactPlaneClass.calls k _ _ l0 true W C0 b0 pu).mono fun e W' ⟨he, bel0⟩ => ?_
 have bel : Below W.heap.size W W' := bel0
 subst he
 exact ⟨_, rfl, _, _, _, [], _, [], hW', trodAll_mk1 (shut_bool Try.underlying4 _), (trodAll_cons_mk (Below.trod laidOut (by kernel_rfl) (of_decide_eq_true (by kernel_rfl)) k0 bel lt0) trodAll_mk0), rfl, bel.frame _, fun h => by cases h⟩
theorem over : Rows.fnExactPlaneClassRow.holds Try.pinned (OpenSpec.ofChange Rows.fnExactPlaneClassSpec) :=
 OpenClaim.holds_of_wide 5 Try.f5 rfl rfl rfl rfl rfl rfl rfl ⟨rfl, rfl, rfl, rfl, rfl⟩ rfl rfl rfl rfl rfl (by kernel_rfl) Try.func5 (by kernel_rfl)
  (of_decide_eq_true (by kernel_rfl)) (by unfold Func.isWrapper; first | (rw [if_pos (by decide +kernel)]; kernel_rfl) | (rw [if_neg (by decide +kernel)]; exact ⟨rfl, rfl⟩))
  (fun os started H enc _ => lifted os started H enc)
theorem proved : Rows.FnExactPlaneClassSaid := over
#print axioms proved
end Go.Proofs.Ytgidnmpppbkamaa.fnExactPlaneClass
namespace Go.Proofs.Ytgidnmpppbkamaa
theorem fnExactPlaneClass_holds : Rows.FnExactPlaneClassSaid := fnExactPlaneClass.proved
end Go.Proofs.Ytgidnmpppbkamaa
