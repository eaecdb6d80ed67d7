/- The row of one law, out of its pure statement and the contract of its function; laid by a program of the session's own (wip/tool/mkrow.py). -/
import Derived.Test.YtihnmdnmjieffaaRows
import Derived.Test.YtihnmdnmjieffaaMFnExactShattersSetx8
import Derived.Test.YtihnmdnmjieffaaPureFnExactShattersSet
import Derived.Test.YtihnmdnmjieffaaOpen
import Derived.WalkKit
import Derived.ProofKit
import Derived.OpenShut
import Derived.ShutString
import Derived.ChangeOld
import Derived.Below
import Derived.SizedLaws
import Derived.Lib.SmallJoins
namespace Go.Proofs.Ytihnmdnmjieffaa.fnExactShattersSet
open Go.ChangeShapes Go.WideShapes Go.ChangeAt Go.RowKit Go.Proofs.YtihnmdnmjieffaaW.PrintWords
open Go.ChangeMaps (open_string shut_string)
set_option linter.unusedVariables false
theorem own : ownKnob Try.prog.godebug = none := by kernel_rfl
theorem laidOut : laidOutB Try.prog = true := by kernel_rfl
set_option maxRecDepth 100000 in
theorem lifted (os : Os) (started : os.Started) (H : Type) (enc : TypeId × Value → H) :
    ReturnsInHanded {} Try.checked os 4 .any (Rows.fnExactShattersSetSpec.pre6 enc Try.prog Try.f4 Rows.fnExactShattersSetRow.domain false) (Rows.fnExactShattersSetSpec.post enc Try.prog Try.f4 false true false false) := by
  refine returnsInHanded_of_change_sized (C := Try.checked) own started (by kernel_rfl) Try.func4
    (ChangeSpec.witness6 (enc := enc) (C := Try.checked) false ⟨#[], #[.slice none 0 0, .slice none 0 0], []⟩ 8 (by kernel_rfl) (by kernel_rfl) (by kernel_rfl) (by kernel_rfl)) ?_
  intro W base args ds gs before hval0 hW hcnd hsz0 _
  have hval : ∀ (j : Nat) t v, Try.f4.params[j]? = some t → args[j]? = some v → Value.okWide Try.prog W .any base t v := hval0
  have hW' := hW
  obtain ⟨p, q, hA0, hV, rfl, hfz, hnd⟩ := hW
  have hA : DataW.TrodAll enc Try.prog W 0 (fun _ => true) true Try.f4.params.toList args.toList ds p := hA0
  rw [Try.params4] at hA hval
  obtain ⟨v0, vs0, d0, ds0, p0, q0, hargs, rfl, rfl, h0, r0⟩ := trodAll_cons hA
  obtain ⟨v1, vs1, d1, ds1, p1, q1, rfl, rfl, rfl, h1, r1⟩ := trodAll_cons r0
  obtain ⟨rfl, rfl, rfl⟩ := trodAll_nil r1
  obtain rfl : args = #[v0, v1] := by cases args; simp_all
  obtain ⟨rfl, rfl⟩ := trodVars_none hV
  have k0 := h0
  have lt0 : ∀ x ∈ p0, x.block < W.heap.size := by obtain ⟨m, hm⟩ := k0; exact DataW.trod_lt m _ _ _ hm
  obtain ⟨z0, y0, x0, rfl⟩ := okWide_slice Try.underlying29 (hval 0 29 v0 rfl rfl)
  obtain ⟨fuel0, f0⟩ := h0
  rw [show (Value.slice z0 y0 x0).cells.toList = [.slice z0 y0 x0] by simp [Value.cells]] at f0
  obtain ⟨A0, c0, l0, e0, C0, b0, m0, w0⟩ := Open.read_rows Try.underlying29 Try.underlying22 Try.underlying3 (by kernel_rfl) (by kernel_rfl) f0
  simp only [List.cons.injEq, and_true, Value.slice.injEq] at e0
  obtain ⟨rfl, rfl, rfl⟩ := e0
  have k1 := h1
  have lt1 : ∀ x ∈ p1, x.block < W.heap.size := by obtain ⟨m, hm⟩ := k1; exact DataW.trod_lt m _ _ _ hm
  obtain ⟨z1, y1, x1, rfl⟩ := okWide_slice Try.underlying22 (hval 1 22 v1 rfl rfl)
  obtain ⟨fuel1, f1⟩ := h1
  rw [show (Value.slice z1 y1 x1).cells.toList = [.slice z1 y1 x1] by simp [Value.cells]] at f1
  obtain ⟨A1, c1, l1, e1, C1, b1, m1, w1⟩ := Open.read_ints Try.underlying22 Try.underlying3 (by kernel_rfl) f1
  simp only [List.cons.injEq, and_true, Value.slice.injEq] at e1
  obtain ⟨rfl, rfl, rfl⟩ := e1
  have pu := Pure.FnExactShattersSet l0 l1 m0 w0 m1 w1
  obtain ⟨k, pu⟩ := pu
  refine (PFnExactShattersSet.laws_FnExactShattersSet.calls k _ _ l0 _ _ l1 true W C0 b0 C1 b1 pu).mono fun e W' ⟨he, bel0⟩ => ?_
  have bel : Below W.heap.size W W' := bel0
  subst he
  exact ⟨_, rfl, _, _, _, [], _, [], hW', trodAll_mk1 (shut_bool Try.underlying4 _), (trodAll_cons_mk (Below.trod laidOut (by kernel_rfl) (of_decide_eq_true (by kernel_rfl)) k0 bel lt0) (trodAll_cons_mk (Below.trod laidOut (by kernel_rfl) (of_decide_eq_true (by kernel_rfl)) k1 bel lt1) trodAll_mk0)), rfl, bel.frame _, fun h => by cases h⟩
theorem over : Rows.fnExactShattersSetRow.holds Try.pinned (OpenSpec.ofChange Rows.fnExactShattersSetSpec) :=
  OpenClaim.holds_of_wide 4 Try.f4 rfl rfl rfl rfl rfl rfl rfl ⟨rfl, rfl, rfl, rfl, rfl⟩ rfl rfl rfl rfl rfl (by kernel_rfl) Try.func4 (by kernel_rfl)
    (of_decide_eq_true (by kernel_rfl)) (by unfold Func.isWrapper; first | (rw [if_pos (by decide +kernel)]; kernel_rfl) | (rw [if_neg (by decide +kernel)]; exact ⟨rfl, rfl⟩))
    (fun os started H enc _ => lifted os started H enc)
theorem proved : Rows.FnExactShattersSetSaid := over
#print axioms proved
end Go.Proofs.Ytihnmdnmjieffaa.fnExactShattersSet
namespace Go.Proofs.Ytihnmdnmjieffaa
/-- The row, under a short name, for the claim. -/
theorem fnExactShattersSet_holds : Rows.FnExactShattersSetSaid := fnExactShattersSet.proved
end Go.Proofs.Ytihnmdnmjieffaa
