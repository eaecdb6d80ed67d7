/- The row of one law, out of its pure statement and the contract of its function; laid by a program of the session's own (wip/tool/mkrow.py). -/
import Derived.Test.YtlbleemoiabmdaaDoorCards
import Derived.Test.YtlbleemoiabmdaaDoorTie
import Derived.Test.YtlbleemoiabmdaaDoorRows
import Derived.Test.YtlbleemoiabmdaaDoorMFnExactGreatestLossesx8
import Derived.Test.YtlbleemoiabmdaaDoorPureFnExactGreatestLosses
import Derived.Test.YtlbleemoiabmdaaDoorOpen
import Derived.SevenTiedAt
import Derived.LaidMore
import Derived.Stop.Joined
import Derived.WalkKit
import Derived.ProofKit
import Derived.OpenShut
import Derived.ShutString
import Derived.ChangeOld
import Derived.Below
import Derived.SizedLaws
import Derived.Lib.SmallJoins
namespace Go.Proofs.YtlbleemoiabmdaaDoor.fnExactGreatestLosses
open Go.ChangeShapes Go.WideShapes Go.ChangeAt Go.RowKit Go.Proofs.YtlbleemoiabmdaaDoorW.PrintWords
open Go.ChangeMaps (open_string shut_string)
set_option linter.unusedVariables false
theorem own : ownKnob Tryd.prog.godebug = none := by kernel_rfl
theorem laidOut : laidOutB Tryd.prog = true := by kernel_rfl
abbrev laidV : List (String × DataW Unit) := Rows.fnExactGreatestLossesRow.laid
theorem tN : (Tryd.prog.globals[1]?).map (·.type) = some 73 := by kernel_rfl
theorem door_met (os : Os) (args : Array Value) : laidMetH Tryd.prog laidV ((World.doorLaid Tryd.prog 400 os).forCall (fun _ _ => 0) ⟨#[], args, []⟩).memory :=
  laidMetH_of_parts3 (fuel := 8) (laidMet_of_run' 8 (by kernel_rfl) (by kernel_rfl)) (by kernel_rfl) (by kernel_rfl)
theorem of_laid {W : World} (h : laidMetH Tryd.prog laidV W) : Go.Proofs.TabAt 1 Lib.deBruijn64tab W ∧ 1 < W.heap.size := by
  rw [MakeChecks.laidMetH_plain _ _ _ (by kernel_rfl)] at h
  obtain ⟨ps, ⟨g0, t0, cs0, f0, p0, q0, hg0, ht0, hv0, hd0, ⟨g1, t1, cs1, f1, p1, q1, hg1, ht1, hv1, hd1, _, hz1⟩, hz0⟩, _, _⟩ := h
  obtain rfl := Option.some.inj ((show _ = some 1 by kernel_rfl).symm.trans hg1)
  obtain rfl := Option.some.inj (tN.symm.trans ht1)
  obtain ⟨xs, m1, rfl, hx1, hlen, hn3, hel⟩ := DataW.trod_array Tryd.underlying73 hd1
  have ce : Tryd.prog.cellsOf 5 = 1 := by kernel_rfl
  have cl : Lib.deBruijn64tab.length = 64 := by kernel_rfl
  rw [ce] at hel
  have hlits : xs.map (·.1) = Lib.deBruijn64tab.map (fun n : Nat => DataW.lit (.int .u8 (n : Int))) := by
    have := (Prod.mk.inj hx1).1
    injection this with this
    exact this.symm.trans (by kernel_rfl)
  have key : ∀ j, j < 64 → W.cell? ⟨1, j, none⟩ = some (.int .u8 (Lib.deBruijn64tab.getD j 0)) := by
    intro j hj
    have h0 := hel j hj
    rw [List.getElem?_eq_getElem (by omega)] at h0
    obtain ⟨k, e1, e2, _⟩ := DataW.trod_int Tryd.underlying5 h0
    have hk : DataW.lit (H := Unit) (.int .u8 k) = .lit (.int .u8 (Lib.deBruijn64tab.getD j 0 : Nat)) := by
      have := congrArg (fun l => l[j]?) hlits
      simp only [List.getElem?_map] at this
      rw [List.getElem?_eq_getElem (by omega), List.getElem?_eq_getElem (by omega)] at this
      simp only [Option.map_some, Option.some.injEq, e2] at this
      rw [this, List.getD_eq_getElem?_getD, List.getElem?_eq_getElem (by omega)]; rfl
    have hk2 : k = (Lib.deBruijn64tab.getD j 0 : Nat) := by injection hk with hk; injection hk
    rw [World.var?_cell hg1 hv1 j, ← hk2]
    rw [Nat.mul_one] at e1
    have e3 : (cs1.toList)[j]? = some (.int .u8 k) := by
      have := congrArg (fun l => l[0]?) e1
      simpa [List.getElem?_take, List.getElem?_drop] using this
    simpa using e3
  refine ⟨fun j hj => key j (by rw [cl] at hj; exact hj), ?_⟩
  have := key 0 (by decide)
  by_cases hlt : 1 < W.heap.size
  · exact hlt
  · exfalso; simp [World.cell?, Array.getElem?_eq_none (Nat.le_of_not_lt hlt)] at this
set_option maxRecDepth 100000 in
theorem lifted (os : Os) (started : os.Started) (H : Type) (enc : TypeId × Value → H) :
    ReturnsInHanded {} Tryd.checked os 4 .any (fun w args => (Rows.fnExactGreatestLossesSpec.pre enc Tryd.prog Tryd.f4 [] false w args ∧ laidMetH Tryd.prog laidV w) ∧ sizedMet enc Tryd.prog Tryd.f4 (OpenSpec.ofChange Rows.fnExactGreatestLossesSpec) false w args) (Rows.fnExactGreatestLossesSpec.post enc Tryd.prog Tryd.f4 false true false false) := by
  refine returnsInHanded_of_change_and (C := Tryd.checked) (X := fun w _ => laidMetH Tryd.prog laidV w) (fun _ _ _ hh h => h.of_heap hh) own started (by kernel_rfl) Tryd.func4
    (ChangeSpec.witness_shaped (enc := enc) (C := Tryd.checked) (os := os) (X := fun w _ => laidMetH Tryd.prog laidV w) false (World.doorLaid Tryd.prog 400 os) #[.agg #[.slice none 0 0, .int .i64 0]] 8 rfl (World.shaped_of_RefB (by kernel_rfl) (by kernel_rfl)) (by kernel_rfl) (by kernel_rfl) (by kernel_rfl) (door_met os _)) ?_
  intro W base args ds gs before hval0 hW hcnd hsz0 hL _
  obtain ⟨hTab, hTgl⟩ := of_laid hL
  have hval : ∀ (j : Nat) t v, Tryd.f4.params[j]? = some t → args[j]? = some v → Value.okWide Tryd.prog W .any base t v := hval0
  have hW' := hW
  obtain ⟨p, q, hA0, hV, rfl, hfz, hnd⟩ := hW
  have hA : DataW.TrodAll enc Tryd.prog W 0 (fun _ => true) true Tryd.f4.params.toList args.toList ds p := hA0
  rw [Tryd.params4] at hA hval
  obtain ⟨v0, vs0, d0, ds0, p0, q0, hargs, rfl, rfl, h0, r0⟩ := trodAll_cons hA
  obtain ⟨rfl, rfl, rfl⟩ := trodAll_nil r0
  obtain rfl : args = #[v0] := by cases args; simp_all
  obtain ⟨rfl, rfl⟩ := trodVars_none hV
  have k0 := h0
  have lt0 : ∀ x ∈ p0, x.block < W.heap.size := by obtain ⟨m, hm⟩ := k0; exact DataW.trod_lt m _ _ _ hm
  obtain ⟨u0_0, u0_1, y0_0, y0_1, n0, rfl, rfl, rfl, g0_0, g0_1⟩ := Go.Joins.open_agg2 Tryd.underlying24 (by kernel_rfl) (by kernel_rfl) (hval 0 24 v0 rfl rfl) h0
  obtain ⟨A0_0, c0_0, l0_0, e0_0, C0_0, b0_0, m0_0, w0_0⟩ := Open.read_ints Tryd.underlying22 Tryd.underlying3 (by kernel_rfl) g0_0
  simp only [List.cons.injEq, and_true] at e0_0
  subst e0_0
  obtain ⟨a0_1, e0_1, _, w0_1⟩ := DataW.trod_int Tryd.underlying3 g0_1
  simp only [List.cons.injEq, and_true] at e0_1
  subst e0_1
  have pu := Pure.FnExactGreatestLosses l0_0 a0_1 m0_0 w0_0 w0_1
  obtain ⟨k, pu⟩ := pu
  refine (PFnExactGreatestLosses.laws_FnExactGreatestLosses.calls k _ _ l0_0 a0_1 true W C0_0 b0_0 pu hTgl hTab).mono fun e W' ⟨he, bel0⟩ => ?_
  have bel : Below W.heap.size W W' := bel0
  subst he
  exact ⟨_, rfl, _, _, _, [], _, [], hW', trodAll_mk1 (shut_bool Tryd.underlying4 _), (trodAll_cons_mk (Below.trod laidOut (by kernel_rfl) (of_decide_eq_true (by kernel_rfl)) k0 bel lt0) trodAll_mk0), rfl, bel.frame _, fun h => by cases h⟩
theorem over : Rows.fnExactGreatestLossesRow.holds Tryd.pinned (OpenSpec.ofChange Rows.fnExactGreatestLossesSpec) :=
  OpenClaim.holds_of_wide 4 Tryd.f4 rfl rfl rfl rfl rfl rfl rfl ⟨rfl, rfl, rfl, rfl, rfl⟩ rfl rfl rfl rfl rfl (by kernel_rfl) Tryd.func4 (by kernel_rfl)
    (of_decide_eq_true (by kernel_rfl)) (by unfold Func.isWrapper; first | (rw [if_pos (by decide +kernel)]; kernel_rfl) | (rw [if_neg (by decide +kernel)]; exact ⟨rfl, rfl⟩))
    (fun os started H enc _ => lifted os started H enc)
theorem card : Rows.FnExactGreatestLossesCardSaid :=
  Claim7.holds_tied_plain_at .later [] [.data, .data] true (true, "5e430ac102e504b12e8dcd697560d89733da7cb221e568357df548dd39f89259") false
    over (fun _ h => by cases h) (by kernel_rfl) (fun _ h => by cases h) Go.Proofs.YtlbleemoiabmdaaDoor.fnExactGreatestLosses_row_tie rfl ⟨rfl, rfl⟩ (by kernel_rfl) rfl
    (fun f fn hf hfn => by
      obtain rfl : f = 4 := Option.some.inj (hf.symm.trans (show _ = some 4 by kernel_rfl))
      obtain rfl : fn = Tryd.f4 := (Option.some.inj (Tryd.func4.symm.trans hfn)).symm
      exact ⟨by kernel_rfl, fun j t ht => by
        rw [Tryd.params4] at ht
        have hm : t ∈ [24] := by simpa using Array.mem_of_getElem? ht
        have hall : ([24].all fun u => !Tryd.prog.wantsStandIn u) = true := by kernel_rfl
        exact (show Tryd.prog.wantsStandIn t = false by simpa using List.all_eq_true.1 hall t hm)⟩)
    (by kernel_rfl)
theorem proved : Rows.FnExactGreatestLossesCardSaid := card
#print axioms proved
end Go.Proofs.YtlbleemoiabmdaaDoor.fnExactGreatestLosses
namespace Go.Proofs.YtlbleemoiabmdaaDoor
/-- The row, under a short name, for the claim. -/
theorem fnExactGreatestLosses_holds : Rows.FnExactGreatestLossesCardSaid := fnExactGreatestLosses.proved
end Go.Proofs.YtlbleemoiabmdaaDoor
