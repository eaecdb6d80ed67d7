-- Own text.
import Derived.Test.YtkgekmpnbhomgaaDoorCards
import Derived.Test.YtkgekmpnbhomgaaDoorTie
import Derived.Test.YtkgekmpnbhomgaaDoorRows
import Derived.Test.YtkgekmpnbhomgaaDoorMFnVotesx18
import Derived.Test.YtkgekmpnbhomgaaDoorPureFnVotes
import Derived.Test.YtkgekmpnbhomgaaDoorZFnVotesOpen
import Derived.SevenTiedAt
import Derived.LaidMore
import Derived.Stop.Joined
import Derived.WalkKit
import Derived.ProofKit
import Derived.OpenShut
import Derived.ShutString
import Derived.ChangeOld
import Derived.Below
import Derived.SizedLaws
import Derived.Lib.SmallJoins
namespace Go.Proofs.YtkgekmpnbhomgaaDoor.fnVotes
open Go.ChangeShapes Go.WideShapes Go.ChangeAt Go.RowKit Go.Proofs.YtkgekmpnbhomgaaDoorW.PrintWords
open Go.ChangeMaps (open_string shut_string)
set_option linter.unusedVariables false
theorem own : ownKnob Tryd.prog.godebug = none := by kernel_rfl
theorem laidOut : laidOutB Tryd.prog = true := by kernel_rfl
abbrev laidV : List (String × DataW Unit) := Rows.fnVotesRow.laid
theorem tN : (Tryd.prog.globals[1]?).map (·.type) = some 86 := by kernel_rfl
theorem door_met (os : Os) (args : Array Value) : laidMetH Tryd.prog laidV ((World.doorLaid Tryd.prog 400 os).forCall (fun _ _ => 0) ⟨#[], args, []⟩).memory :=
 laidMetH_of_parts3 (fuel := 8) (laidMet_of_run' 8 (by kernel_rfl) (by kernel_rfl)) (by kernel_rfl) (by kernel_rfl)
theorem of_laid {W : World} (h : laidMetH Tryd.prog laidV W) : Go.Proofs.TabAt 1 Lib.deBruijn64tab W ∧ 1 < W.heap.size := by
 rw [MakeChecks.laidMetH_plain _ _ _ (by kernel_rfl)] at h
 obtain ⟨ps, ⟨g0, t0, cs0, f0, p0, q0, hg0, ht0, hv0, hd0, ⟨g1, t1, cs1, f1, p1, q1, hg1, ht1, hv1, hd1, _, hz1⟩, hz0⟩, _, _⟩ := h
 obtain rfl := Option.some.inj ((show _ = some 1 by kernel_rfl).symm.trans hg1)
 obtain rfl := Option.some.inj (tN.symm.trans ht1)
 obtain ⟨xs, m1, rfl, hx1, hlen, hn3, hel⟩ := DataW.trod_array Tryd.underlying86 hd1
 have ce : Tryd.prog.cellsOf 5 = 1 := by kernel_rfl
 have cl : Lib.deBruijn64tab.length = 64 := by kernel_rfl
 rw [ce] at hel
 have hlits : xs.map (·.1) = Lib.deBruijn64tab.map (fun n : Nat => DataW.lit (.int .u8 (n : Int))) := by
  have := (Prod.mk.inj hx1).1
  injection this with this
  exact this.symm.trans (by kernel_rfl)
 have key : ∀ j, j < 64 → W.cell? ⟨1, j, none⟩ = some (.int .u8 (Lib.deBruijn64tab.getD j 0)) := by
  intro j hj
  have h0 := hel j hj
  rw [List.getElem?_eq_getElem (by omega)] at h0
  obtain ⟨k, e1, e2, _⟩ := DataW.trod_int Tryd.underlying5 h0
  have hk : DataW.lit (H := Unit) (.int .u8 k) = .lit (.int .u8 (Lib.deBruijn64tab.getD j 0 : Nat)) := by
   have := congrArg (fun l => l[j]?) hlits
   simp only [List.getElem?_map] at this
   rw [List.getElem?_eq_getElem (by omega), List.getElem?_eq_getElem (by omega)] at this
   simp only [Option.map_some, Option.some.injEq, e2] at this
   rw [this, List.getD_eq_getElem?_getD, List.getElem?_eq_getElem (by omega)]; rfl
  have hk2 : k = (Lib.deBruijn64tab.getD j 0 : Nat) := by injection hk with hk; injection hk
  rw [World.var?_cell hg1 hv1 j, ← hk2]
  rw [Nat.mul_one] at e1
  have e3 : (cs1.toList)[j]? = some (.int .u8 k) := by
   have := congrArg (fun l => l[0]?) e1
   simpa [List.getElem?_take, List.getElem?_drop] using this
  simpa using e3
 refine ⟨fun j hj => key j (by rw [cl] at hj; exact hj), ?_⟩
 have := key 0 (by decide)
 by_cases hlt : 1 < W.heap.size
 ·
  exact hlt
 ·
  exfalso; simp [World.cell?, Array.getElem?_eq_none (Nat.le_of_not_lt hlt)] at this
set_option maxRecDepth 100000 in
theorem lifted (os : Os) (started : os.Started) (H : Type) (enc : TypeId × Value → H) :
  ReturnsInHanded {} Tryd.checked os 3 .any (fun w args => (Rows.fnVotesSpec.pre enc Tryd.prog Tryd.f3 [] false w args ∧ laidMetH Tryd.prog laidV w) ∧ sizedMet enc Tryd.prog Tryd.f3 (OpenSpec.ofChange Rows.fnVotesSpec) false w args) (Rows.fnVotesSpec.post enc Tryd.prog Tryd.f3 false true false false) := by
 refine returnsInHanded_of_change_and (C := Tryd.checked) (X := fun w _ => laidMetH Tryd.prog laidV w) (fun _ _ _ hh h => h.of_heap hh) own started (by kernel_rfl) Tryd.func3
  (ChangeSpec.witness_shaped (enc := enc) (C := Tryd.checked) (os := os) (X := fun w _ => laidMetH Tryd.prog laidV w) false (World.doorLaid Tryd.prog 400 os) #[.slice none 0 0] 8 rfl (World.shaped_of_RefB (by kernel_rfl) (by kernel_rfl)) (by kernel_rfl) (by kernel_rfl) (by kernel_rfl) (door_met os _)) ?_
 intro W base args ds gs before hval0 hW hcnd hsz0 hL _
 obtain ⟨hTab, hTgl⟩ := of_laid hL
 have hval : ∀ (j : Nat) t v, Tryd.f3.params[j]? = some t → args[j]? = some v → Value.okWide Tryd.prog W .any base t v := hval0
 have hW' := hW
 obtain ⟨p, q, hA0, hV, rfl, hfz, hnd⟩ := hW
 have hA : DataW.TrodAll enc Tryd.prog W 0 (fun _ => true) true Tryd.f3.params.toList args.toList ds p := hA0
 rw [Tryd.params3] at hA hval
 obtain ⟨v0, vs0, d0, ds0, p0, q0, hargs, rfl, rfl, h0, r0⟩ := trodAll_cons hA
 obtain ⟨rfl, rfl, rfl⟩ := trodAll_nil r0
 obtain rfl : args = #[v0] := by cases args; simp_all
 obtain ⟨rfl, rfl⟩ := trodVars_none hV
 have k0 := h0
 have lt0 : ∀ x ∈ p0, x.block < W.heap.size := by obtain ⟨m, hm⟩ := k0; exact DataW.trod_lt m _ _ _ hm
 obtain ⟨z0, y0, x0, rfl⟩ := okWide_slice Tryd.underlying22 (hval 0 22 v0 rfl rfl)
 obtain ⟨fuel0, f0⟩ := h0
 rw [show (Value.slice z0 y0 x0).cells.toList = [.slice z0 y0 x0] by simp [Value.cells]] at f0
 obtain ⟨A0, c0, l0, e0, C0, b0, m0, w0⟩ := Open.read_ints Tryd.underlying22 Tryd.underlying5 (by kernel_rfl) f0
 simp only [List.cons.injEq, and_true, Value.slice.injEq] at e0
 obtain ⟨rfl, rfl, rfl⟩ := e0
 have pu := Pure.FnVotes l0 m0 w0
 obtain ⟨k, pu⟩ := pu
 refine (PFnVotes.laws_FnVotes.calls k _ _ l0 true W C0 b0 pu hTgl hTab).mono fun e W' ⟨he, bel0⟩ => ?_
 have bel : Below W.heap.size W W' := bel0
 subst he
 exact ⟨_, rfl, _, _, _, [], _, [], hW', trodAll_mk1 (shut_bool Tryd.underlying4 _), (trodAll_cons_mk (Below.trod laidOut (by kernel_rfl) (of_decide_eq_true (by kernel_rfl)) k0 bel lt0) trodAll_mk0), rfl, bel.frame _, fun h => by cases h⟩
theorem over : Rows.fnVotesRow.holds Tryd.pinned (OpenSpec.ofChange Rows.fnVotesSpec) :=
 OpenClaim.holds_of_wide 3 Tryd.f3 rfl rfl rfl rfl rfl rfl rfl ⟨rfl, rfl, rfl, rfl, rfl⟩ rfl rfl rfl rfl rfl (by kernel_rfl) Tryd.func3 (by kernel_rfl)
  (of_decide_eq_true (by kernel_rfl)) (by unfold Func.isWrapper; first | (rw [if_pos (by decide +kernel)]; kernel_rfl) | (rw [if_neg (by decide +kernel)]; exact ⟨rfl, rfl⟩))
  (fun os started H enc _ => lifted os started H enc)
theorem card : Rows.FnVotesCardSaid :=
 Claim7.holds_tied_plain_at .later [] [.data, .data] true (true, "1d2505a127628f36bbe0f6c0c006dac95ec95f1999ecd1de08d8ee9491695d3d") false
  over (fun _ h => by cases h) (by kernel_rfl) (fun _ h => by cases h) Go.Proofs.YtkgekmpnbhomgaaDoor.fnVotes_row_tie rfl ⟨rfl, rfl⟩ (by kernel_rfl) rfl
  (fun f fn hf hfn => by
   obtain rfl : f = 3 := Option.some.inj (hf.symm.trans (show _ = some 3 by kernel_rfl))
   obtain rfl : fn = Tryd.f3 := (Option.some.inj (Tryd.func3.symm.trans hfn)).symm
   exact ⟨by kernel_rfl, fun j t ht => by
    rw [Tryd.params3] at ht
    have hm : t ∈ [22] := by simpa using Array.mem_of_getElem? ht
    have hall : ([22].all fun u => !Tryd.prog.wantsStandIn u) = true := by kernel_rfl
    exact (show Tryd.prog.wantsStandIn t = false by simpa using List.all_eq_true.1 hall t hm)⟩)
  (by kernel_rfl)
theorem proved : Rows.FnVotesCardSaid := card
#print axioms proved
end Go.Proofs.YtkgekmpnbhomgaaDoor.fnVotes
namespace Go.Proofs.YtkgekmpnbhomgaaDoor
theorem fnVotes_holds : Rows.FnVotesCardSaid := fnVotes.proved
end Go.Proofs.YtkgekmpnbhomgaaDoor
