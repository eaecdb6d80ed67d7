-- Laid for this claim by a program of the session's own (wip/tool/myprint.py).
import Derived.Test.YtgidnmpppbkamaaProg
import Derived.Below
import Derived.Deep.Draws
import Derived.Deep.AppendLies
import Derived.Maps.AppendAt
import Derived.OwnWalk
import Derived.Laws.BytesArg
import Derived.Laws.MakeOwn
import Derived.Laws.OwnMore
import Derived.Deep.OwnRows
import Derived.Tactics
import Derived.Lib.ConvBytes
import Derived.Laws.Slices
import Derived.WalkKit
import Derived.KernelRfl
import Derived.RowKit3
import Derived.Deep.LoopGhost
import Derived.Deep.QuietTactic
import Derived.BigQuiet
import Derived.WideLaws
import Derived.Deep.DeepCutAuto
import Derived.Deep.CutBlock
import Derived.Deep.RegionHeld3
import Derived.Laws.Rows
import Derived.Lib.AppendStr
import Derived.ArgAppend
import Derived.Laws.IdiomCopy
import Derived.OrdersHeld
import Derived.Laws.BitsLemmas
import Derived.RowKit
import Derived.Test.YtgidnmpppbkamaaZFnExactIsWeightedWWords
import Derived.Test.YtgidnmpppbkamaaZFnExactIsWeightedWLast
import Derived.Test.YtgidnmpppbkamaaZFnExactIsWeightedWTab
import Derived.Test.YtgidnmpppbkamaaZFnExactIsWeightedWFour
import Derived.Test.YtgidnmpppbkamaaZFnExactIsWeightedWQPut
import Derived.Test.YtgidnmpppbkamaaZFnExactIsWeightedWApart
import Derived.Test.YtgidnmpppbkamaaZFnExactIsWeightedWArr
import Derived.Test.YtgidnmpppbkamaaZFnExactIsWeightedWZeros
import Derived.Test.YtgidnmpppbkamaaZFnExactIsWeightedWFoot
import Derived.Test.YtgidnmpppbkamaaZFnExactIsWeightedWKept
import Derived.Test.YtgidnmpppbkamaaZFnExactIsWeightedWShare
import Derived.Test.YtgidnmpppbkamaaZFnExactIsWeightedWN
import Derived.Test.YtgidnmpppbkamaaZFnExactIsWeightedWFootNe
import Derived.Test.YtgidnmpppbkamaaZFnExactIsWeightedWAt
import Derived.Test.YtgidnmpppbkamaaZFnExactIsWeightedWEqStruct
import Derived.Test.YtgidnmpppbkamaaZFnExactIsWeightedWRepsOne
import Derived.Test.YtgidnmpppbkamaaZFnExactIsWeightedWInv
import Derived.Test.YtgidnmpppbkamaaZFnExactIsWeightedWInvWords
import Derived.Test.YtgidnmpppbkamaaZFnExactIsWeightedWGuard
import Derived.Test.YtgidnmpppbkamaaZFnExactIsWeightedWNEv
import Derived.Test.YtgidnmpppbkamaaZFnExactIsWeightedWMore
namespace Go.Proofs.Ytgidnmpppbkamaa.PFnExactIsWeighted
open Go.RowKit Go.Proofs.YtgidnmpppbkamaaW.PrintWords Go.Proofs.YtgidnmpppbkamaaW.PrintLast Go.Proofs.YtgidnmpppbkamaaW.PrintMore
attribute [local go_sem] max2_int min2_int max_two min_two max_three min_three max_four min_four
set_option linter.unusedVariables false
set_option linter.unusedSimpArgs false
def errW : Option Int → Value
 | none => .nilIface
 | some c => .iface 0 (.int .i64 c)
theorem errW_none : errW none = .nilIface := rfl
theorem errW_some (c : Int) : errW (some c) = .iface 0 (.int .i64 c) := rfl
theorem info3 : (Try.prog.info? 3).map (fun i => (i.zero, i.size, i.bytes)) = some (some (.int .i64 0), 1, 8) := by kernel_rfl
theorem info22 : (Try.prog.info? 22).map (fun i => (i.zero, i.size, i.bytes)) = some (some (.slice none 0 0), 1, 24) := by kernel_rfl
def rd_L1 (xs : List (List Int)) (i : Int) : (List Int) := xs.getD i.toNat ([] : List Int)
theorem at_L1 {w : World} {A : Option Addr} {n : Nat} {xs : List (List Int)} (h : Kd.C (Kd.slice 3 (Kd.int .i64)) w A n xs) (i : Int) (h0 : 0 ≤ i) (h1 : i < n) : ∃ ad A0 c0, A = some ad ∧ w.cell? (ad.add i.toNat) = some (.slice A0 (rd_L1 xs i).length c0) ∧ (rd_L1 xs i).length ≤ c0 ∧ (Kd.int .i64).C w A0 (rd_L1 xs i).length (rd_L1 xs i) := by
 obtain ⟨ad, c, e, _, hK, hc0⟩ := Kd.C_get h ([] : List Int) i h0 h1
 have hc : ∀ j u, c[j]? = some u → w.cell? (ad.add (i.toNat * 1 + j)) = some u := hc0
 obtain ⟨A0, c0, rfl, l0, g0⟩ := hK
 exact ⟨ad, A0, c0, e, by have hq := hc 0 _ rfl; rwa [Nat.mul_one, Nat.add_zero] at hq, l0, g0⟩
theorem xR {P Q : Prop} (h : P) (f : P → Q := by (intro h_; (with_reducible repeat (first | apply rA | apply rN | apply rD)); exact h_)) : Q := f h
theorem xS {P Q : Prop} (h : P) (f : P → Q := by (intro h_; (with_reducible repeat (first | apply Kd.S_alloc | apply Kd.S_drewN | apply Kd.S_drew)); exact h_)) : Q := f h
theorem xV {P Q : Prop} (h : P) (f : P → Q := by (intro h_; (with_reducible repeat (first | apply Kd.V_alloc | apply Kd.V_drewN | apply Kd.V_drew)); exact h_)) : Q := f h
theorem xB {P Q : Prop} (h : P) (f : P → Q := by (intro h_; (with_reducible repeat (first | refine bN ?_ _ | refine bD ?_ | refine bA ?_ _)); exact h_)) : Q := f h
theorem xH {P Q : Prop} (h : P) (f : P → Q := by (intro h_; repeat (first | (with_reducible first | exact h_ | apply eA | apply eN | apply eD) | exact h_))) : Q := f h
theorem xG1 {P Q G0 : Prop} (h : P) (g0 : G0) (f : P → G0 → Q := by (intro h_ g0_; repeat (first | (with_reducible first | exact h_ | apply eA | apply eN | apply eD | refine eS ?_ g0_) | exact h_))) : Q := f h g0
theorem xG2 {P Q G0 G1 : Prop} (h : P) (g0 : G0) (g1 : G1) (f : P → G0 → G1 → Q := by (intro h_ g0_ g1_; repeat (first | (with_reducible first | exact h_ | apply eA | apply eN | apply eD | refine eS ?_ g0_ | refine eS ?_ g1_) | exact h_))) : Q := f h g0 g1
theorem xG3 {P Q G0 G1 G2 : Prop} (h : P) (g0 : G0) (g1 : G1) (g2 : G2) (f : P → G0 → G1 → G2 → Q := by (intro h_ g0_ g1_ g2_; repeat (first | (with_reducible first | exact h_ | apply eA | apply eN | apply eD | refine eS ?_ g0_ | refine eS ?_ g1_ | refine eS ?_ g2_) | exact h_))) : Q := f h g0 g1 g2
theorem xC {P Q : Prop} (h : P) (f : P → Q := by (intro h_; repeat (first | exact h_ | (with_reducible refine Kd.C_alloc ?_ _) | (with_reducible refine Kd.C_drewN ?_ _) | (with_reducible refine Kd.C_drew ?_)))) : Q := f h
theorem xL {P : Prop} (h : P := by ((try simp only [List.map_toArray, List.map_cons, List.map_nil]); first | done | rfl | (simp only [List.length_drop, List.length_take]; rfl))) : P := h
abbrev rA := @Kd.R_alloc
abbrev rN := @Kd.R_drewN
abbrev rD := @Kd.R_drew
abbrev rM := @Kd.R_mono
abbrev bN := @blk_drewN
abbrev bD := @blk_drew
abbrev bA := @blk_alloc
abbrev bF := @blk_frozen
abbrev bC := @blk_cell
abbrev bB := @blk_below
abbrev eA := @below_alloc
abbrev eN := @pw_below_drewN
abbrev eD := @below_drew1
abbrev eS := @below_set
abbrev aM := @Aside0.mk
abbrev sA := @List.setIfInBounds_toArray
abbrev sZ := @List.set_cons_zero
abbrev sU := @List.set_cons_succ
abbrev oB := @Option.bind_eq_some_iff
end Go.Proofs.Ytgidnmpppbkamaa.PFnExactIsWeighted
