-- Laid for this claim by a program of the session's own (wip/tool/myprint.py).
import Derived.Test.YtoecohjjbgenbaaProg
import Derived.Below
import Derived.Deep.Draws
import Derived.Deep.AppendLies
import Derived.Maps.AppendAt
import Derived.OwnWalk
import Derived.Laws.BytesArg
import Derived.Laws.MakeOwn
import Derived.Laws.OwnMore
import Derived.Deep.OwnRows
import Derived.Tactics
import Derived.Lib.ConvBytes
import Derived.Laws.Slices
import Derived.WalkKit
import Derived.KernelRfl
import Derived.RowKit3
import Derived.Deep.LoopGhost
import Derived.Deep.QuietTactic
import Derived.BigQuiet
import Derived.WideLaws
import Derived.Deep.DeepCutAuto
import Derived.Deep.CutBlock
import Derived.Deep.RegionHeld3
import Derived.Laws.Rows
import Derived.Lib.AppendStr
import Derived.ArgAppend
import Derived.Laws.IdiomCopy
import Derived.OrdersHeld
import Derived.Laws.BitsLemmas
import Derived.RowKit
import Derived.Test.YtoecohjjbgenbaaZFnVotersShelf
import Derived.Test.YtoecohjjbgenbaaZFnVotersWWords
import Derived.Test.YtoecohjjbgenbaaZFnVotersWLast
import Derived.Test.YtoecohjjbgenbaaZFnVotersWTab
import Derived.Test.YtoecohjjbgenbaaZFnVotersWFour
import Derived.Test.YtoecohjjbgenbaaZFnVotersWQPut
import Derived.Test.YtoecohjjbgenbaaZFnVotersWApart
import Derived.Test.YtoecohjjbgenbaaZFnVotersWArr
import Derived.Test.YtoecohjjbgenbaaZFnVotersWZeros
import Derived.Test.YtoecohjjbgenbaaZFnVotersWFoot
import Derived.Test.YtoecohjjbgenbaaZFnVotersWKept
import Derived.Test.YtoecohjjbgenbaaZFnVotersWShare
import Derived.Test.YtoecohjjbgenbaaZFnVotersWN
import Derived.Test.YtoecohjjbgenbaaZFnVotersWFootNe
import Derived.Test.YtoecohjjbgenbaaZFnVotersWAt
import Derived.Test.YtoecohjjbgenbaaZFnVotersWEqStruct
import Derived.Test.YtoecohjjbgenbaaZFnVotersWRepsOne
import Derived.Test.YtoecohjjbgenbaaZFnVotersWInv
import Derived.Test.YtoecohjjbgenbaaZFnVotersWInvWords
import Derived.Test.YtoecohjjbgenbaaZFnVotersWGuard
import Derived.Test.YtoecohjjbgenbaaZFnVotersWNEv
import Derived.Test.YtoecohjjbgenbaaZFnVotersWMore
namespace Go.Proofs.Ytoecohjjbgenbaa.PFnVoters
open Go.RowKit Go.Proofs.YtoecohjjbgenbaaW.PrintWords Go.Proofs.YtoecohjjbgenbaaW.PrintLast Go.Proofs.YtoecohjjbgenbaaW.PrintMore
attribute [local go_sem] max2_int min2_int max_two min_two max_three min_three max_four min_four
set_option linter.unusedVariables false
set_option linter.unusedSimpArgs false
def errW : Option Int → Value
 | none => .nilIface
 | some c => .iface 0 (.int .i64 c)
theorem errW_none : errW none = .nilIface := rfl
theorem errW_some (c : Int) : errW (some c) = .iface 0 (.int .i64 c) := rfl
theorem info3 : (Try.prog.info? 3).map (fun i => (i.zero, i.size, i.bytes)) = some (some (.int .i64 0), 1, 8) := by kernel_rfl
def rd_L2 (xs : List (List Int)) (i : Int) : (List Int) := xs.getD i.toNat ([] : List Int)
theorem at_L2 {w : World} {A : Option Addr} {n : Nat} {xs : List (List Int)} (h : Kd.C (Kd.slice 3 (Kd.int .i64)) w A n xs) (i : Int) (h0 : 0 ≤ i) (h1 : i < n) : ∃ ad A0 c0, A = some ad ∧ w.cell? (ad.add i.toNat) = some (.slice A0 (rd_L2 xs i).length c0) ∧ (rd_L2 xs i).length ≤ c0 ∧ (Kd.int .i64).C w A0 (rd_L2 xs i).length (rd_L2 xs i) := by
 obtain ⟨ad, c, e, _, hK, hc0⟩ := Kd.C_get h ([] : List Int) i h0 h1
 have hc : ∀ j u, c[j]? = some u → w.cell? (ad.add (i.toNat * 1 + j)) = some u := hc0
 obtain ⟨A0, c0, rfl, l0, g0⟩ := hK
 exact ⟨ad, A0, c0, e, by have hq := hc 0 _ rfl; rwa [Nat.mul_one, Nat.add_zero] at hq, l0, g0⟩
abbrev rA := @Kd.R_alloc
abbrev rN := @Kd.R_drewN
abbrev rD := @Kd.R_drew
abbrev rM := @Kd.R_mono
abbrev bN := @blk_drewN
abbrev bD := @blk_drew
abbrev bA := @blk_alloc
abbrev bF := @blk_frozen
abbrev bC := @blk_cell
abbrev bB := @blk_below
abbrev eA := @below_alloc
abbrev eN := @pw_below_drewN
abbrev eD := @below_drew1
abbrev eS := @below_set
abbrev aM := @Aside0.mk
abbrev sA := @List.setIfInBounds_toArray
abbrev sZ := @List.set_cons_zero
abbrev sU := @List.set_cons_succ
abbrev oB := @Option.bind_eq_some_iff
end Go.Proofs.Ytoecohjjbgenbaa.PFnVoters
