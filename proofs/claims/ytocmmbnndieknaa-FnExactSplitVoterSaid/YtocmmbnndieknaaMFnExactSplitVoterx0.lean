-- Laid for this claim by a program of the session's own (wip/tool/myprint.py).
import Derived.Test.YtocmmbnndieknaaProg
import Derived.Below
import Derived.Deep.Draws
import Derived.Deep.AppendLies
import Derived.Maps.AppendAt
import Derived.OwnWalk
import Derived.Laws.BytesArg
import Derived.Laws.MakeOwn
import Derived.Laws.OwnMore
import Derived.Deep.OwnRows
import Derived.Tactics
import Derived.Lib.ConvBytes
import Derived.Laws.Slices
import Derived.WalkKit
import Derived.KernelRfl
import Derived.RowKit3
import Derived.Deep.LoopGhost
import Derived.Deep.QuietTactic
import Derived.BigQuiet
import Derived.WideLaws
import Derived.Deep.DeepCutAuto
import Derived.Deep.CutBlock
import Derived.Deep.RegionHeld3
import Derived.Laws.Rows
import Derived.Lib.AppendStr
import Derived.ArgAppend
import Derived.Laws.IdiomCopy
import Derived.OrdersHeld
import Derived.Laws.BitsLemmas
import Derived.RowKit
import Derived.Test.YtocmmbnndieknaaWWords
import Derived.Test.YtocmmbnndieknaaWLast
import Derived.Test.YtocmmbnndieknaaWTab
import Derived.Test.YtocmmbnndieknaaWFour
import Derived.Test.YtocmmbnndieknaaWQPut
import Derived.Test.YtocmmbnndieknaaWApart
import Derived.Test.YtocmmbnndieknaaWArr
import Derived.Test.YtocmmbnndieknaaWZeros
import Derived.Test.YtocmmbnndieknaaWFoot
import Derived.Test.YtocmmbnndieknaaWKept
import Derived.Test.YtocmmbnndieknaaWShare
import Derived.Test.YtocmmbnndieknaaWN
import Derived.Test.YtocmmbnndieknaaWFootNe
import Derived.Test.YtocmmbnndieknaaWAt
import Derived.Test.YtocmmbnndieknaaWEqStruct
import Derived.Test.YtocmmbnndieknaaWRepsOne
import Derived.Test.YtocmmbnndieknaaWInv
import Derived.Test.YtocmmbnndieknaaWInvWords
import Derived.Test.YtocmmbnndieknaaWGuard
import Derived.Test.YtocmmbnndieknaaWNEv
import Derived.Test.YtocmmbnndieknaaWMore
namespace Go.Proofs.Ytocmmbnndieknaa.PFnExactSplitVoter
open Go.RowKit Go.Proofs.YtocmmbnndieknaaW.PrintWords Go.Proofs.YtocmmbnndieknaaW.PrintLast Go.Proofs.YtocmmbnndieknaaW.PrintMore
attribute [local go_sem] max2_int min2_int max_two min_two max_three min_three max_four min_four   -- for this text's walks alone
set_option linter.unusedVariables false
set_option linter.unusedSimpArgs false



def errW : Option Int → Value
  | none => .nilIface
  | some c => .iface 0 (.int .i64 c)
theorem errW_none : errW none = .nilIface := rfl
theorem errW_some (c : Int) : errW (some c) = .iface 0 (.int .i64 c) := rfl

theorem info3 : (Try.prog.info? 3).map (fun i => (i.zero, i.size, i.bytes)) = some (some (.int .i64 0), 1, 8) := by kernel_rfl
-- the values' own types

end Go.Proofs.Ytocmmbnndieknaa.PFnExactSplitVoter
