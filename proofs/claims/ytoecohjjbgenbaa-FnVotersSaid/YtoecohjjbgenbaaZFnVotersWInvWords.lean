-- Own cut of words that the kit's print.sh has printed, and of own lemmas.
import Derived.Test.YtoecohjjbgenbaaZFnVotersWInv
import Derived.Test.YtoecohjjbgenbaaZFnVotersWFootNe
namespace Go.Proofs.YtoecohjjbgenbaaW.PrintWords
open Go.RowKit
end Go.Proofs.YtoecohjjbgenbaaW.PrintWords
namespace Go.Proofs.YtoecohjjbgenbaaW.PrintLast
section
variable {ops : Array Oper} {a : Act} {o og : Oper} {g : Nat} {t : Tmp} {u : Bool}
end
end Go.Proofs.YtoecohjjbgenbaaW.PrintLast
