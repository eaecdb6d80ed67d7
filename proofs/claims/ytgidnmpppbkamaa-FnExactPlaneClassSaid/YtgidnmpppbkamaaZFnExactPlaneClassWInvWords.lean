-- Own cut of words that the kit's print.sh has printed, and of own lemmas.
import Derived.Test.YtgidnmpppbkamaaZFnExactPlaneClassWInv
import Derived.Test.YtgidnmpppbkamaaZFnExactPlaneClassWFootNe
namespace Go.Proofs.YtgidnmpppbkamaaW.PrintWords
open Go.RowKit
end Go.Proofs.YtgidnmpppbkamaaW.PrintWords
namespace Go.Proofs.YtgidnmpppbkamaaW.PrintLast
section
variable {ops : Array Oper} {a : Act} {o og : Oper} {g : Nat} {t : Tmp} {u : Bool}
end
end Go.Proofs.YtgidnmpppbkamaaW.PrintLast
