-- Own cut of words that the kit's print.sh has printed, and of own lemmas.
import Derived.Test.YtlbleemoiabmdaaZFnTeachingWInv
import Derived.Test.YtlbleemoiabmdaaZFnTeachingWFootNe
namespace Go.Proofs.YtlbleemoiabmdaaW.PrintWords
open Go.RowKit
end Go.Proofs.YtlbleemoiabmdaaW.PrintWords
namespace Go.Proofs.YtlbleemoiabmdaaW.PrintLast
section
variable {ops : Array Oper} {a : Act} {o og : Oper} {g : Nat} {t : Tmp} {u : Bool}
end
end Go.Proofs.YtlbleemoiabmdaaW.PrintLast
