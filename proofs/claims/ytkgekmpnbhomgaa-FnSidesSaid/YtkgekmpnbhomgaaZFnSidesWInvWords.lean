-- Own cut of words that the kit's print.sh has printed, and of own lemmas.
import Derived.Test.YtkgekmpnbhomgaaZFnSidesWInv
import Derived.Test.YtkgekmpnbhomgaaZFnSidesWFootNe
namespace Go.Proofs.YtkgekmpnbhomgaaW.PrintWords
open Go.RowKit
end Go.Proofs.YtkgekmpnbhomgaaW.PrintWords
namespace Go.Proofs.YtkgekmpnbhomgaaW.PrintLast
section
variable {ops : Array Oper} {a : Act} {o og : Oper} {g : Nat} {t : Tmp} {u : Bool}
end
end Go.Proofs.YtkgekmpnbhomgaaW.PrintLast
