-- Own cut of words that the kit's print.sh has printed, and of own lemmas.
import Derived.Test.YtkgekmpnbhomgaaDoorZFnVotesWInv
import Derived.Test.YtkgekmpnbhomgaaDoorZFnVotesWFootNe
namespace Go.Proofs.YtkgekmpnbhomgaaDoorW.PrintWords
open Go.RowKit
end Go.Proofs.YtkgekmpnbhomgaaDoorW.PrintWords
namespace Go.Proofs.YtkgekmpnbhomgaaDoorW.PrintLast
section
variable {ops : Array Oper} {a : Act} {o og : Oper} {g : Nat} {t : Tmp} {u : Bool}
end
end Go.Proofs.YtkgekmpnbhomgaaDoorW.PrintLast
