-- Own cut of words that the kit's print.sh has printed, and of own lemmas.
import Derived.Test.YtkgekmpnbhomgaaZFnSidesWWords
import Derived.Laws.StructEq
namespace Go.Proofs.YtkgekmpnbhomgaaW.PrintWords
open Go.RowKit
section
variable {P : Program} {d : Nat} {xs ys : Array Value} {f : Field} {fs : List Field} {a b : Value} {r s : Bool} {w : World}
end
end Go.Proofs.YtkgekmpnbhomgaaW.PrintWords
