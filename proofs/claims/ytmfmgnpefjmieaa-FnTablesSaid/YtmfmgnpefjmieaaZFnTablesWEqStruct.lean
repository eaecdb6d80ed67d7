-- Own cut of words that the kit's print.sh has printed, and of own lemmas.
import Derived.Test.YtmfmgnpefjmieaaZFnTablesWWords
import Derived.Laws.StructEq
namespace Go.Proofs.YtmfmgnpefjmieaaW.PrintWords
open Go.RowKit
section
variable {P : Program} {d : Nat} {xs ys : Array Value} {f : Field} {fs : List Field} {a b : Value} {r s : Bool} {w : World}
end
end Go.Proofs.YtmfmgnpefjmieaaW.PrintWords
