-- Own cut of words that the kit's print.sh has printed, and of own lemmas.
import Derived.Test.YtmfmgnpefjmieaaZFnTablesWInv
import Derived.Test.YtmfmgnpefjmieaaZFnTablesWFootNe
namespace Go.Proofs.YtmfmgnpefjmieaaW.PrintWords
open Go.RowKit
end Go.Proofs.YtmfmgnpefjmieaaW.PrintWords
namespace Go.Proofs.YtmfmgnpefjmieaaW.PrintLast
section
variable {ops : Array Oper} {a : Act} {o og : Oper} {g : Nat} {t : Tmp} {u : Bool}
end
end Go.Proofs.YtmfmgnpefjmieaaW.PrintLast
