-- Own cut of words that the kit's print.sh has printed, and of own lemmas.
import Derived.Test.YtmfmgnpefjmieaaZFnTablesWTab
namespace Go.Proofs.YtmfmgnpefjmieaaW.PrintLast
section
variable {P : Program} {ops : Array Oper} {Q : Exit → Act → World → Prop} {md : Region.Mode} {S : World → Prop} {ds : List Nat} {T : Bool × List (List Nat × List Nat)}
end
end Go.Proofs.YtmfmgnpefjmieaaW.PrintLast
