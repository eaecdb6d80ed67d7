-- Own cut of words that the kit's print.sh has printed, and of own lemmas.
import Derived.Test.YtmfmgnpefjmieaaZFnTablesWN
namespace Go.Proofs.YtmfmgnpefjmieaaW.PrintWords
open Go.RowKit
namespace Kd
section
variable {α : Type} {d : Kd α} {W : World} {g n : Nat} {S ok : Nat → Prop} {A : Option Addr} {ad : Addr} {xs : List α}
end
end Kd
end Go.Proofs.YtmfmgnpefjmieaaW.PrintWords
