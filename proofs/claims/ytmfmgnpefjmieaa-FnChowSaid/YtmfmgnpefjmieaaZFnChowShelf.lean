-- Own cut of words that the kit's print.sh has printed, and of own lemmas.
import Derived.Shelf.Small.Bits
import Derived.Shelf.Strconv.Itoa0
import Derived.Ground.Names2Prog
import Derived.Shelf.Slices.SearchI
import Derived.Test.YtmfmgnpefjmieaaProg
namespace Go.Proofs
open Go.Shelf
end Go.Proofs
