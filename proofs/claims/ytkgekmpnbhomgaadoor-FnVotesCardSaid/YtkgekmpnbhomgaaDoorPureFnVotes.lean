-- Own text.
import Derived.Test.YtkgekmpnbhomgaaDoorLFnVotes
namespace Go.Proofs.YtkgekmpnbhomgaaDoor.Pure
open Go Go.RowKit Go.Proofs.YtkgekmpnbhomgaaDoor.Base Go.Proofs.YtkgekmpnbhomgaaDoor.PFnVotes Go.Proofs.YtkgekmpnbhomgaaDoorW.PrintWords Go.Proofs.YtkgekmpnbhomgaaDoorW.PrintLast
theorem FnVotes : ∀ (l0 : List Int), l0.length ≤ maxLen → (∀ x ∈ l0, (Lit.int .u8 x).wf = true) → ∃ k, laws_FnVotes.f k l0 = some true := by
 intro l0 h1 hb
 exact (LFnVotes.law l0 hb).rounds
end Go.Proofs.YtkgekmpnbhomgaaDoor.Pure
