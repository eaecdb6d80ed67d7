/- Proved here: LeastWins of the program returns what LeastWins of the reference returns, for every Vote; no condition. -/
import Derived.Test.YtlbleemoiabmdaaDoorLFnExactLeastWins
namespace Go.Proofs.YtlbleemoiabmdaaDoor.Pure
open Go Go.RowKit Go.Proofs.YtlbleemoiabmdaaDoor.Base Go.Proofs.YtlbleemoiabmdaaDoor.PFnExactLeastWins Go.Proofs.YtlbleemoiabmdaaDoorW.PrintWords Go.Proofs.YtlbleemoiabmdaaDoorW.PrintLast

theorem FnExactLeastWins : ∀ (l0_0 : List Int) (a0_1 : Int), l0_0.length ≤ maxLen → (∀ x ∈ l0_0, (Lit.int .i64 x).wf = true) → (Lit.int .i64 a0_1).wf = true → ∃ k, laws_FnExactLeastWins.f k l0_0 a0_1 = some true := by
  intro l q hl _ _
  exact (LFnExactLeastWins.law l q hl).rounds
end Go.Proofs.YtlbleemoiabmdaaDoor.Pure
