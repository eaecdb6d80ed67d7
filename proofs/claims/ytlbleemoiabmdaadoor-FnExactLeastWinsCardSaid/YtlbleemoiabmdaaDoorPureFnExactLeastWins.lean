/- Proved here: LeastWins of the program returns what LeastWins of the reference returns, for every Vote; no condition. -/
import Derived.Test.YtlbleemoiabmdaaDoorLFnExactLeastWins
namespace Go.Proofs.YtlbleemoiabmdaaDoor.Pure
open Go Go.RowKit Go.Proofs.YtlbleemoiabmdaaDoor.Base Go.Proofs.YtlbleemoiabmdaaDoor.PFnExactLeastWins Go.Proofs.YtlbleemoiabmdaaDoorW.PrintWords Go.Proofs.YtlbleemoiabmdaaDoorW.PrintLast

theorem FnExactLeastWins : laws_FnExactLeastWins.Pure := by
  intro l q hl _ _
  exact (LFnExactLeastWins.law l q hl).rounds
end Go.Proofs.YtlbleemoiabmdaaDoor.Pure
