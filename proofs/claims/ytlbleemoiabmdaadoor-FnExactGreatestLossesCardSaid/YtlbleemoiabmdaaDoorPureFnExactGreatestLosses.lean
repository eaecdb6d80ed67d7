/- Proved here: GreatestLosses of the program returns what GreatestLosses of the reference returns, for every Vote; no condition. -/
import Derived.Test.YtlbleemoiabmdaaDoorLFnExactGreatestLosses
namespace Go.Proofs.YtlbleemoiabmdaaDoor.Pure
open Go Go.RowKit Go.Proofs.YtlbleemoiabmdaaDoor.Base Go.Proofs.YtlbleemoiabmdaaDoor.PFnExactGreatestLosses Go.Proofs.YtlbleemoiabmdaaDoorW.PrintWords Go.Proofs.YtlbleemoiabmdaaDoorW.PrintLast

theorem FnExactGreatestLosses : laws_FnExactGreatestLosses.Pure := by
  intro l q hl _ _
  exact (LFnExactGreatestLosses.law l q hl).rounds
end Go.Proofs.YtlbleemoiabmdaaDoor.Pure
