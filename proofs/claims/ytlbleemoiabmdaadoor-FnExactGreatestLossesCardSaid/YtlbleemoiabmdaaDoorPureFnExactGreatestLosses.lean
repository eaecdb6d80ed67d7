/- Proved here: GreatestLosses of the program returns what GreatestLosses of the reference returns, for every Vote; no condition. -/
import Derived.Test.YtlbleemoiabmdaaDoorLFnExactGreatestLosses
namespace Go.Proofs.YtlbleemoiabmdaaDoor.Pure
open Go Go.RowKit Go.Proofs.YtlbleemoiabmdaaDoor.Base Go.Proofs.YtlbleemoiabmdaaDoor.PFnExactGreatestLosses Go.Proofs.YtlbleemoiabmdaaDoorW.PrintWords Go.Proofs.YtlbleemoiabmdaaDoorW.PrintLast

theorem FnExactGreatestLosses : ∀ (l0_0 : List Int) (a0_1 : Int), l0_0.length ≤ maxLen → (∀ x ∈ l0_0, (Lit.int .i64 x).wf = true) → (Lit.int .i64 a0_1).wf = true → ∃ k, laws_FnExactGreatestLosses.f k l0_0 a0_1 = some true := by
  intro l q hl _ _
  exact (LFnExactGreatestLosses.law l q hl).rounds
end Go.Proofs.YtlbleemoiabmdaaDoor.Pure
