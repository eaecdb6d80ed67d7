/- Proved here: FirstQuestion of the program returns what FirstQuestion of the reference returns, for every list of lists; no condition. -/
import Derived.Test.YtddpdeoflaigeaaLFnExactFirstQuestion
namespace Go.Proofs.Ytddpdeoflaigeaa.Pure
open Go Go.RowKit Go.Proofs.Ytddpdeoflaigeaa.Base Go.Proofs.Ytddpdeoflaigeaa.PFnExactFirstQuestion Go.Proofs.YtddpdeoflaigeaaW.PrintWords Go.Proofs.YtddpdeoflaigeaaW.PrintLast

theorem FnExactFirstQuestion : ∀ (l0 : List (List Int)), l0.length ≤ maxLen → (∀ r ∈ l0, r.length ≤ maxLen ∧ ∀ x ∈ r, (Lit.int .i64 x).wf = true) → ∃ k, laws_FnExactFirstQuestion.f k l0 = some true := by
  intro c hc hr
  exact (LFnExactFirstQuestion.law c hc (fun r h => (hr r h).1)).rounds
end Go.Proofs.Ytddpdeoflaigeaa.Pure
