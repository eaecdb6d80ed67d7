/- Proved here: VersionOf of the program returns what VersionOf of the reference returns, for every list of lists and every two lists; no condition. -/
import Derived.Test.YtddpdeoflaigeaaLFnExactVersionOf
namespace Go.Proofs.Ytddpdeoflaigeaa.Pure
open Go Go.RowKit Go.Proofs.Ytddpdeoflaigeaa.Base Go.Proofs.Ytddpdeoflaigeaa.PFnExactVersionOf Go.Proofs.YtddpdeoflaigeaaW.PrintWords Go.Proofs.YtddpdeoflaigeaaW.PrintLast

theorem FnExactVersionOf : ∀ (l0 : List (List Int)) (l1 : List Int) (l2 : List Int), l0.length ≤ maxLen → (∀ r ∈ l0, r.length ≤ maxLen ∧ ∀ x ∈ r, (Lit.int .i64 x).wf = true) → l1.length ≤ maxLen → (∀ x ∈ l1, (Lit.int .i64 x).wf = true) → l2.length ≤ maxLen → (∀ x ∈ l2, (Lit.int .i64 x).wf = true) → ∃ k, laws_FnExactVersionOf.f k l0 l1 l2 = some true := by
  intro c s y hc hr _ _ _ _
  exact (LFnExactVersionOf.law c s y hc (fun r h => (hr r h).1)).rounds
end Go.Proofs.Ytddpdeoflaigeaa.Pure
