/- Proved here: TeachingSet of the program returns what TeachingSet of the reference returns, for every list of lists and every number; no condition. -/
import Derived.Test.YtddpdeoflaigeaaLFnExactTeachingSet
namespace Go.Proofs.Ytddpdeoflaigeaa.Pure
open Go Go.RowKit Go.Proofs.Ytddpdeoflaigeaa.Base Go.Proofs.Ytddpdeoflaigeaa.PFnExactTeachingSet Go.Proofs.YtddpdeoflaigeaaW.PrintWords Go.Proofs.YtddpdeoflaigeaaW.PrintLast

theorem FnExactTeachingSet : ∀ (l0 : List (List Int)) (a1 : Int), l0.length ≤ maxLen → (∀ r ∈ l0, r.length ≤ maxLen ∧ ∀ x ∈ r, (Lit.int .i64 x).wf = true) → (Lit.int .i64 a1).wf = true → ∃ k, laws_FnExactTeachingSet.f k l0 a1 = some true := by
  intro c i hc hr _
  exact (LFnExactTeachingSet.law c i hc (fun r h => (hr r h).1)).rounds
end Go.Proofs.Ytddpdeoflaigeaa.Pure
