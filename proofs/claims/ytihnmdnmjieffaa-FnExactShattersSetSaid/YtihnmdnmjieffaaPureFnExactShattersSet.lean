/- Proved here: ShattersSet of the program returns what ShattersSet of the reference returns, for every list of lists and every list; no condition. -/
import Derived.Test.YtihnmdnmjieffaaLFnExactShattersSet
namespace Go.Proofs.Ytihnmdnmjieffaa.Pure
open Go Go.RowKit Go.Proofs.Ytihnmdnmjieffaa.Base Go.Proofs.Ytihnmdnmjieffaa.PFnExactShattersSet Go.Proofs.YtihnmdnmjieffaaW.PrintWords Go.Proofs.YtihnmdnmjieffaaW.PrintLast

theorem FnExactShattersSet : ∀ (l0 : List (List Int)) (l1 : List Int), l0.length ≤ maxLen → (∀ r ∈ l0, r.length ≤ maxLen ∧ ∀ x ∈ r, (Lit.int .i64 x).wf = true) → l1.length ≤ maxLen → (∀ x ∈ l1, (Lit.int .i64 x).wf = true) → ∃ k, laws_FnExactShattersSet.f k l0 l1 = some true := by
  intro c s hc hr _ _
  exact (LFnExactShattersSet.law c s hc (fun r h => (hr r h).1)).rounds
end Go.Proofs.Ytihnmdnmjieffaa.Pure
