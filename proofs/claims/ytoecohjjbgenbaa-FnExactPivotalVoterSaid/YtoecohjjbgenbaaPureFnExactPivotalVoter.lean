/- Proved here: PivotalVoter of the program returns what PivotalVoter of the reference returns, for every Vote and every list; no condition. -/
import Derived.Test.YtoecohjjbgenbaaLFnExactPivotalVoter
namespace Go.Proofs.Ytoecohjjbgenbaa.Pure
open Go Go.RowKit Go.Proofs.Ytoecohjjbgenbaa.Base Go.Proofs.Ytoecohjjbgenbaa.PFnExactPivotalVoter Go.Proofs.YtoecohjjbgenbaaW.PrintWords Go.Proofs.YtoecohjjbgenbaaW.PrintLast

theorem FnExactPivotalVoter : ∀ (l0_0 : List Int) (a0_1 : Int) (l1 : List Int), l0_0.length ≤ maxLen → (∀ x ∈ l0_0, (Lit.int .i64 x).wf = true) → (Lit.int .i64 a0_1).wf = true → l1.length ≤ maxLen → (∀ x ∈ l1, (Lit.int .i64 x).wf = true) → ∃ k, laws_FnExactPivotalVoter.f k l0_0 a0_1 l1 = some true := by
  intro l q o hl _ _ _ _
  exact (LFnExactPivotalVoter.law l q o hl).rounds
end Go.Proofs.Ytoecohjjbgenbaa.Pure
