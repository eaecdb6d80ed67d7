/- Proved here: SplitVoter of the program returns what SplitVoter of the reference returns, for every Vote and every two numbers; no condition. -/
import Derived.Test.YtocmmbnndieknaaLFnExactSplitVoter
namespace Go.Proofs.Ytocmmbnndieknaa.Pure
open Go Go.RowKit Go.Proofs.Ytocmmbnndieknaa.Base Go.Proofs.Ytocmmbnndieknaa.PFnExactSplitVoter Go.Proofs.YtocmmbnndieknaaW.PrintWords Go.Proofs.YtocmmbnndieknaaW.PrintLast

theorem FnExactSplitVoter : ∀ (l0_0 : List Int) (a0_1 : Int) (a1 : Int) (a2 : Int), l0_0.length ≤ maxLen → (∀ x ∈ l0_0, (Lit.int .i64 x).wf = true) → (Lit.int .i64 a0_1).wf = true → (Lit.int .i64 a1).wf = true → (Lit.int .i64 a2).wf = true → ∃ k, laws_FnExactSplitVoter.f k l0_0 a0_1 a1 a2 = some true := by
  intro l q i p hl _ _ _ _
  exact (LFnExactSplitVoter.law l q i p hl).rounds
end Go.Proofs.Ytocmmbnndieknaa.Pure
