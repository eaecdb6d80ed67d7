/- Proved here: OrderCounts of the program returns what OrderCounts of the reference returns, for every Vote; no condition. -/
import Derived.Test.YtklhdaekadpldaaLFnExactOrderCounts
namespace Go.Proofs.Ytklhdaekadpldaa.Pure
open Go Go.RowKit Go.Proofs.Ytklhdaekadpldaa.Base Go.Proofs.Ytklhdaekadpldaa.PFnExactOrderCounts Go.Proofs.YtklhdaekadpldaaW.PrintWords Go.Proofs.YtklhdaekadpldaaW.PrintLast

theorem FnExactOrderCounts : ∀ (l0_0 : List Int) (a0_1 : Int), l0_0.length ≤ maxLen → (∀ x ∈ l0_0, (Lit.int .i64 x).wf = true) → (Lit.int .i64 a0_1).wf = true → ∃ k, laws_FnExactOrderCounts.f k l0_0 a0_1 = some true := by
  intro l q hl _ _
  exact (LFnExactOrderCounts.law l q hl).rounds
end Go.Proofs.Ytklhdaekadpldaa.Pure
