/- Proved here: SwingCounts of the program returns what SwingCounts of the reference returns, for every Vote; no condition. -/
import Derived.Test.YtklhdaekadpldaaLFnExactSwingCounts
namespace Go.Proofs.Ytklhdaekadpldaa.Pure
open Go Go.RowKit Go.Proofs.Ytklhdaekadpldaa.Base Go.Proofs.Ytklhdaekadpldaa.PFnExactSwingCounts Go.Proofs.YtklhdaekadpldaaW.PrintWords Go.Proofs.YtklhdaekadpldaaW.PrintLast

theorem FnExactSwingCounts : ∀ (l0_0 : List Int) (a0_1 : Int), l0_0.length ≤ maxLen → (∀ x ∈ l0_0, (Lit.int .i64 x).wf = true) → (Lit.int .i64 a0_1).wf = true → ∃ k, laws_FnExactSwingCounts.f k l0_0 a0_1 = some true := by
  intro l q hl _ _
  exact (LFnExactSwingCounts.law l q hl).rounds
end Go.Proofs.Ytklhdaekadpldaa.Pure
