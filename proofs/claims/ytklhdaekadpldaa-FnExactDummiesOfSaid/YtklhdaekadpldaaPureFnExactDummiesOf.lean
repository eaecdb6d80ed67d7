/- Proved here: DummiesOf of the program returns what DummiesOf of the reference returns, for every Vote; no condition. -/
import Derived.Test.YtklhdaekadpldaaLFnExactDummiesOf
namespace Go.Proofs.Ytklhdaekadpldaa.Pure
open Go Go.RowKit Go.Proofs.Ytklhdaekadpldaa.Base Go.Proofs.Ytklhdaekadpldaa.PFnExactDummiesOf Go.Proofs.YtklhdaekadpldaaW.PrintWords Go.Proofs.YtklhdaekadpldaaW.PrintLast

theorem FnExactDummiesOf : ∀ (l0_0 : List Int) (a0_1 : Int), l0_0.length ≤ maxLen → (∀ x ∈ l0_0, (Lit.int .i64 x).wf = true) → (Lit.int .i64 a0_1).wf = true → ∃ k, laws_FnExactDummiesOf.f k l0_0 a0_1 = some true := by
  intro l q hl _ _
  exact (LFnExactDummiesOf.law l q hl).rounds
end Go.Proofs.Ytklhdaekadpldaa.Pure
