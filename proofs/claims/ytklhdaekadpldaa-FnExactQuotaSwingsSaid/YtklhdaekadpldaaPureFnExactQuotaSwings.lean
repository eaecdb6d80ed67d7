/- Proved here: QuotaSwings of the program returns what QuotaSwings of the reference returns, for every Vote and every number; no condition. -/
import Derived.Test.YtklhdaekadpldaaLFnExactQuotaSwings
namespace Go.Proofs.Ytklhdaekadpldaa.Pure
open Go Go.RowKit Go.Proofs.Ytklhdaekadpldaa.Base Go.Proofs.Ytklhdaekadpldaa.PFnExactQuotaSwings Go.Proofs.YtklhdaekadpldaaW.PrintWords Go.Proofs.YtklhdaekadpldaaW.PrintLast

theorem FnExactQuotaSwings : ∀ (l0_0 : List Int) (a0_1 : Int) (a1 : Int), l0_0.length ≤ maxLen → (∀ x ∈ l0_0, (Lit.int .i64 x).wf = true) → (Lit.int .i64 a0_1).wf = true → (Lit.int .i64 a1).wf = true → ∃ k, laws_FnExactQuotaSwings.f k l0_0 a0_1 a1 = some true := by
  intro l q i hl _ _ _
  exact (LFnExactQuotaSwings.law l q i hl).rounds
end Go.Proofs.Ytklhdaekadpldaa.Pure
