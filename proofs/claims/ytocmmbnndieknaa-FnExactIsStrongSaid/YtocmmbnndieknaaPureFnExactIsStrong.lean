/- Proved here: IsStrong of the program returns what IsStrong of the reference returns, for every Vote; no condition. -/
import Derived.Test.YtocmmbnndieknaaLFnExactIsStrong
namespace Go.Proofs.Ytocmmbnndieknaa.Pure
open Go Go.RowKit Go.Proofs.Ytocmmbnndieknaa.Base Go.Proofs.Ytocmmbnndieknaa.PFnExactIsStrong Go.Proofs.YtocmmbnndieknaaW.PrintWords Go.Proofs.YtocmmbnndieknaaW.PrintLast

theorem FnExactIsStrong : ∀ (l0_0 : List Int) (a0_1 : Int), l0_0.length ≤ maxLen → (∀ x ∈ l0_0, (Lit.int .i64 x).wf = true) → (Lit.int .i64 a0_1).wf = true → ∃ k, laws_FnExactIsStrong.f k l0_0 a0_1 = some true := by
  intro l q hl _ _
  exact (LFnExactIsStrong.law l q hl).rounds
end Go.Proofs.Ytocmmbnndieknaa.Pure
