/- Proved here: IsProper of the program returns what IsProper of the reference returns, for every Vote; no condition. -/
import Derived.Test.YtocmmbnndieknaaLFnExactIsProper
namespace Go.Proofs.Ytocmmbnndieknaa.Pure
open Go Go.RowKit Go.Proofs.Ytocmmbnndieknaa.Base Go.Proofs.Ytocmmbnndieknaa.PFnExactIsProper Go.Proofs.YtocmmbnndieknaaW.PrintWords Go.Proofs.YtocmmbnndieknaaW.PrintLast

theorem FnExactIsProper : ∀ (l0_0 : List Int) (a0_1 : Int), l0_0.length ≤ maxLen → (∀ x ∈ l0_0, (Lit.int .i64 x).wf = true) → (Lit.int .i64 a0_1).wf = true → ∃ k, laws_FnExactIsProper.f k l0_0 a0_1 = some true := by
  intro l q hl _ _
  exact (LFnExactIsProper.law l q hl).rounds
end Go.Proofs.Ytocmmbnndieknaa.Pure
