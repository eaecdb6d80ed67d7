-- Own text.
import Derived.Test.YtgidnmpppbkamaaLFnExactPlaneClass
namespace Go.Proofs.Ytgidnmpppbkamaa.Pure
open Go Go.RowKit Go.Proofs.Ytgidnmpppbkamaa.Base Go.Proofs.Ytgidnmpppbkamaa.PFnExactPlaneClass Go.Proofs.YtgidnmpppbkamaaW.PrintWords Go.Proofs.YtgidnmpppbkamaaW.PrintLast
theorem FnExactPlaneClass : ∀ (l0 : List (List Int)), l0.length ≤ maxLen → (∀ r ∈ l0, r.length ≤ maxLen ∧ ∀ x ∈ r, (Lit.int .i64 x).wf = true) → ∃ k, laws_FnExactPlaneClass.f k l0 = some true := by
 intro c hc hr
 exact (LFnExactPlaneClass.law c hc fun r h => (hr r h).1).rounds
end Go.Proofs.Ytgidnmpppbkamaa.Pure
