-- Own text.
import Derived.Test.YtgidnmpppbkamaaLFnExactIsWeighted
namespace Go.Proofs.Ytgidnmpppbkamaa.Pure
open Go Go.RowKit Go.Proofs.Ytgidnmpppbkamaa.Base Go.Proofs.Ytgidnmpppbkamaa.PFnExactIsWeighted Go.Proofs.YtgidnmpppbkamaaW.PrintWords Go.Proofs.YtgidnmpppbkamaaW.PrintLast
theorem FnExactIsWeighted : laws_FnExactIsWeighted.Pure := by
 intro n l _ _ _ _
 exact (LFnExactIsWeighted.law n l).rounds
end Go.Proofs.Ytgidnmpppbkamaa.Pure
