-- Own text.
import Derived.Test.YtoecohjjbgenbaaLFnVoters
namespace Go.Proofs.Ytoecohjjbgenbaa.Pure
open Go Go.RowKit Go.Proofs.Ytoecohjjbgenbaa.Base Go.Proofs.Ytoecohjjbgenbaa.PFnVoters Go.Proofs.YtoecohjjbgenbaaW.PrintWords Go.Proofs.YtoecohjjbgenbaaW.PrintLast
theorem FnVoters : laws_FnVoters.Pure := by
 intro l0 _ _ hb
 exact (LFnVoters.law l0 hb).rounds
end Go.Proofs.Ytoecohjjbgenbaa.Pure
