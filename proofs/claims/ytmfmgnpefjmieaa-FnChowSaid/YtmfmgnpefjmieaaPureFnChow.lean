-- Own text.
import Derived.Test.YtmfmgnpefjmieaaLFnChow
namespace Go.Proofs.Ytmfmgnpefjmieaa.Pure
open Go Go.RowKit Go.Proofs.Ytmfmgnpefjmieaa.Base Go.Proofs.Ytmfmgnpefjmieaa.PFnChow Go.Proofs.YtmfmgnpefjmieaaW.PrintWords Go.Proofs.YtmfmgnpefjmieaaW.PrintLast
theorem FnChow : laws_FnChow.Pure := by
 intro l0 h1 h2 hb
 exact (LFnChow.law l0 hb).rounds
end Go.Proofs.Ytmfmgnpefjmieaa.Pure
