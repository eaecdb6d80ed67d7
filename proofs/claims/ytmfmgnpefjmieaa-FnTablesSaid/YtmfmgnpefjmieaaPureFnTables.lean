-- Own text.
import Derived.Test.YtmfmgnpefjmieaaLFnTables
namespace Go.Proofs.Ytmfmgnpefjmieaa.Pure
open Go Go.RowKit Go.Proofs.Ytmfmgnpefjmieaa.Base Go.Proofs.Ytmfmgnpefjmieaa.PFnTables Go.Proofs.YtmfmgnpefjmieaaW.PrintWords Go.Proofs.YtmfmgnpefjmieaaW.PrintLast
theorem FnTables : laws_FnTables.Pure := by
 intro l0 h1 h2 hb
 exact (LFnTables.law l0 hb).rounds
end Go.Proofs.Ytmfmgnpefjmieaa.Pure
