-- Own text.
import Derived.Test.YtmfmgnpefjmieaaLFnThresholdTables
namespace Go.Proofs.Ytmfmgnpefjmieaa.Pure
open Go Go.RowKit Go.Proofs.Ytmfmgnpefjmieaa.Base Go.Proofs.Ytmfmgnpefjmieaa.PFnThresholdTables Go.Proofs.YtmfmgnpefjmieaaW.PrintWords Go.Proofs.YtmfmgnpefjmieaaW.PrintLast
theorem FnThresholdTables : laws_FnThresholdTables.Pure := by
 intro l0 h1 h2 hb
 exact (LFnThresholdTables.law l0 hb).rounds
end Go.Proofs.Ytmfmgnpefjmieaa.Pure
