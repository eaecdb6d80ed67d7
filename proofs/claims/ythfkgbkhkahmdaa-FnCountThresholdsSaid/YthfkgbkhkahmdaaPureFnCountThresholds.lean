/- Proved here: for every list of bytes the law FnCountThresholds holds: what is drawn is counted alike by the program and the reference, and up to two bits the threshold tables are as many as the tables without a trade. -/
import Derived.Test.YthfkgbkhkahmdaaLFnCountThresholds
namespace Go.Proofs.Ythfkgbkhkahmdaa.Pure
open Go Go.RowKit Go.Proofs.Ythfkgbkhkahmdaa.Base Go.Proofs.Ythfkgbkhkahmdaa.PFnCountThresholds Go.Proofs.YthfkgbkhkahmdaaW.PrintWords Go.Proofs.YthfkgbkhkahmdaaW.PrintLast

theorem FnCountThresholds : laws_FnCountThresholds.Pure := by
  intro l _ _ hb
  exact (LFnCountThresholds.law l hb).rounds
end Go.Proofs.Ythfkgbkhkahmdaa.Pure
