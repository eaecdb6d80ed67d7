/- Proved here: CountThresholds of the program returns what CountThresholds of the reference returns, for every number; no condition. -/
import Derived.Test.YthfkgbkhkahmdaaLFnExactCountThresholds
namespace Go.Proofs.Ythfkgbkhkahmdaa.Pure
open Go Go.RowKit Go.Proofs.Ythfkgbkhkahmdaa.Base Go.Proofs.Ythfkgbkhkahmdaa.PFnExactCountThresholds Go.Proofs.YthfkgbkhkahmdaaW.PrintWords Go.Proofs.YthfkgbkhkahmdaaW.PrintLast

theorem FnExactCountThresholds : laws_FnExactCountThresholds.Pure := by
  intro n _
  exact (LFnExactCountThresholds.law n).rounds
end Go.Proofs.Ythfkgbkhkahmdaa.Pure
