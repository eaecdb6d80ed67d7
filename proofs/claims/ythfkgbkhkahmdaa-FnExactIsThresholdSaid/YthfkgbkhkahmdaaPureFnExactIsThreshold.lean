/- Proved here: IsThreshold of the program returns what IsThreshold of the reference returns, for every number and every list; no condition. -/
import Derived.Test.YthfkgbkhkahmdaaLFnExactIsThreshold
namespace Go.Proofs.Ythfkgbkhkahmdaa.Pure
open Go Go.RowKit Go.Proofs.Ythfkgbkhkahmdaa.Base Go.Proofs.Ythfkgbkhkahmdaa.PFnExactIsThreshold Go.Proofs.YthfkgbkhkahmdaaW.PrintWords Go.Proofs.YthfkgbkhkahmdaaW.PrintLast

theorem FnExactIsThreshold : laws_FnExactIsThreshold.Pure := by
  intro n l _ _ _ _
  exact (LFnExactIsThreshold.law n l).rounds
end Go.Proofs.Ythfkgbkhkahmdaa.Pure
