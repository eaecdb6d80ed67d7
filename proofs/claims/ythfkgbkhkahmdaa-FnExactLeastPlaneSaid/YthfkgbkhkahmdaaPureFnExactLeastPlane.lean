/- Proved here: LeastPlane of the program returns what LeastPlane of the reference returns, for every number and every list; no condition. -/
import Derived.Test.YthfkgbkhkahmdaaLFnExactLeastPlane
namespace Go.Proofs.Ythfkgbkhkahmdaa.Pure
open Go Go.RowKit Go.Proofs.Ythfkgbkhkahmdaa.Base Go.Proofs.Ythfkgbkhkahmdaa.PFnExactLeastPlane Go.Proofs.YthfkgbkhkahmdaaW.PrintWords Go.Proofs.YthfkgbkhkahmdaaW.PrintLast

theorem FnExactLeastPlane : laws_FnExactLeastPlane.Pure := by
  intro n l _ _ _ _
  exact (LFnExactLeastPlane.law n l).rounds
end Go.Proofs.Ythfkgbkhkahmdaa.Pure
