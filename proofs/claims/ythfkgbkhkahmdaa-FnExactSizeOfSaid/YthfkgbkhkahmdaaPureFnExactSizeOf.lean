/- Proved here: SizeOf of the program returns what SizeOf of the reference returns, for every number and every list; no condition. -/
import Derived.Test.YthfkgbkhkahmdaaLFnExactSizeOf
namespace Go.Proofs.Ythfkgbkhkahmdaa.Pure
open Go Go.RowKit Go.Proofs.Ythfkgbkhkahmdaa.Base Go.Proofs.Ythfkgbkhkahmdaa.PFnExactSizeOf Go.Proofs.YthfkgbkhkahmdaaW.PrintWords Go.Proofs.YthfkgbkhkahmdaaW.PrintLast

theorem FnExactSizeOf : laws_FnExactSizeOf.Pure := by
  intro n l _ _ _ _
  exact (LFnExactSizeOf.law n l).rounds
end Go.Proofs.Ythfkgbkhkahmdaa.Pure
