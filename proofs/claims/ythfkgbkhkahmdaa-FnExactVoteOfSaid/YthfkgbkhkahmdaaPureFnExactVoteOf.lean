/- Proved here: VoteOf of the program returns what VoteOf of the reference returns, for every number and every list; no condition. -/
import Derived.Test.YthfkgbkhkahmdaaLFnExactVoteOf
namespace Go.Proofs.Ythfkgbkhkahmdaa.Pure
open Go Go.RowKit Go.Proofs.Ythfkgbkhkahmdaa.Base Go.Proofs.Ythfkgbkhkahmdaa.PFnExactVoteOf Go.Proofs.YthfkgbkhkahmdaaW.PrintWords Go.Proofs.YthfkgbkhkahmdaaW.PrintLast

theorem FnExactVoteOf : laws_FnExactVoteOf.Pure := by
  intro n l _ _ _ _
  exact (LFnExactVoteOf.law n l).rounds
end Go.Proofs.Ythfkgbkhkahmdaa.Pure
