/- Proved here: InfluencesOf of the program returns what InfluencesOf of the reference returns, for every number and every list; no condition. -/
import Derived.Test.YtocmmbnndieknaaLFnExactInfluencesOf
namespace Go.Proofs.Ytocmmbnndieknaa.Pure
open Go Go.RowKit Go.Proofs.Ytocmmbnndieknaa.Base Go.Proofs.Ytocmmbnndieknaa.PFnExactInfluencesOf Go.Proofs.YtocmmbnndieknaaW.PrintWords Go.Proofs.YtocmmbnndieknaaW.PrintLast

theorem FnExactInfluencesOf : laws_FnExactInfluencesOf.Pure := by
  intro n l _ _ _ _
  exact (LFnExactInfluencesOf.law n l).rounds
end Go.Proofs.Ytocmmbnndieknaa.Pure
