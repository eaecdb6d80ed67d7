/- Proved here: IsGame of the program returns what IsGame of the reference returns, for every number and every list; no condition. -/
import Derived.Test.YtocmmbnndieknaaLFnExactIsGame
namespace Go.Proofs.Ytocmmbnndieknaa.Pure
open Go Go.RowKit Go.Proofs.Ytocmmbnndieknaa.Base Go.Proofs.Ytocmmbnndieknaa.PFnExactIsGame Go.Proofs.YtocmmbnndieknaaW.PrintWords Go.Proofs.YtocmmbnndieknaaW.PrintLast

theorem FnExactIsGame : laws_FnExactIsGame.Pure := by
  intro n l _ _ _ _
  exact (LFnExactIsGame.law n l).rounds
end Go.Proofs.Ytocmmbnndieknaa.Pure
