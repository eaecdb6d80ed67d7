/- Proved here: FlipBits of the program returns what FlipBits of the reference returns, for every number and every two lists; no condition. -/
import Derived.Test.YtocmmbnndieknaaLFnExactFlipBits
namespace Go.Proofs.Ytocmmbnndieknaa.Pure
open Go Go.RowKit Go.Proofs.Ytocmmbnndieknaa.Base Go.Proofs.Ytocmmbnndieknaa.PFnExactFlipBits Go.Proofs.YtocmmbnndieknaaW.PrintWords Go.Proofs.YtocmmbnndieknaaW.PrintLast

theorem FnExactFlipBits : laws_FnExactFlipBits.Pure := by
  intro n l1 l2 _ _ _ _ _ _ _
  exact (LFnExactFlipBits.law n l1 l2).rounds
end Go.Proofs.Ytocmmbnndieknaa.Pure
