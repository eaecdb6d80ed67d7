/- Proved here: FindTrade of the program returns what FindTrade of the reference returns, for every number and every list; no condition. -/
import Derived.Test.YtocmmbnndieknaaLFnExactFindTrade
namespace Go.Proofs.Ytocmmbnndieknaa.Pure
open Go Go.RowKit Go.Proofs.Ytocmmbnndieknaa.Base Go.Proofs.Ytocmmbnndieknaa.PFnExactFindTrade Go.Proofs.YtocmmbnndieknaaW.PrintWords Go.Proofs.YtocmmbnndieknaaW.PrintLast

theorem FnExactFindTrade : laws_FnExactFindTrade.Pure := by
  intro n l _ _ _ _
  exact (LFnExactFindTrade.law n l).rounds
end Go.Proofs.Ytocmmbnndieknaa.Pure
