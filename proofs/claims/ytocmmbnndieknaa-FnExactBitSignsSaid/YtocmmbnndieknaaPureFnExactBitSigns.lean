/- Proved here: BitSigns of the program returns what BitSigns of the reference returns, for every number and every list; no condition. -/
import Derived.Test.YtocmmbnndieknaaLFnExactBitSigns
namespace Go.Proofs.Ytocmmbnndieknaa.Pure
open Go Go.RowKit Go.Proofs.Ytocmmbnndieknaa.Base Go.Proofs.Ytocmmbnndieknaa.PFnExactBitSigns Go.Proofs.YtocmmbnndieknaaW.PrintWords Go.Proofs.YtocmmbnndieknaaW.PrintLast

theorem FnExactBitSigns : laws_FnExactBitSigns.Pure := by
  intro n l _ _ _ _
  exact (LFnExactBitSigns.law n l).rounds
end Go.Proofs.Ytocmmbnndieknaa.Pure
