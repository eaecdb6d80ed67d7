/- Proved here: PermuteBits of the program returns what PermuteBits of the reference returns, for every number and every two lists; no condition. -/
import Derived.Test.YtihnmdnmjieffaaLFnExactPermuteBits
namespace Go.Proofs.Ytihnmdnmjieffaa.Pure
open Go Go.RowKit Go.Proofs.Ytihnmdnmjieffaa.Base Go.Proofs.Ytihnmdnmjieffaa.PFnExactPermuteBits Go.Proofs.YtihnmdnmjieffaaW.PrintWords Go.Proofs.YtihnmdnmjieffaaW.PrintLast

theorem FnExactPermuteBits : laws_FnExactPermuteBits.Pure := by
  intro n l1 l2 _ _ _ _ _ _ _
  exact (LFnExactPermuteBits.law n l1 l2).rounds
end Go.Proofs.Ytihnmdnmjieffaa.Pure
