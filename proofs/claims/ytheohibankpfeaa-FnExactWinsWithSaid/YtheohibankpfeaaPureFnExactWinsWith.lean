/- Proved here: WinsWith of the program returns what WinsWith of the reference returns, for every Vote and every list; no condition. -/
import Derived.Test.YtheohibankpfeaaLFnExactWinsWith
namespace Go.Proofs.Ytheohibankpfeaa.Pure
open Go Go.RowKit Go.Proofs.Ytheohibankpfeaa.Base Go.Proofs.Ytheohibankpfeaa.PFnExactWinsWith Go.Proofs.YtheohibankpfeaaW.PrintWords Go.Proofs.YtheohibankpfeaaW.PrintLast

theorem FnExactWinsWith : ∀ (l0_0 : List Int) (a0_1 : Int) (l1 : List Int), l0_0.length ≤ maxLen → (∀ x ∈ l0_0, (Lit.int .i64 x).wf = true) → (Lit.int .i64 a0_1).wf = true → l1.length ≤ maxLen → (∀ x ∈ l1, (Lit.int .i64 x).wf = true) → ∃ k, laws_FnExactWinsWith.f k l0_0 a0_1 l1 = some true := by
  intro l q s hl _ _ _ _
  exact (LFnExactWinsWith.law l q s hl).rounds
end Go.Proofs.Ytheohibankpfeaa.Pure
