/- Proved here: VoteTable of the program returns what VoteTable of the reference returns, for every Vote; no condition. -/
import Derived.Test.YtheohibankpfeaaLFnExactVoteTable
namespace Go.Proofs.Ytheohibankpfeaa.Pure
open Go Go.RowKit Go.Proofs.Ytheohibankpfeaa.Base Go.Proofs.Ytheohibankpfeaa.PFnExactVoteTable Go.Proofs.YtheohibankpfeaaW.PrintWords Go.Proofs.YtheohibankpfeaaW.PrintLast

theorem FnExactVoteTable : ∀ (l0_0 : List Int) (a0_1 : Int), l0_0.length ≤ maxLen → (∀ x ∈ l0_0, (Lit.int .i64 x).wf = true) → (Lit.int .i64 a0_1).wf = true → ∃ k, laws_FnExactVoteTable.f k l0_0 a0_1 = some true := by
  intro l q hl _ _
  exact (LFnExactVoteTable.law l q hl).rounds
end Go.Proofs.Ytheohibankpfeaa.Pure
