/- Proved here: MergeVoters of the program returns what MergeVoters of the reference returns, for every Vote and every two numbers; no condition. -/
import Derived.Test.YtheohibankpfeaaLFnExactMergeVoters
namespace Go.Proofs.Ytheohibankpfeaa.Pure
open Go Go.RowKit Go.Proofs.Ytheohibankpfeaa.Base Go.Proofs.Ytheohibankpfeaa.PFnExactMergeVoters Go.Proofs.YtheohibankpfeaaW.PrintWords Go.Proofs.YtheohibankpfeaaW.PrintLast

theorem FnExactMergeVoters : ∀ (l0_0 : List Int) (a0_1 : Int) (a1 : Int) (a2 : Int), l0_0.length ≤ maxLen → (∀ x ∈ l0_0, (Lit.int .i64 x).wf = true) → (Lit.int .i64 a0_1).wf = true → (Lit.int .i64 a1).wf = true → (Lit.int .i64 a2).wf = true → ∃ k, laws_FnExactMergeVoters.f k l0_0 a0_1 a1 a2 = some true := by
  intro l q i j hl _ _ _ _
  exact (LFnExactMergeVoters.law l q i j hl).rounds
end Go.Proofs.Ytheohibankpfeaa.Pure
