/- Proved here: BothTable of the program returns what BothTable of the reference returns, for every two Votes; no condition. -/
import Derived.Test.YthfkgbkhkahmdaaLFnExactBothTable
namespace Go.Proofs.Ythfkgbkhkahmdaa.Pure
open Go Go.RowKit Go.Proofs.Ythfkgbkhkahmdaa.Base Go.Proofs.Ythfkgbkhkahmdaa.PFnExactBothTable Go.Proofs.YthfkgbkhkahmdaaW.PrintWords Go.Proofs.YthfkgbkhkahmdaaW.PrintLast

theorem FnExactBothTable : ∀ (l0_0 : List Int) (a0_1 : Int) (l1_0 : List Int) (a1_1 : Int), l0_0.length ≤ maxLen → (∀ x ∈ l0_0, (Lit.int .i64 x).wf = true) → (Lit.int .i64 a0_1).wf = true → l1_0.length ≤ maxLen → (∀ x ∈ l1_0, (Lit.int .i64 x).wf = true) → (Lit.int .i64 a1_1).wf = true → ∃ k, laws_FnExactBothTable.f k l0_0 a0_1 l1_0 a1_1 = some true := by
  intro l q l' q' hl _ _ hl' _ _
  exact (LFnExactBothTable.law l q l' q' hl hl').rounds
end Go.Proofs.Ythfkgbkhkahmdaa.Pure
