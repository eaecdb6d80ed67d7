/- Proved here: PlaneTable of the program returns what PlaneTable of the reference returns, for every Plane; no condition. -/
import Derived.Test.YtheohibankpfeaaLFnExactPlaneTable
namespace Go.Proofs.Ytheohibankpfeaa.Pure
open Go Go.RowKit Go.Proofs.Ytheohibankpfeaa.Base Go.Proofs.Ytheohibankpfeaa.PFnExactPlaneTable Go.Proofs.YtheohibankpfeaaW.PrintWords Go.Proofs.YtheohibankpfeaaW.PrintLast

theorem FnExactPlaneTable : ∀ (l0_0 : List Int) (a0_1 : Int), l0_0.length ≤ maxLen → (∀ x ∈ l0_0, (Lit.int .i64 x).wf = true) → (Lit.int .i64 a0_1).wf = true → ∃ k, laws_FnExactPlaneTable.f k l0_0 a0_1 = some true := by
  intro l q hl _ _
  exact (LFnExactPlaneTable.law l q hl).rounds
end Go.Proofs.Ytheohibankpfeaa.Pure
