/- Proved here: IsClass of the program returns what IsClass of the reference returns, for every list of lists; no condition. -/
import Derived.Test.YtheohibankpfeaaLFnExactIsClass
namespace Go.Proofs.Ytheohibankpfeaa.Pure
open Go Go.RowKit Go.Proofs.Ytheohibankpfeaa.Base Go.Proofs.Ytheohibankpfeaa.PFnExactIsClass Go.Proofs.YtheohibankpfeaaW.PrintWords Go.Proofs.YtheohibankpfeaaW.PrintLast

theorem FnExactIsClass : ∀ (l0 : List (List Int)), l0.length ≤ maxLen → (∀ r ∈ l0, r.length ≤ maxLen ∧ ∀ x ∈ r, (Lit.int .i64 x).wf = true) → ∃ k, laws_FnExactIsClass.f k l0 = some true := by
  intro l hl hr
  exact (LFnExactIsClass.law l hl (fun r h => (hr r h).1)).rounds
end Go.Proofs.Ytheohibankpfeaa.Pure
