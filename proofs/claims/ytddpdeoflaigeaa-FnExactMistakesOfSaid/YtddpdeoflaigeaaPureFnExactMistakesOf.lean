/- Proved here: MistakesOf of the program returns what MistakesOf of the reference returns, for every Sample and every Plane; no condition. -/
import Derived.Test.YtddpdeoflaigeaaLFnExactMistakesOf
namespace Go.Proofs.Ytddpdeoflaigeaa.Pure
open Go Go.RowKit Go.Proofs.Ytddpdeoflaigeaa.Base Go.Proofs.Ytddpdeoflaigeaa.PFnExactMistakesOf Go.Proofs.YtddpdeoflaigeaaW.PrintWords Go.Proofs.YtddpdeoflaigeaaW.PrintLast

theorem FnExactMistakesOf : ∀ (l0_0 : List (List Int)) (l0_1 : List Int) (l1_0 : List Int) (a1_1 : Int), l0_0.length ≤ maxLen → (∀ r ∈ l0_0, r.length ≤ maxLen ∧ ∀ x ∈ r, (Lit.int .i64 x).wf = true) → l0_1.length ≤ maxLen → (∀ x ∈ l0_1, (Lit.int .i64 x).wf = true) → l1_0.length ≤ maxLen → (∀ x ∈ l1_0, (Lit.int .i64 x).wf = true) → (Lit.int .i64 a1_1).wf = true → ∃ k, laws_FnExactMistakesOf.f k l0_0 l0_1 l1_0 a1_1 = some true := by
  intro p y l b hp hr hy _ hl _ _
  exact (LFnExactMistakesOf.law p y l b hp (fun r h => (hr r h).1) hy hl).rounds
end Go.Proofs.Ytddpdeoflaigeaa.Pure
