/- Proved here: IntervalClass of the program returns what IntervalClass of the reference returns, for every number; no condition. -/
import Derived.Test.YtddpdeoflaigeaaLFnExactIntervalClass
namespace Go.Proofs.Ytddpdeoflaigeaa.Pure
open Go Go.RowKit Go.Proofs.Ytddpdeoflaigeaa.Base Go.Proofs.Ytddpdeoflaigeaa.PFnExactIntervalClass Go.Proofs.YtddpdeoflaigeaaW.PrintWords Go.Proofs.YtddpdeoflaigeaaW.PrintLast

theorem FnExactIntervalClass : ∀ (a0 : Int), (Lit.int .i64 a0).wf = true → ∃ k, laws_FnExactIntervalClass.f k a0 = some true := by
  intro n _
  exact (LFnExactIntervalClass.law n).rounds
end Go.Proofs.Ytddpdeoflaigeaa.Pure
