-- Laid for this claim by a program of the session's own (wip/tool/myprint.py).
import Derived.Test.YtkgekmpnbhomgaaDoorMFnVotesx0
import Derived.Test.YtkgekmpnbhomgaaDoorMFnVotesx1
import Derived.Test.YtkgekmpnbhomgaaDoorMFnVotesx3
import Derived.Test.YtkgekmpnbhomgaaDoorMFnVotesx4
import Derived.Test.YtkgekmpnbhomgaaDoorMFnVotesx5
import Derived.Test.YtkgekmpnbhomgaaDoorMFnVotesx7
import Derived.Test.YtkgekmpnbhomgaaDoorMFnVotesx10
import Derived.Test.YtkgekmpnbhomgaaDoorMFnVotesx11
import Derived.Test.YtkgekmpnbhomgaaDoorMFnVotesx12
import Derived.Test.YtkgekmpnbhomgaaDoorMFnVotesx13
import Derived.Test.YtkgekmpnbhomgaaDoorMFnVotesx14
import Derived.Test.YtkgekmpnbhomgaaDoorMFnVotesx15
namespace Go.Proofs.YtkgekmpnbhomgaaDoor.PFnVotes
open Go.RowKit Go.Proofs.YtkgekmpnbhomgaaDoorW.PrintWords Go.Proofs.YtkgekmpnbhomgaaDoorW.PrintLast Go.Proofs.YtkgekmpnbhomgaaDoorW.PrintMore
attribute [local go_sem] max2_int min2_int max_two min_two max_three min_three max_four min_four
set_option linter.unusedVariables false
set_option linter.unusedSimpArgs false
mutual
def laws_FnVotes.j0 : Nat → List Int → Bool → Bool → Bool → List Int → Int → Option (Bool)
 | 0, _, _, _, _, _, _ => none
 | k + 1, x4, x5, x6, x75, x439000, x439001 => if x75 = true then (none) else ((impl_LeastWins.f k x439000 x439001).bind fun bt443 => ((spec_LeastWins.f k x439000 x439001).bind fun bt447 => (if (bt443.2 != bt447.2) = true then (laws_FnVotes.j1 k x4 x5 x6 bt443.1 bt443.2 true x439000 x439001) else ((impl_IsVote.f k x439000 x439001).bind fun t451 => (if (bt443.2 != t451) = true then (laws_FnVotes.j1 k x4 x5 x6 bt443.1 bt443.2 true x439000 x439001) else ((laws_rTable.f k bt443.1 bt447.1).bind fun t452 => (laws_FnVotes.j1 k x4 x5 x6 bt443.1 bt443.2 (!t452) x439000 x439001)))))))
def laws_FnVotes.j1 : Nat → List Int → Bool → Bool → List (List Int) → Bool → Bool → List Int → Int → Option (Bool)
 | 0, _, _, _, _, _, _, _, _ => none
 | k + 1, x4, x5, x6, x9, x10, x100, x439000, x439001 => if x100 = true then (none) else ((impl_GreatestLosses.f k x439000 x439001).bind fun bt453 => ((spec_GreatestLosses.f k x439000 x439001).bind fun bt457 => (if (bt453.2 != bt457.2) = true then (laws_FnVotes.j2 k x4 x5 x6 x9 x10 bt453.1 true x439000 x439001) else (if (bt453.2 != x10) = true then (laws_FnVotes.j2 k x4 x5 x6 x9 x10 bt453.1 true x439000 x439001) else ((laws_rTable.f k bt453.1 bt457.1).bind fun t461 => (laws_FnVotes.j2 k x4 x5 x6 x9 x10 bt453.1 (!t461) x439000 x439001))))))
def laws_FnVotes.j2 : Nat → List Int → Bool → Bool → List (List Int) → Bool → List (List Int) → Bool → List Int → Int → Option (Bool)
 | 0, _, _, _, _, _, _, _, _, _ => none
 | k + 1, x4, x5, x6, x9, x10, x13, x124, x439000, x439001 => if x124 = true then (none) else ((impl_CountWins.f k x439000 x439001).bind fun bt462 => ((spec_CountWins.f k x439000 x439001).bind fun bt464 => (if bt462.1 = bt464.1 then (if (bt462.2 != bt464.2) = true then (laws_FnVotes.j3 k x4 x5 x6 x9 x10 x13 bt462.1 true x439000 x439001) else (laws_FnVotes.j3 k x4 x5 x6 x9 x10 x13 bt462.1 (bt462.2 != x10) x439000 x439001)) else (laws_FnVotes.j3 k x4 x5 x6 x9 x10 x13 bt462.1 true x439000 x439001))))
def laws_FnVotes.j3 : Nat → List Int → Bool → Bool → List (List Int) → Bool → List (List Int) → Int → Bool → List Int → Int → Option (Bool)
 | 0, _, _, _, _, _, _, _, _, _, _ => none
 | k + 1, x4, x5, x6, x9, x10, x13, x17, x147, x439000, x439001 => if x147 = true then (none) else ((impl_DualVote.f k x439000 x439001).bind fun bt466 => ((spec_DualVote.f k x439000 x439001).bind fun bt472 => (if (bt466.2.2 != bt472.2.2) = true then (laws_FnVotes.j4 k x4 x5 x6 x9 x10 x13 x17 true x439000 x439001 bt466.1 bt466.2.1) else (if (bt466.2.2 != x10) = true then (laws_FnVotes.j4 k x4 x5 x6 x9 x10 x13 x17 true x439000 x439001 bt466.1 bt466.2.1) else ((laws_rVote.f k bt466.1 bt466.2.1 bt472.1 bt472.2.1).bind fun t478 => (laws_FnVotes.j4 k x4 x5 x6 x9 x10 x13 x17 (!t478) x439000 x439001 bt466.1 bt466.2.1))))))
def laws_FnVotes.j4 : Nat → List Int → Bool → Bool → List (List Int) → Bool → List (List Int) → Int → Bool → List Int → Int → List Int → Int → Option (Bool)
 | 0, _, _, _, _, _, _, _, _, _, _, _, _ => none
 | k + 1, x4, x5, x6, x9, x10, x13, x17, x171, x439000, x439001, x472000, x472001 => if x171 = true then (none) else ((impl_IsProper.f k x439000 x439001).bind fun bt479 => ((spec_IsProper.f k x439000 x439001).bind fun bt481 => (if (bt479.1 != bt481.1) = true then (laws_FnVotes.j5 k x4 x5 x6 x9 x10 x13 x17 true x439000 x439001 x472000 x472001) else (if (bt479.2 != bt481.2) = true then (laws_FnVotes.j5 k x4 x5 x6 x9 x10 x13 x17 true x439000 x439001 x472000 x472001) else (laws_FnVotes.j5 k x4 x5 x6 x9 x10 x13 x17 (bt479.2 != x10) x439000 x439001 x472000 x472001)))))
def laws_FnVotes.j5 : Nat → List Int → Bool → Bool → List (List Int) → Bool → List (List Int) → Int → Bool → List Int → Int → List Int → Int → Option (Bool)
 | 0, _, _, _, _, _, _, _, _, _, _, _, _ => none
 | k + 1, x4, x5, x6, x9, x10, x13, x17, x194, x439000, x439001, x472000, x472001 => if x194 = true then (none) else ((impl_IsStrong.f k x439000 x439001).bind fun bt483 => ((spec_IsStrong.f k x439000 x439001).bind fun bt485 => (if (bt483.1 != bt485.1) = true then (laws_FnVotes.j6 k x4 x5 x6 x9 x10 x13 x17 bt483.1 true x439000 x439001 x472000 x472001) else (if (bt483.2 != bt485.2) = true then (laws_FnVotes.j6 k x4 x5 x6 x9 x10 x13 x17 bt483.1 true x439000 x439001 x472000 x472001) else (laws_FnVotes.j6 k x4 x5 x6 x9 x10 x13 x17 bt483.1 (bt483.2 != x10) x439000 x439001 x472000 x472001)))))
def laws_FnVotes.j6 : Nat → List Int → Bool → Bool → List (List Int) → Bool → List (List Int) → Int → Bool → Bool → List Int → Int → List Int → Int → Option (Bool)
 | 0, _, _, _, _, _, _, _, _, _, _, _, _, _ => none
 | k + 1, x4, x5, x6, x9, x10, x13, x17, x29, x217, x439000, x439001, x472000, x472001 => if x217 = true then (none) else (if x10 = true then ((impl_IsProper.f k x472000 x472001).bind fun bt487 => ((impl_CountWins.f k x472000 x472001).bind fun bt489 => (if bt487.2 = true then (if bt489.2 = true then (if (bt487.1 != x29) = true then (laws_FnVotes.j7 k x4 x5 x6 x9 x13 true x439000 x439001 x472000 x472001) else (laws_FnVotes.j7 k x4 x5 x6 x9 x13 ((wrap64 (x17 + bt489.1)) != (shl .i64 1 (x439000.length : Int))) x439000 x439001 x472000 x472001)) else (laws_FnVotes.j7 k x4 x5 x6 x9 x13 true x439000 x439001 x472000 x472001)) else (laws_FnVotes.j7 k x4 x5 x6 x9 x13 true x439000 x439001 x472000 x472001)))) else (some (!x6)))
def laws_FnVotes.j7 : Nat → List Int → Bool → Bool → List (List Int) → List (List Int) → Bool → List Int → Int → List Int → Int → Option (Bool)
 | 0, _, _, _, _, _, _, _, _, _, _ => none
 | k + 1, x4, x5, x6, x9, x13, x252, x439000, x439001, x472000, x472001 => if x252 = true then (none) else (if x6 = true then (laws_FnVotes.l0 k x4 x5 x9 x13 (([] : List Int)) 0 x439000 x439001 x472000 x472001) else (some true))
def laws_FnVotes.l0 : Nat → List Int → Bool → List (List Int) → List (List Int) → List Int → Int → List Int → Int → List Int → Int → Option (Bool)
 | 0, _, _, _, _, _, _, _, _, _, _ => none
 | k + 1, x4, x5, x9, x13, x37, x38, x439000, x439001, x472000, x472001 => if x38 < (x439000.length : Int) then ((laws_rHas.f k x4 x38).bind fun t494 => (if t494 = true then (laws_FnVotes.l0 k x4 x5 x9 x13 x37 (wrap64 (x38 + 1)) x439000 x439001 x472000 x472001) else (if x37.length < 17592186044416 then (laws_FnVotes.l0 k x4 x5 x9 x13 (x37 ++ [x38]) (wrap64 (x38 + 1)) x439000 x439001 x472000 x472001) else (none)))) else (laws_FnVotes.l1 k x4 x5 x9 x13 x37 false false 0 x472000 x472001)
def laws_FnVotes.l1 : Nat → List Int → Bool → List (List Int) → List (List Int) → List Int → Bool → Bool → Int → List Int → Int → Option (Bool)
 | 0, _, _, _, _, _, _, _, _, _, _ => none
 | k + 1, x4, x5, x9, x13, x37, x39, x40, x41, x472000, x472001 => if x41 < (x9.length : Int) then (laws_FnVotes.l2 k x4 x5 x9 x13 x37 x39 x40 x41 true 0 x472000 x472001) else (laws_FnVotes.l3 k x4 x5 x13 x37 x39 x40 0 x472000 x472001)
def laws_FnVotes.l2 : Nat → List Int → Bool → List (List Int) → List (List Int) → List Int → Bool → Bool → Int → Bool → Int → List Int → Int → Option (Bool)
 | 0, _, _, _, _, _, _, _, _, _, _, _, _ => none
 | k + 1, x4, x5, x9, x13, x37, x39, x40, x41, x42, x43, x472000, x472001 => if 0 ≤ x41 then (if x41 < (x9.length : Int) then (if x43 < ((rd_L3 x9 x41).length : Int) then (if x42 = true then (if 0 ≤ x43 then ((laws_rHas.f k x4 (rd (rd_L3 x9 x41) x43)).bind fun t501 => (laws_FnVotes.l2 k x4 x5 x9 x13 x37 x39 x40 x41 t501 (wrap64 (x43 + 1)) x472000 x472001)) else (none)) else (laws_FnVotes.l2 k x4 x5 x9 x13 x37 x39 x40 x41 false (wrap64 (x43 + 1)) x472000 x472001)) else (if x39 = true then (laws_FnVotes.l1 k x4 x5 x9 x13 x37 true x40 (wrap64 (x41 + 1)) x472000 x472001) else (laws_FnVotes.l1 k x4 x5 x9 x13 x37 x42 x40 (wrap64 (x41 + 1)) x472000 x472001))) else (none)) else (none)
def laws_FnVotes.l3 : Nat → List Int → Bool → List (List Int) → List Int → Bool → Bool → Int → List Int → Int → Option (Bool)
 | 0, _, _, _, _, _, _, _, _, _ => none
 | k + 1, x4, x5, x13, x37, x39, x40, x44, x472000, x472001 => if x44 < (x13.length : Int) then (laws_FnVotes.l4 k x4 x5 x13 x37 x39 x40 x44 true 0 x472000 x472001) else ((impl_WinsWith.f k x472000 x472001 x37).bind fun bt502 => (if bt502.2 = true then (if (x5 == x39) = true then (if (x5 != x40) = true then (some (x5 == (!bt502.1))) else (none)) else (none)) else (none)))
def laws_FnVotes.l4 : Nat → List Int → Bool → List (List Int) → List Int → Bool → Bool → Int → Bool → Int → List Int → Int → Option (Bool)
 | 0, _, _, _, _, _, _, _, _, _, _, _ => none
 | k + 1, x4, x5, x13, x37, x39, x40, x44, x45, x46, x472000, x472001 => if x46 < (x4.length : Int) then (if x45 = true then (if 0 ≤ x44 then (if x44 < (x13.length : Int) then (if 0 ≤ x46 then ((laws_rHas.f k (rd_L3 x13 x44) (rd x4 x46)).bind fun t506 => (laws_FnVotes.l4 k x4 x5 x13 x37 x39 x40 x44 t506 (wrap64 (x46 + 1)) x472000 x472001)) else (none)) else (none)) else (none)) else (laws_FnVotes.l4 k x4 x5 x13 x37 x39 x40 x44 false (wrap64 (x46 + 1)) x472000 x472001)) else (if x40 = true then (laws_FnVotes.l3 k x4 x5 x13 x37 x39 true (wrap64 (x44 + 1)) x472000 x472001) else (laws_FnVotes.l3 k x4 x5 x13 x37 x39 x45 (wrap64 (x44 + 1)) x472000 x472001))
end
def laws_FnVotes.f (k : Nat) (l0 : List Int) : Option (Bool) := (laws_rBig.f l0).bind fun t430 => (if t430 = true then (some true) else ((spec_DrawWinsWith.f k l0).bind fun bt431 => ((impl_WinsWith.f k bt431.1 bt431.2.1 bt431.2.2).bind fun bt439 => ((spec_WinsWith.f k bt431.1 bt431.2.1 bt431.2.2).bind fun bt441 => (if (bt439.1 != bt441.1) = true then (laws_FnVotes.j0 k bt431.2.2 bt439.1 bt439.2 true bt431.1 bt431.2.1) else (laws_FnVotes.j0 k bt431.2.2 bt439.1 bt439.2 (bt439.2 != bt441.2) bt431.1 bt431.2.1))))))
def laws_FnVotes.Pure : Prop := ∀ (l0 : List Int), l0.length ≤ maxLen → l0.length * 1 ≤ 140737488351232 → (∀ x ∈ l0, (Lit.int .u8 x).wf = true) → ∃ k, laws_FnVotes.f k l0 = some true
end Go.Proofs.YtkgekmpnbhomgaaDoor.PFnVotes
