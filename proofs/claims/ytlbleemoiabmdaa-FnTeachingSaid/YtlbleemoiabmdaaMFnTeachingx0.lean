-- Laid for this claim by a program of the session's own (wip/tool/myprint.py).
import Derived.Test.YtlbleemoiabmdaaProg
import Derived.Below
import Derived.Deep.Draws
import Derived.Deep.AppendLies
import Derived.Maps.AppendAt
import Derived.OwnWalk
import Derived.Laws.BytesArg
import Derived.Laws.MakeOwn
import Derived.Laws.OwnMore
import Derived.Deep.OwnRows
import Derived.Tactics
import Derived.Lib.ConvBytes
import Derived.Laws.Slices
import Derived.WalkKit
import Derived.KernelRfl
import Derived.RowKit3
import Derived.Deep.LoopGhost
import Derived.Deep.QuietTactic
import Derived.BigQuiet
import Derived.WideLaws
import Derived.Deep.DeepCutAuto
import Derived.Deep.CutBlock
import Derived.Deep.RegionHeld3
import Derived.Laws.Rows
import Derived.Lib.AppendStr
import Derived.ArgAppend
import Derived.Laws.IdiomCopy
import Derived.OrdersHeld
import Derived.Laws.BitsLemmas
import Derived.RowKit
import Derived.Test.YtlbleemoiabmdaaZFnTeachingWWords
import Derived.Test.YtlbleemoiabmdaaZFnTeachingWLast
import Derived.Test.YtlbleemoiabmdaaZFnTeachingWTab
import Derived.Test.YtlbleemoiabmdaaZFnTeachingWFour
import Derived.Test.YtlbleemoiabmdaaZFnTeachingWQPut
import Derived.Test.YtlbleemoiabmdaaZFnTeachingWApart
import Derived.Test.YtlbleemoiabmdaaZFnTeachingWArr
import Derived.Test.YtlbleemoiabmdaaZFnTeachingWZeros
import Derived.Test.YtlbleemoiabmdaaZFnTeachingWFoot
import Derived.Test.YtlbleemoiabmdaaZFnTeachingWKept
import Derived.Test.YtlbleemoiabmdaaZFnTeachingWShare
import Derived.Test.YtlbleemoiabmdaaZFnTeachingWN
import Derived.Test.YtlbleemoiabmdaaZFnTeachingWFootNe
import Derived.Test.YtlbleemoiabmdaaZFnTeachingWAt
import Derived.Test.YtlbleemoiabmdaaZFnTeachingWEqStruct
import Derived.Test.YtlbleemoiabmdaaZFnTeachingWRepsOne
import Derived.Test.YtlbleemoiabmdaaZFnTeachingWInv
import Derived.Test.YtlbleemoiabmdaaZFnTeachingWInvWords
import Derived.Test.YtlbleemoiabmdaaZFnTeachingWGuard
import Derived.Test.YtlbleemoiabmdaaZFnTeachingWNEv
import Derived.Test.YtlbleemoiabmdaaZFnTeachingWMore
namespace Go.Proofs.Ytlbleemoiabmdaa.PFnTeaching
open Go.RowKit Go.Proofs.YtlbleemoiabmdaaW.PrintWords Go.Proofs.YtlbleemoiabmdaaW.PrintLast Go.Proofs.YtlbleemoiabmdaaW.PrintMore
attribute [local go_sem] max2_int min2_int max_two min_two max_three min_three max_four min_four
set_option linter.unusedVariables false
set_option linter.unusedSimpArgs false
def errW : Option Int → Value
 | none => .nilIface
 | some c => .iface 0 (.int .i64 c)
theorem errW_none : errW none = .nilIface := rfl
theorem errW_some (c : Int) : errW (some c) = .iface 0 (.int .i64 c) := rfl
theorem info3 : (Try.prog.info? 3).map (fun i => (i.zero, i.size, i.bytes)) = some (some (.int .i64 0), 1, 8) := by kernel_rfl
theorem info5 : (Try.prog.info? 5).map (fun i => (i.zero, i.size, i.bytes)) = some (some (.int .u8 0), 1, 1) := by kernel_rfl
theorem info27 : (Try.prog.info? 27).map (fun i => (i.zero, i.size, i.bytes)) = some (some (.slice none 0 0), 1, 24) := by kernel_rfl
def rd_L2 (xs : List (List Int)) (i : Int) : (List Int) := xs.getD i.toNat ([] : List Int)
theorem at_L2 {w : World} {A : Option Addr} {n : Nat} {xs : List (List Int)} (h : Kd.C (Kd.slice 3 (Kd.int .i64)) w A n xs) (i : Int) (h0 : 0 ≤ i) (h1 : i < n) : ∃ ad A0 c0, A = some ad ∧ w.cell? (ad.add i.toNat) = some (.slice A0 (rd_L2 xs i).length c0) ∧ (rd_L2 xs i).length ≤ c0 ∧ (Kd.int .i64).C w A0 (rd_L2 xs i).length (rd_L2 xs i) := by
 obtain ⟨ad, c, e, _, hK, hc0⟩ := Kd.C_get h ([] : List Int) i h0 h1
 have hc : ∀ j u, c[j]? = some u → w.cell? (ad.add (i.toNat * 1 + j)) = some u := hc0
 obtain ⟨A0, c0, rfl, l0, g0⟩ := hK
 exact ⟨ad, A0, c0, e, by have hq := hc 0 _ rfl; rwa [Nat.mul_one, Nat.add_zero] at hq, l0, g0⟩
def rd_L3 (xs : List (List (List Int))) (i : Int) : (List (List Int)) := xs.getD i.toNat ([] : List (List Int))
theorem at_L3 {w : World} {A : Option Addr} {n : Nat} {xs : List (List (List Int))} (h : Kd.C (Kd.slice 27 (Kd.slice 3 (Kd.int .i64))) w A n xs) (i : Int) (h0 : 0 ≤ i) (h1 : i < n) : ∃ ad A0 c0, A = some ad ∧ w.cell? (ad.add i.toNat) = some (.slice A0 (rd_L3 xs i).length c0) ∧ (rd_L3 xs i).length ≤ c0 ∧ (Kd.slice 3 (Kd.int .i64)).C w A0 (rd_L3 xs i).length (rd_L3 xs i) := by
 obtain ⟨ad, c, e, _, hK, hc0⟩ := Kd.C_get h ([] : List (List Int)) i h0 h1
 have hc : ∀ j u, c[j]? = some u → w.cell? (ad.add (i.toNat * 1 + j)) = some u := hc0
 obtain ⟨A0, c0, rfl, l0, g0⟩ := hK
 exact ⟨ad, A0, c0, e, by have hq := hc 0 _ rfl; rwa [Nat.mul_one, Nat.add_zero] at hq, l0, g0⟩
abbrev rA := @Kd.R_alloc
abbrev rN := @Kd.R_drewN
abbrev rD := @Kd.R_drew
abbrev rM := @Kd.R_mono
abbrev bN := @blk_drewN
abbrev bD := @blk_drew
abbrev bA := @blk_alloc
abbrev bF := @blk_frozen
abbrev bC := @blk_cell
abbrev bB := @blk_below
abbrev eA := @below_alloc
abbrev eN := @pw_below_drewN
abbrev eD := @below_drew1
abbrev eS := @below_set
abbrev aM := @Aside0.mk
abbrev sA := @List.setIfInBounds_toArray
abbrev sZ := @List.set_cons_zero
abbrev sU := @List.set_cons_succ
abbrev oB := @Option.bind_eq_some_iff
end Go.Proofs.Ytlbleemoiabmdaa.PFnTeaching
