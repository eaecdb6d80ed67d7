-- Laid for this claim by a program of the session's own (wip/tool/myprint.py).
import Derived.Test.YtkgekmpnbhomgaaProg
import Derived.Below
import Derived.Deep.Draws
import Derived.Deep.AppendLies
import Derived.Maps.AppendAt
import Derived.OwnWalk
import Derived.Laws.BytesArg
import Derived.Laws.MakeOwn
import Derived.Laws.OwnMore
import Derived.Deep.OwnRows
import Derived.Tactics
import Derived.Lib.ConvBytes
import Derived.Laws.Slices
import Derived.WalkKit
import Derived.KernelRfl
import Derived.RowKit3
import Derived.Deep.LoopGhost
import Derived.Deep.QuietTactic
import Derived.BigQuiet
import Derived.WideLaws
import Derived.Deep.DeepCutAuto
import Derived.Deep.CutBlock
import Derived.Deep.RegionHeld3
import Derived.Laws.Rows
import Derived.Lib.AppendStr
import Derived.ArgAppend
import Derived.Laws.IdiomCopy
import Derived.OrdersHeld
import Derived.Laws.BitsLemmas
import Derived.RowKit
import Derived.Test.YtkgekmpnbhomgaaZFnBitsWWords
import Derived.Test.YtkgekmpnbhomgaaZFnBitsWLast
import Derived.Test.YtkgekmpnbhomgaaZFnBitsWTab
import Derived.Test.YtkgekmpnbhomgaaZFnBitsWFour
import Derived.Test.YtkgekmpnbhomgaaZFnBitsWQPut
import Derived.Test.YtkgekmpnbhomgaaZFnBitsWApart
import Derived.Test.YtkgekmpnbhomgaaZFnBitsWArr
import Derived.Test.YtkgekmpnbhomgaaZFnBitsWZeros
import Derived.Test.YtkgekmpnbhomgaaZFnBitsWFoot
import Derived.Test.YtkgekmpnbhomgaaZFnBitsWKept
import Derived.Test.YtkgekmpnbhomgaaZFnBitsWShare
import Derived.Test.YtkgekmpnbhomgaaZFnBitsWN
import Derived.Test.YtkgekmpnbhomgaaZFnBitsWFootNe
import Derived.Test.YtkgekmpnbhomgaaZFnBitsWAt
import Derived.Test.YtkgekmpnbhomgaaZFnBitsWEqStruct
import Derived.Test.YtkgekmpnbhomgaaZFnBitsWRepsOne
import Derived.Test.YtkgekmpnbhomgaaZFnBitsWInv
import Derived.Test.YtkgekmpnbhomgaaZFnBitsWInvWords
import Derived.Test.YtkgekmpnbhomgaaZFnBitsWGuard
import Derived.Test.YtkgekmpnbhomgaaZFnBitsWNEv
import Derived.Test.YtkgekmpnbhomgaaZFnBitsWMore
namespace Go.Proofs.Ytkgekmpnbhomgaa.PFnBits
open Go.RowKit Go.Proofs.YtkgekmpnbhomgaaW.PrintWords Go.Proofs.YtkgekmpnbhomgaaW.PrintLast Go.Proofs.YtkgekmpnbhomgaaW.PrintMore
attribute [local go_sem] max2_int min2_int max_two min_two max_three min_three max_four min_four
set_option linter.unusedVariables false
set_option linter.unusedSimpArgs false
def errW : Option Int → Value
 | none => .nilIface
 | some c => .iface 0 (.int .i64 c)
theorem errW_none : errW none = .nilIface := rfl
theorem errW_some (c : Int) : errW (some c) = .iface 0 (.int .i64 c) := rfl
theorem info3 : (Try.prog.info? 3).map (fun i => (i.zero, i.size, i.bytes)) = some (some (.int .i64 0), 1, 8) := by kernel_rfl
theorem info24 : (Try.prog.info? 24).map (fun i => (i.zero, i.size, i.bytes)) = some (some (.slice none 0 0), 1, 24) := by kernel_rfl
def rd_L2 (xs : List (List Int)) (i : Int) : (List Int) := xs.getD i.toNat ([] : List Int)
theorem at_L2 {w : World} {A : Option Addr} {n : Nat} {xs : List (List Int)} (h : Kd.C (Kd.slice 3 (Kd.int .i64)) w A n xs) (i : Int) (h0 : 0 ≤ i) (h1 : i < n) : ∃ ad A0 c0, A = some ad ∧ w.cell? (ad.add i.toNat) = some (.slice A0 (rd_L2 xs i).length c0) ∧ (rd_L2 xs i).length ≤ c0 ∧ (Kd.int .i64).C w A0 (rd_L2 xs i).length (rd_L2 xs i) := by
 obtain ⟨ad, c, e, _, hK, hc0⟩ := Kd.C_get h ([] : List Int) i h0 h1
 have hc : ∀ j u, c[j]? = some u → w.cell? (ad.add (i.toNat * 1 + j)) = some u := hc0
 obtain ⟨A0, c0, rfl, l0, g0⟩ := hK
 exact ⟨ad, A0, c0, e, by have hq := hc 0 _ rfl; rwa [Nat.mul_one, Nat.add_zero] at hq, l0, g0⟩
theorem xR {P Q : Prop} (h : P) (f : P → Q := by (intro h_; (with_reducible repeat (first | apply rA | apply rN | apply rD)); exact h_)) : Q := f h
theorem xS {P Q : Prop} (h : P) (f : P → Q := by (intro h_; (with_reducible repeat (first | apply Kd.S_alloc | apply Kd.S_drewN | apply Kd.S_drew)); exact h_)) : Q := f h
theorem xV {P Q : Prop} (h : P) (f : P → Q := by (intro h_; (with_reducible repeat (first | apply Kd.V_alloc | apply Kd.V_drewN | apply Kd.V_drew)); exact h_)) : Q := f h
theorem xB {P Q : Prop} (h : P) (f : P → Q := by (intro h_; (with_reducible repeat (first | refine bN ?_ _ | refine bD ?_ | refine bA ?_ _)); exact h_)) : Q := f h
theorem xH {P Q : Prop} (h : P) (f : P → Q := by (intro h_; repeat (first | (with_reducible first | exact h_ | apply eA | apply eN | apply eD) | exact h_))) : Q := f h
theorem xG1 {P Q G0 : Prop} (h : P) (g0 : G0) (f : P → G0 → Q := by (intro h_ g0_; repeat (first | (with_reducible first | exact h_ | apply eA | apply eN | apply eD | refine eS ?_ g0_) | exact h_))) : Q := f h g0
theorem xG2 {P Q G0 G1 : Prop} (h : P) (g0 : G0) (g1 : G1) (f : P → G0 → G1 → Q := by (intro h_ g0_ g1_; repeat (first | (with_reducible first | exact h_ | apply eA | apply eN | apply eD | refine eS ?_ g0_ | refine eS ?_ g1_) | exact h_))) : Q := f h g0 g1
theorem xG3 {P Q G0 G1 G2 : Prop} (h : P) (g0 : G0) (g1 : G1) (g2 : G2) (f : P → G0 → G1 → G2 → Q := by (intro h_ g0_ g1_ g2_; repeat (first | (with_reducible first | exact h_ | apply eA | apply eN | apply eD | refine eS ?_ g0_ | refine eS ?_ g1_ | refine eS ?_ g2_) | exact h_))) : Q := f h g0 g1 g2
theorem xG4 {P Q G0 G1 G2 G3 : Prop} (h : P) (g0 : G0) (g1 : G1) (g2 : G2) (g3 : G3) (f : P → G0 → G1 → G2 → G3 → Q := by (intro h_ g0_ g1_ g2_ g3_; repeat (first | (with_reducible first | exact h_ | apply eA | apply eN | apply eD | refine eS ?_ g0_ | refine eS ?_ g1_ | refine eS ?_ g2_ | refine eS ?_ g3_) | exact h_))) : Q := f h g0 g1 g2 g3
theorem xG5 {P Q G0 G1 G2 G3 G4 : Prop} (h : P) (g0 : G0) (g1 : G1) (g2 : G2) (g3 : G3) (g4 : G4) (f : P → G0 → G1 → G2 → G3 → G4 → Q := by (intro h_ g0_ g1_ g2_ g3_ g4_; repeat (first | (with_reducible first | exact h_ | apply eA | apply eN | apply eD | refine eS ?_ g0_ | refine eS ?_ g1_ | refine eS ?_ g2_ | refine eS ?_ g3_ | refine eS ?_ g4_) | exact h_))) : Q := f h g0 g1 g2 g3 g4
theorem xG6 {P Q G0 G1 G2 G3 G4 G5 : Prop} (h : P) (g0 : G0) (g1 : G1) (g2 : G2) (g3 : G3) (g4 : G4) (g5 : G5) (f : P → G0 → G1 → G2 → G3 → G4 → G5 → Q := by (intro h_ g0_ g1_ g2_ g3_ g4_ g5_; repeat (first | (with_reducible first | exact h_ | apply eA | apply eN | apply eD | refine eS ?_ g0_ | refine eS ?_ g1_ | refine eS ?_ g2_ | refine eS ?_ g3_ | refine eS ?_ g4_ | refine eS ?_ g5_) | exact h_))) : Q := f h g0 g1 g2 g3 g4 g5
theorem xG7 {P Q G0 G1 G2 G3 G4 G5 G6 : Prop} (h : P) (g0 : G0) (g1 : G1) (g2 : G2) (g3 : G3) (g4 : G4) (g5 : G5) (g6 : G6) (f : P → G0 → G1 → G2 → G3 → G4 → G5 → G6 → Q := by (intro h_ g0_ g1_ g2_ g3_ g4_ g5_ g6_; repeat (first | (with_reducible first | exact h_ | apply eA | apply eN | apply eD | refine eS ?_ g0_ | refine eS ?_ g1_ | refine eS ?_ g2_ | refine eS ?_ g3_ | refine eS ?_ g4_ | refine eS ?_ g5_ | refine eS ?_ g6_) | exact h_))) : Q := f h g0 g1 g2 g3 g4 g5 g6
theorem xG8 {P Q G0 G1 G2 G3 G4 G5 G6 G7 : Prop} (h : P) (g0 : G0) (g1 : G1) (g2 : G2) (g3 : G3) (g4 : G4) (g5 : G5) (g6 : G6) (g7 : G7) (f : P → G0 → G1 → G2 → G3 → G4 → G5 → G6 → G7 → Q := by (intro h_ g0_ g1_ g2_ g3_ g4_ g5_ g6_ g7_; repeat (first | (with_reducible first | exact h_ | apply eA | apply eN | apply eD | refine eS ?_ g0_ | refine eS ?_ g1_ | refine eS ?_ g2_ | refine eS ?_ g3_ | refine eS ?_ g4_ | refine eS ?_ g5_ | refine eS ?_ g6_ | refine eS ?_ g7_) | exact h_))) : Q := f h g0 g1 g2 g3 g4 g5 g6 g7
theorem xC {P Q : Prop} (h : P) (f : P → Q := by (intro h_; repeat (first | exact h_ | (with_reducible refine Kd.C_alloc ?_ _) | (with_reducible refine Kd.C_drewN ?_ _) | (with_reducible refine Kd.C_drew ?_)))) : Q := f h
theorem xK0 {P Q : Prop} (h : P)  (f : P → Q := by (intro h_ ; repeat (first | (with_reducible first | exact h_ | apply KeepBut.set_ | apply keep_drewN | apply keep_drew | apply keep_alloc) | exact h_))) : Q := f h
theorem xK1 {P Q G0 : Prop} (h : P) (g0 : G0) (f : P → G0 → Q := by (intro h_ g0_; repeat (first | (with_reducible first | exact h_ | apply KeepBut.set_ | apply keep_drewN | apply keep_drew | apply keep_alloc | refine keep_far ?_ g0_ _) | exact h_))) : Q := f h g0
theorem xK2 {P Q G0 G1 : Prop} (h : P) (g0 : G0) (g1 : G1) (f : P → G0 → G1 → Q := by (intro h_ g0_ g1_; repeat (first | (with_reducible first | exact h_ | apply KeepBut.set_ | apply keep_drewN | apply keep_drew | apply keep_alloc | refine keep_far ?_ g0_ _ | refine keep_far ?_ g1_ _) | exact h_))) : Q := f h g0 g1
theorem xK3 {P Q G0 G1 G2 : Prop} (h : P) (g0 : G0) (g1 : G1) (g2 : G2) (f : P → G0 → G1 → G2 → Q := by (intro h_ g0_ g1_ g2_; repeat (first | (with_reducible first | exact h_ | apply KeepBut.set_ | apply keep_drewN | apply keep_drew | apply keep_alloc | refine keep_far ?_ g0_ _ | refine keep_far ?_ g1_ _ | refine keep_far ?_ g2_ _) | exact h_))) : Q := f h g0 g1 g2
theorem xK4 {P Q G0 G1 G2 G3 : Prop} (h : P) (g0 : G0) (g1 : G1) (g2 : G2) (g3 : G3) (f : P → G0 → G1 → G2 → G3 → Q := by (intro h_ g0_ g1_ g2_ g3_; repeat (first | (with_reducible first | exact h_ | apply KeepBut.set_ | apply keep_drewN | apply keep_drew | apply keep_alloc | refine keep_far ?_ g0_ _ | refine keep_far ?_ g1_ _ | refine keep_far ?_ g2_ _ | refine keep_far ?_ g3_ _) | exact h_))) : Q := f h g0 g1 g2 g3
theorem xK5 {P Q G0 G1 G2 G3 G4 : Prop} (h : P) (g0 : G0) (g1 : G1) (g2 : G2) (g3 : G3) (g4 : G4) (f : P → G0 → G1 → G2 → G3 → G4 → Q := by (intro h_ g0_ g1_ g2_ g3_ g4_; repeat (first | (with_reducible first | exact h_ | apply KeepBut.set_ | apply keep_drewN | apply keep_drew | apply keep_alloc | refine keep_far ?_ g0_ _ | refine keep_far ?_ g1_ _ | refine keep_far ?_ g2_ _ | refine keep_far ?_ g3_ _ | refine keep_far ?_ g4_ _) | exact h_))) : Q := f h g0 g1 g2 g3 g4
theorem xK6 {P Q G0 G1 G2 G3 G4 G5 : Prop} (h : P) (g0 : G0) (g1 : G1) (g2 : G2) (g3 : G3) (g4 : G4) (g5 : G5) (f : P → G0 → G1 → G2 → G3 → G4 → G5 → Q := by (intro h_ g0_ g1_ g2_ g3_ g4_ g5_; repeat (first | (with_reducible first | exact h_ | apply KeepBut.set_ | apply keep_drewN | apply keep_drew | apply keep_alloc | refine keep_far ?_ g0_ _ | refine keep_far ?_ g1_ _ | refine keep_far ?_ g2_ _ | refine keep_far ?_ g3_ _ | refine keep_far ?_ g4_ _ | refine keep_far ?_ g5_ _) | exact h_))) : Q := f h g0 g1 g2 g3 g4 g5
theorem xK7 {P Q G0 G1 G2 G3 G4 G5 G6 : Prop} (h : P) (g0 : G0) (g1 : G1) (g2 : G2) (g3 : G3) (g4 : G4) (g5 : G5) (g6 : G6) (f : P → G0 → G1 → G2 → G3 → G4 → G5 → G6 → Q := by (intro h_ g0_ g1_ g2_ g3_ g4_ g5_ g6_; repeat (first | (with_reducible first | exact h_ | apply KeepBut.set_ | apply keep_drewN | apply keep_drew | apply keep_alloc | refine keep_far ?_ g0_ _ | refine keep_far ?_ g1_ _ | refine keep_far ?_ g2_ _ | refine keep_far ?_ g3_ _ | refine keep_far ?_ g4_ _ | refine keep_far ?_ g5_ _ | refine keep_far ?_ g6_ _) | exact h_))) : Q := f h g0 g1 g2 g3 g4 g5 g6
theorem xK8 {P Q G0 G1 G2 G3 G4 G5 G6 G7 : Prop} (h : P) (g0 : G0) (g1 : G1) (g2 : G2) (g3 : G3) (g4 : G4) (g5 : G5) (g6 : G6) (g7 : G7) (f : P → G0 → G1 → G2 → G3 → G4 → G5 → G6 → G7 → Q := by (intro h_ g0_ g1_ g2_ g3_ g4_ g5_ g6_ g7_; repeat (first | (with_reducible first | exact h_ | apply KeepBut.set_ | apply keep_drewN | apply keep_drew | apply keep_alloc | refine keep_far ?_ g0_ _ | refine keep_far ?_ g1_ _ | refine keep_far ?_ g2_ _ | refine keep_far ?_ g3_ _ | refine keep_far ?_ g4_ _ | refine keep_far ?_ g5_ _ | refine keep_far ?_ g6_ _ | refine keep_far ?_ g7_ _) | exact h_))) : Q := f h g0 g1 g2 g3 g4 g5 g6 g7
theorem xL {P : Prop} (h : P := by ((try simp only [List.map_toArray, List.map_cons, List.map_nil]); first | done | rfl | (simp only [List.length_drop, List.length_take]; rfl))) : P := h
abbrev rA := @Kd.R_alloc
abbrev rN := @Kd.R_drewN
abbrev rD := @Kd.R_drew
abbrev rM := @Kd.R_mono
abbrev bN := @blk_drewN
abbrev bD := @blk_drew
abbrev bA := @blk_alloc
abbrev bF := @blk_frozen
abbrev bC := @blk_cell
abbrev bB := @blk_below
abbrev eA := @below_alloc
abbrev eN := @pw_below_drewN
abbrev eD := @below_drew1
abbrev eS := @below_set
abbrev aM := @Aside0.mk
abbrev sA := @List.setIfInBounds_toArray
abbrev sZ := @List.set_cons_zero
abbrev sU := @List.set_cons_succ
abbrev oB := @Option.bind_eq_some_iff
end Go.Proofs.Ytkgekmpnbhomgaa.PFnBits
