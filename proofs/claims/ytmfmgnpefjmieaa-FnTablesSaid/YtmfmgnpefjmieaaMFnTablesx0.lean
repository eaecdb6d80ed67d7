-- Laid for this claim by a program of the session's own (wip/tool/myprint.py).
import Derived.Test.YtmfmgnpefjmieaaProg
import Derived.Below
import Derived.Deep.Draws
import Derived.Deep.AppendLies
import Derived.Maps.AppendAt
import Derived.OwnWalk
import Derived.Laws.BytesArg
import Derived.Laws.MakeOwn
import Derived.Laws.OwnMore
import Derived.Deep.OwnRows
import Derived.Tactics
import Derived.Lib.ConvBytes
import Derived.Laws.Slices
import Derived.WalkKit
import Derived.KernelRfl
import Derived.RowKit3
import Derived.Deep.LoopGhost
import Derived.Deep.QuietTactic
import Derived.BigQuiet
import Derived.WideLaws
import Derived.Deep.DeepCutAuto
import Derived.Deep.CutBlock
import Derived.Deep.RegionHeld3
import Derived.Laws.Rows
import Derived.Lib.AppendStr
import Derived.ArgAppend
import Derived.Laws.IdiomCopy
import Derived.OrdersHeld
import Derived.Laws.BitsLemmas
import Derived.RowKit
import Derived.Test.YtmfmgnpefjmieaaZFnTablesWFour
import Derived.Test.YtmfmgnpefjmieaaZFnTablesWAt
import Derived.Test.YtmfmgnpefjmieaaZFnTablesWEqStruct
import Derived.Test.YtmfmgnpefjmieaaZFnTablesWRepsOne
import Derived.Test.YtmfmgnpefjmieaaZFnTablesWInvWords
import Derived.Test.YtmfmgnpefjmieaaZFnTablesWGuard
import Derived.Test.YtmfmgnpefjmieaaZFnTablesWMore
namespace Go.Proofs.Ytmfmgnpefjmieaa.PFnTables
open Go.RowKit Go.Proofs.YtmfmgnpefjmieaaW.PrintWords Go.Proofs.YtmfmgnpefjmieaaW.PrintLast Go.Proofs.YtmfmgnpefjmieaaW.PrintMore
attribute [local go_sem] max2_int min2_int max_two min_two max_three min_three max_four min_four
set_option linter.unusedVariables false
set_option linter.unusedSimpArgs false
abbrev rA := @Kd.R_alloc
abbrev rN := @Kd.R_drewN
abbrev rD := @Kd.R_drew
abbrev rM := @Kd.R_mono
abbrev bN := @blk_drewN
abbrev bD := @blk_drew
abbrev bA := @blk_alloc
abbrev bF := @blk_frozen
abbrev bC := @blk_cell
abbrev bB := @blk_below
abbrev eA := @below_alloc
abbrev eN := @pw_below_drewN
abbrev eD := @below_drew1
abbrev eS := @below_set
abbrev aM := @Aside0.mk
abbrev sA := @List.setIfInBounds_toArray
abbrev sZ := @List.set_cons_zero
abbrev sU := @List.set_cons_succ
theorem oA {α β : Type} {o : Option α} {f : α → Option β} {r : β} (h : o.bind f = some r) : ∃ t, Aside0 (o = some t) ∧ f t = some r := let ⟨t, a, b⟩ := Option.bind_eq_some_iff.mp h; ⟨t, ⟨a⟩, b⟩
abbrev oB := @Option.bind_eq_some_iff
def errW : Option Int → Value
  | none => .nilIface
  | some c => .iface 0 (.int .i64 c)
theorem errW_none : errW none = .nilIface := rfl
theorem errW_some (c : Int) : errW (some c) = .iface 0 (.int .i64 c) := rfl
theorem info3 : (Try.prog.info? 3).map (fun i => (i.zero, i.size, i.bytes)) = some (some (.int .i64 0), 1, 8) := by kernel_rfl
theorem info5 : (Try.prog.info? 5).map (fun i => (i.zero, i.size, i.bytes)) = some (some (.int .u8 0), 1, 1) := by kernel_rfl
theorem xR {P Q : Prop} (h : P) (f : P → Q := by (intro h_; (with_reducible repeat (first | apply rA | apply rN | apply rD)); exact h_)) : Q := f h
theorem xB {P Q : Prop} (h : P) (f : P → Q := by (intro h_; (with_reducible repeat (first | refine bN ?_ _ | refine bD ?_ | refine bA ?_ _)); exact h_)) : Q := f h
theorem xH {P Q : Prop} (h : P) (f : P → Q := by (intro h_; repeat (first | (with_reducible first | exact h_ | apply eA | apply eN | apply eD) | exact h_))) : Q := f h
theorem xG1 {P Q G0 : Prop} (h : P) (g0 : G0) (f : P → G0 → Q := by (intro h_ g0_; repeat (first | (with_reducible first | exact h_ | apply eA | apply eN | apply eD | refine eS ?_ g0_) | exact h_))) : Q := f h g0
theorem xG2 {P Q G0 G1 : Prop} (h : P) (g0 : G0) (g1 : G1) (f : P → G0 → G1 → Q := by (intro h_ g0_ g1_; repeat (first | (with_reducible first | exact h_ | apply eA | apply eN | apply eD | refine eS ?_ g0_ | refine eS ?_ g1_) | exact h_))) : Q := f h g0 g1
theorem xG3 {P Q G0 G1 G2 : Prop} (h : P) (g0 : G0) (g1 : G1) (g2 : G2) (f : P → G0 → G1 → G2 → Q := by (intro h_ g0_ g1_ g2_; repeat (first | (with_reducible first | exact h_ | apply eA | apply eN | apply eD | refine eS ?_ g0_ | refine eS ?_ g1_ | refine eS ?_ g2_) | exact h_))) : Q := f h g0 g1 g2
theorem xC {P Q : Prop} (h : P) (f : P → Q := by (intro h_; repeat (first | exact h_ | (with_reducible refine Kd.C_alloc ?_ _) | (with_reducible refine Kd.C_drewN ?_ _) | (with_reducible refine Kd.C_drew ?_)))) : Q := f h
theorem xK0 {P Q : Prop} (h : P)  (f : P → Q := by (intro h_ ; repeat (first | (with_reducible first | exact h_ | apply KeepBut.set_ | apply keep_drewN | apply keep_drew | apply keep_alloc) | exact h_))) : Q := f h
theorem xK1 {P Q G0 : Prop} (h : P) (g0 : G0) (f : P → G0 → Q := by (intro h_ g0_; repeat (first | (with_reducible first | exact h_ | apply KeepBut.set_ | apply keep_drewN | apply keep_drew | apply keep_alloc | refine keep_far ?_ g0_ _) | exact h_))) : Q := f h g0
theorem xK2 {P Q G0 G1 : Prop} (h : P) (g0 : G0) (g1 : G1) (f : P → G0 → G1 → Q := by (intro h_ g0_ g1_; repeat (first | (with_reducible first | exact h_ | apply KeepBut.set_ | apply keep_drewN | apply keep_drew | apply keep_alloc | refine keep_far ?_ g0_ _ | refine keep_far ?_ g1_ _) | exact h_))) : Q := f h g0 g1
theorem xK3 {P Q G0 G1 G2 : Prop} (h : P) (g0 : G0) (g1 : G1) (g2 : G2) (f : P → G0 → G1 → G2 → Q := by (intro h_ g0_ g1_ g2_; repeat (first | (with_reducible first | exact h_ | apply KeepBut.set_ | apply keep_drewN | apply keep_drew | apply keep_alloc | refine keep_far ?_ g0_ _ | refine keep_far ?_ g1_ _ | refine keep_far ?_ g2_ _) | exact h_))) : Q := f h g0 g1 g2
section
def bm (n c : Nat) : Array Bool := ⟨(List.range n).map fun i => c.testBit i⟩
variable {P : Program} {ops : Array Oper} {Q : Exit → Act → World → Prop} {md : Region.Mode} {S : World → Prop} {ds : List Nat} {fuel : Nat} {l : Array Bool} {a : Act} {w : World} {oi : Oper} {v : Value} {a' : Act} {T : Bool × List (List Nat × List Nat)} {B : List Nat}
theorem yP (i N : Nat) (l' : Array Bool) (hT : Aside0 (rtab md ops = T)) (h : wpAnyLast P md ops Q S ds fuel l' a' w) (hi : ops[i]? = some oi := by exact rfl) (hN : oi.dst = some N := by exact rfl) (hc : anyT T l.toList l'.toList i = true := by kernel_rfl) (hQ : ∀ c a w, Q (.panic c) (a.put oi.dst v) w → Q (.panic c) a w := by exact fun _ _ _ h => h) (hy : Yields P ops oi v a := by exact Or.inl ⟨by rfl, by (intro w'; go_simp; with_reducible rfl)⟩) (ha : a.put (some N) v = a' := by (simp only [Act.put, sA, sZ, sU, i64_w, i32_w]; rfl)) : wpAnyLast P md ops Q S ds (fuel + 1) l a w := pure_ l' hi hN (any_of hT.out hc) hQ hy ha h
theorem yT2 (i N : Nat) (l' : Array Bool) (hT : Aside0 (rtab md ops = T)) (hB : Aside0 (waitsOk T.2 B = true)) (hS : S w) (h : wpAnyLast P md ops Q S ds fuel l' a' w) (hi : ops[i]? = some oi := by exact rfl) (hN : oi.dst = some N := by exact rfl) (hc : takeW T B ds l.toList l'.toList i = true := by kernel_rfl) (hQ : ∀ c a w, Q (.panic c) (a.put oi.dst v) w → Q (.panic c) a w := by exact fun _ _ _ h => h) (hy : YieldsIf P ops S oi v a := by exact Or.inl ⟨by rfl, by (rintro w' ⟨s0, s1⟩; first | (go_simp; with_reducible rfl) | (simp only [add_plain] at s0 s1; go_simp; with_reducible rfl))⟩) (ha : a.put (some N) v = a' := by (simp only [Act.put, sA, sZ, sU, i64_w, i32_w]; rfl)) : wpAnyLast P md ops Q S ds (fuel + 1) l a w := take_ l' hi hN (take_ofW hT.out hB.out hc) hQ hy hS ha h
theorem yp (i N : Nat) (l' : Array Bool) (h : wpAnyLast P md ops Q S ds fuel l' a' w) (hi : ops[i]? = some oi := by exact rfl) (hN : oi.dst = some N := by exact rfl) (hc : anyB md ops l l' i = true := by kernel_rfl) (hQ : ∀ c a w, Q (.panic c) (a.put oi.dst v) w → Q (.panic c) a w := by exact fun _ _ _ h => h) (hy : Yields P ops oi v a := by exact Or.inl ⟨by rfl, by (intro w'; go_simp; with_reducible rfl)⟩) (ha : a.put (some N) v = a' := by (simp only [Act.put, sA, sZ, sU, i64_w, i32_w]; rfl)) : wpAnyLast P md ops Q S ds (fuel + 1) l a w := pure_ l' hi hN hc hQ hy ha h
theorem yt2 (i N : Nat) (l' : Array Bool) (hS : S w) (h : wpAnyLast P md ops Q S ds fuel l' a' w) (hi : ops[i]? = some oi := by exact rfl) (hN : oi.dst = some N := by exact rfl) (hc : takeB md ops ds l l' i = true := by kernel_rfl) (hQ : ∀ c a w, Q (.panic c) (a.put oi.dst v) w → Q (.panic c) a w := by exact fun _ _ _ h => h) (hy : YieldsIf P ops S oi v a := by exact Or.inl ⟨by rfl, by (rintro w' ⟨s0, s1⟩; first | (go_simp; with_reducible rfl) | (simp only [add_plain] at s0 s1; go_simp; with_reducible rfl))⟩) (ha : a.put (some N) v = a' := by (simp only [Act.put, sA, sZ, sU, i64_w, i32_w]; rfl)) : wpAnyLast P md ops Q S ds (fuel + 1) l a w := take_ l' hi hN hc hQ hy hS ha h
theorem yt3 (i N : Nat) (l' : Array Bool) (hS : S w) (h : wpAnyLast P md ops Q S ds fuel l' a' w) (hi : ops[i]? = some oi := by exact rfl) (hN : oi.dst = some N := by exact rfl) (hc : takeB md ops ds l l' i = true := by kernel_rfl) (hQ : ∀ c a w, Q (.panic c) (a.put oi.dst v) w → Q (.panic c) a w := by exact fun _ _ _ h => h) (hy : YieldsIf P ops S oi v a := by exact Or.inl ⟨by rfl, by (rintro w' ⟨s0, s1, s2⟩; first | (go_simp; with_reducible rfl) | (simp only [add_plain] at s0 s1 s2; go_simp; with_reducible rfl))⟩) (ha : a.put (some N) v = a' := by (simp only [Act.put, sA, sZ, sU, i64_w, i32_w]; rfl)) : wpAnyLast P md ops Q S ds (fuel + 1) l a w := take_ l' hi hN hc hQ hy hS ha h
theorem yo (i N : Nat) (l' : Array Bool) (h : ∀ K : Act → World → Prop, Shut (∀ a' w', S w' → (S w' → wpAnyLast P md ops Q S ds fuel l' a' w') → K a' w') → if Region.wanted oi (yielded ops a.tmps) = true then Oper.wp P oi a w K Q else K (a.put (some N) undef) w) (hi : ops[i]? = some oi := by exact rfl) (hN : oi.dst = some N := by exact rfl) (hc : readyB md ops l l' i = true := by kernel_rfl) (hd : i ∉ ds := by decide) : wpAnyLast P md ops Q S ds (fuel + 1) l a w := one_ l' hi hN hc hd h
theorem yO (i N : Nat) (l' : Array Bool) (hT : Aside0 (rtab md ops = T)) (h : ∀ K : Act → World → Prop, Shut (∀ a' w', S w' → (S w' → wpAnyLast P md ops Q S ds fuel l' a' w') → K a' w') → if Region.wanted oi (yielded ops a.tmps) = true then Oper.wp P oi a w K Q else K (a.put (some N) undef) w) (hi : ops[i]? = some oi := by exact rfl) (hN : oi.dst = some N := by exact rfl) (hc : (readyT T.2 l.toList == [i] && l.toList.set i true == l'.toList) = true := by kernel_rfl) (hd : i ∉ ds := by decide) : wpAnyLast P md ops Q S ds (fuel + 1) l a w := one_ l' hi hN (one_of hT.out hc) hd h
end
section
variable {P : Program} {ops : Array Oper} {Q : Exit → Act → World → Prop} {a : Act} {w W : World} {rest : List Oper} {oi o : Oper} {xs : Array Operand} {ts : Array TypeId}
theorem yG {N : Option Tmp} {K : Act → World → Prop} {f : FuncId} {fn : Func} (hf : P.funcs[f]? = some fn) (args : Array Value) (h : Calls P f args w fun e w' => ∃ v, e = .returned v ∧ K (a.put N v) w') (hop : oi.op = .call { callee := .value (.func f), args := xs, argTypes := ts } := by exact rfl) (hname : (fn.name == "runtime.NumGoroutine") = false := by kernel_rfl) (hb : fn.body.isSome = true := by rfl) (hw : Region.wanted oi (yielded ops a.tmps) = true := by rfl) (hN : oi.dst = N := by rfl) (hargs : xs.map a.eval = args := by ((try simp only [List.map_toArray, List.map_cons, List.map_nil]); first | done | rfl | (simp only [List.length_drop, List.length_take]; rfl))) : if Region.wanted oi (yielded ops a.tmps) = true then Oper.wp P oi a w K Q else K (a.put N undef) w := goes_ hf hname hb args hw hN hop hargs h
theorem yL {f : FuncId} {fn : Func} (N : Tmp) (hf : P.funcs[f]? = some fn) (args : Array Value) (h : Calls P f args w fun e w' => ∃ v, e = .returned v ∧ wpList P ops Q rest (a.put (some N) v) w') (hop : oi.op = .call { callee := .value (.func f), args := xs, argTypes := ts } := by with_reducible exact rfl) (hd : oi.dst = some N := by exact rfl) (hg : oi.guard = none := by exact rfl) (hname : (fn.name == "runtime.NumGoroutine") = false := by kernel_rfl) (hb : fn.body.isSome = true := by exact rfl) (hargs : xs.map a.eval = args := by ((try simp only [List.map_toArray, List.map_cons, List.map_nil]); first | done | rfl | (simp only [List.length_drop, List.length_take]; rfl))) : wpList P ops Q (oi :: rest) a w := goesL_ (some N) hd hg hf hname hb args hop hargs h
theorem yB (N : Tmp) (cs : Array Value) (t : TypeId) (h : ∀ g, g = W.heap.size → ∀ w1, w1.heap[g]? = some (.cells cs t (0, 0)) → Below W.heap.size W w1 → wpList P ops Q rest (a.put o.dst (.pointer (some ⟨g, 0, none⟩))) w1) (hd : o.dst = some N := by with_reducible exact rfl) (hg : o.guard = none := by exact rfl) (hr : (execOp a.eval o).run P W = .ok (.value (.pointer (some ⟨W.heap.size, 0, none⟩))) (W.alloc (.cells cs t (0, 0))) := by first | (go_simp; done) | (go_simp; rfl)) : wpList P ops Q (o :: rest) a W := box_event hg hd hr h
end
section
variable {w W W0 w1 w2 : World} {g g' : Nat} {o : Obj} {row : Option Nat}
theorem yW (hg : g = W.heap.size) (hb : Below w.heap.size w W) : Aside0 (w.heap.size ≤ g) := ⟨by rw [hg]; exact below_size hb⟩
theorem yK (h : Aside0 (W0.heap[g]? = some o)) (hb : Below W.heap.size W w1) (f : W0.heap[g]? = some o → W.heap[g]? = some o := by (intro h_; (with_reducible repeat (first | refine bN ?_ _ | refine bD ?_ | refine bA ?_ _)); exact h_)) : Aside0 (w1.heap[g]? = some o) := ⟨bB (f h.out) hb⟩
theorem yQ (hk : KeepBut W w1 g' row) (h : Aside0 (W0.heap[g]? = some o)) (hn : Aside0 (g ≠ g')) (f : W0.heap[g]? = some o → W.heap[g]? = some o := by (intro h_; (with_reducible repeat (first | refine bN ?_ _ | refine bD ?_ | refine bA ?_ _)); exact h_)) (hr : some g ≠ row := by simp) : Aside0 (w1.heap[g]? = some o) := ⟨hk.blk (f h.out) hn.out hr⟩
theorem yR (h : Aside0 (W0.heap[g]? = some o)) (hg : W.grownBy w1 row) (hne : some g ≠ row) (f : W0.heap[g]? = some o → W.heap[g]? = some o := by (intro h_; (with_reducible repeat (first | refine bN ?_ _ | refine bD ?_ | refine bA ?_ _)); exact h_)) : Aside0 (w1.heap[g]? = some o) := ⟨blk_grown (f h.out) hg hne⟩
theorem yX (hg : g' = W.heap.size) (h : Aside0 (W0.heap[g]? = some o)) (f : W0.heap[g]? = some o → W.heap[g]? = some o := by (intro h_; (with_reducible repeat (first | refine bN ?_ _ | refine bD ?_ | refine bA ?_ _)); exact h_)) : Aside0 (g ≠ g') := ⟨by rw [hg]; exact Nat.ne_of_lt (blk_lt (f h.out))⟩
theorem yY (h : Aside0 (g ≠ g')) : Aside0 (g' ≠ g) := ⟨fun e => h.out e.symm⟩
variable {t : TypeId} {a0 a1 a2 a3 a4 a5 : Value} {cs : List Value}
theorem yC0 (h : Aside0 (w.heap[g]? = some (.cells ⟨a0 :: cs⟩ t (0, 0)))) : w.cell? ⟨g, 0, none⟩ = some a0 := (bC h.out 0).trans rfl
theorem yC1 (h : Aside0 (w.heap[g]? = some (.cells ⟨a0 :: a1 :: cs⟩ t (0, 0)))) : w.cell? ⟨g, 1, none⟩ = some a1 := (bC h.out 1).trans rfl
theorem yS0 (h : Aside0 (Below w.heap.size w W0))  (hb : Below W.heap.size W w2) (f : Below w.heap.size w W0 → Below w.heap.size w W := by (intro h_ ; repeat (first | (with_reducible first | exact h_ | apply eA | apply eN | apply eD) | exact h_))) : Aside0 (Below w.heap.size w w2) := ⟨below_step (f h.out ) hb⟩
theorem yV0 (hg : g = W.heap.size) (h : Aside0 (Below w.heap.size w W0))  (f : Below w.heap.size w W0 → Below w.heap.size w W := by (intro h_ ; repeat (first | (with_reducible first | exact h_ | apply eA | apply eN | apply eD) | exact h_))) : Aside0 (w.heap.size ≤ g) := yW hg (f h.out )
theorem yS1 {G0 : Prop} (h : Aside0 (Below w.heap.size w W0)) (g0 : Aside0 G0) (hb : Below W.heap.size W w2) (f : Below w.heap.size w W0 → G0 → Below w.heap.size w W := by (intro h_ g0_; repeat (first | (with_reducible first | exact h_ | apply eA | apply eN | apply eD | refine eS ?_ g0_) | exact h_))) : Aside0 (Below w.heap.size w w2) := ⟨below_step (f h.out g0.out) hb⟩
theorem yQ1 {G0 : Prop} (hk : KeepBut W w1 g' row) (h : Aside0 (W0.heap[g]? = some o)) (hn : Aside0 (g ≠ g')) (g0 : Aside0 G0) (f : W0.heap[g]? = some o → G0 → W.heap[g]? = some o := by (intro h_ g0_; (with_reducible repeat (first | refine bN ?_ _ | refine bD ?_ | refine bA ?_ _ | refine blk_far ?_ g0_ _)); exact h_)) (hr : some g ≠ row := by simp) : Aside0 (w1.heap[g]? = some o) := ⟨hk.blk (f h.out g0.out) hn.out hr⟩
theorem yD2 (h : Aside0 (w.heap[g]? = some (.cells ⟨a0 :: a1 :: cs⟩ t (0, 0)))) : w.cell? ⟨g, 0, none⟩ = some a0 ∧ w.cell? ⟨g, 1, none⟩ = some a1 ∧ w.frozen? ⟨g, 0, none⟩ = false ∧ w.frozen? ⟨g, 1, none⟩ = false := ⟨yC0 h, yC1 h, bF h.out 0, bF h.out 1⟩
end
theorem yF {P : Prop} (h : P := by first | rfl | (simp [errW_none, errW_some] <;> rfl) | (simp [*, errW_none, errW_some] <;> rfl)) : P := h
theorem yZ {P : Prop} (h : P := by first | rfl | (simp; done) | (simp [*]; done)) : P := h
theorem yM {P : Prop} (h : P := by first | omega | exact Nat.le_refl _) : P := h
theorem yE {α : Type} (a : α) : ∃ y_ : α, y_ = a := ⟨_, rfl⟩
theorem yJ {α : Type} (a : α) : ∃ j_ : α, a = j_ := ⟨_, rfl⟩
theorem yA {p : Prop} [Decidable p] (h : decide p = true := by first | (with_reducible assumption) | assumption) : p := of_decide_eq_true h
theorem yI {A B R : Prop} (e : R) (h : A) (f : R → A → B := by (intro e H; first | (rw [e]; with_reducible exact H) | (have H2_ := (Option.bind_some _ _).symm.trans H; rw [e]; with_reducible exact H2_) | (have H2_ := (Option.bind_some _ _).symm.trans H; with_reducible exact H2_) | with_reducible exact H | (rw [e]; exact H) | exact H)) : B := f e h
theorem yi {k : IntKind} {A : Option Addr} {n : Nat} {xs : List Int} {w : World} (h : (Kd.int k).C w A n xs) (i : Int) (h0 : 0 ≤ i := by first | exact yA | omega) (h1 : i < n := by exact yA) : ∃ ad, A = some ad ∧ w.cell? (ad.add i.toNat) = some (.int k (rd xs i)) ∧ (0 ≤ i) = True ∧ (i < n) = True := by
 obtain ⟨ad, a, b⟩ := Kd.at_int h i h0 h1; exact ⟨ad, a, b, eq_true h0, eq_true h1⟩
theorem yc {w w1 : World} {p : Addr} {v : Value} (hb : Aside0 (Below w.heap.size w w1)) (h : w.cell? p = some v) : w1.cell? p = some v := (hb.out.cell (World.block_lt_of_cell? w _ h)).trans h
theorem yNi {P : Prop} (h : P := by first | exact Kd.R_nil _ _ _ _ _ | exact Kd.N_nil _ _ _ _ _ | exact Kd.V_nil _ _ _ _ _ | exact Kd.Q_nil _ _ _ _ _ | exact Kd.S_nil _ _ _ _ _) : P := h
theorem yif {p : Prop} [Decidable p] {α : Type} {a b : α} {r : α} (h : (if p then a else b) = r) : (p ∧ decide p = true ∧ a = r) ∨ (¬ p ∧ decide p = false ∧ b = r) := by
 by_cases c : p
 · rw [if_pos c] at h; exact .inl ⟨c, decide_eq_true c, h⟩
 · rw [if_neg c] at h; exact .inr ⟨c, decide_eq_false c, h⟩
theorem yDr {P : Prop} (h : P := by first | exact ⟨rfl, _, World.drewN_drewN _ _ _⟩ | exact ⟨rfl, _, Eq.trans (World.drewN_drewN _ _ _) (congrArg (World.drewN _) (Nat.add_assoc _ _ _))⟩) : P := h
theorem yDn {P : Prop} (h : P := by repeat (first | exact Drawn0.refl _ | apply Drawn0.step)) : P := h
theorem zR {α : Type} {d : Kd α} {e base : Nat} {ok : Nat → Prop} {W0 W : World} {v : Value} {xs : List α} (h : Kd.R d e W0 base ok v xs) (f : Kd.R d e W0 base ok v xs → Kd.R d e W base ok v xs := by (intro h_; (with_reducible repeat (first | apply rA | apply rN | apply rD)); exact h_)) : Kd.R d e W base ok v xs := f h
end Go.Proofs.Ytmfmgnpefjmieaa.PFnTables
