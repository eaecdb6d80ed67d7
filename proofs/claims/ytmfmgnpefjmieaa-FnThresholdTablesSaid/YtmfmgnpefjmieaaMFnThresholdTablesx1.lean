-- Laid for this claim by a program of the session's own (wip/tool/myprint.py).
import Derived.Test.YtmfmgnpefjmieaaMFnThresholdTablesx0
namespace Go.Proofs.Ytmfmgnpefjmieaa.PFnThresholdTables
open Go.RowKit Go.Proofs.YtmfmgnpefjmieaaW.PrintWords Go.Proofs.YtmfmgnpefjmieaaW.PrintLast Go.Proofs.YtmfmgnpefjmieaaW.PrintMore
attribute [local go_sem] max2_int min2_int max_two min_two max_three min_three max_four min_four
set_option linter.unusedVariables false
set_option maxHeartbeats 8000000
set_option maxRecDepth 100000
set_option linter.unusedSimpArgs false
def laws_vBig.f (l0 : List Int) : Option (Bool) := some (decide ((l0.length : Int) > 65536))
theorem laws_vBig.calls (A0 : Option Addr) (c0 : Nat) (l0 : List Int) (r : Bool) (w : World) (hr0 : Kd.C (Kd.int .u8) w A0 l0.length l0) (hc0 : l0.length ≤ c0) (h : laws_vBig.f l0 = some r) :
    Calls Try.prog 7 #[.slice A0 l0.length c0] w fun e w' => e = .returned (.bool r) ∧ Drawn0 w w' := by
  have HR0 := aM hr0
  have HC0 := aM hc0
  clear hr0 hc0
  have H : (some (decide ((l0.length : Int) > 65536))) = some r := h
  clear h
  obtain rfl := Option.some.inj H
  go_enter Try.func7, Try.ntmps7
  go_wp2
  go_ret
  exact ⟨yZ, yDn⟩
def IsS78 (w0 W : World) (g : Nat) (f0 : List Int) (f1 : Int) (f2 : Int) : Prop := ∃ A0 c0, W.heap[g]? = some (.cells #[.slice A0 f0.length c0, .int .i64 f1, .int .u64 f2] 78 (0, 0)) ∧ w0.heap.size ≤ g ∧ Kd.C (Kd.int .u8) w0 A0 f0.length f0
theorem IsS78.grown {w0 W : World} {g : Nat} {f0 : List Int} {f1 : Int} {f2 : Int} {W1 : World} {row : Option Nat} (h : IsS78 w0 W g f0 f1 f2) (hw : W.grownBy W1 row) (hne : some g ≠ row) : IsS78 w0 W1 g f0 f1 f2 := by
  obtain ⟨A0, c0, hb, hg, hr0⟩ := h
  exact ⟨A0, c0, blk_grown hb hw hne, hg, hr0⟩
theorem IsS78.below {w0 W : World} {g : Nat} {f0 : List Int} {f1 : Int} {f2 : Int} {W1 : World} (h : IsS78 w0 W g f0 f1 f2) (hw : Below W.heap.size W W1) : IsS78 w0 W1 g f0 f1 f2 := h.grown (grown_of_below hw none) (by simp)
theorem IsS78.alloc {w0 W : World} {g : Nat} {f0 : List Int} {f1 : Int} {f2 : Int} (h : IsS78 w0 W g f0 f1 f2) (o : Obj) : IsS78 w0 (W.alloc o) g f0 f1 f2 := h.below (eA (Below.refl _ _) o)
theorem IsS78.drewN {w0 W : World} {g : Nat} {f0 : List Int} {f1 : Int} {f2 : Int} (h : IsS78 w0 W g f0 f1 f2) (m : Nat) : IsS78 w0 (W.drewN m) g f0 f1 f2 := h
theorem IsS78.drew {w0 W : World} {g : Nat} {f0 : List Int} {f1 : Int} {f2 : Int} (h : IsS78 w0 W g f0 f1 f2) : IsS78 w0 W.drew g f0 f1 f2 := h
theorem IsS78.at_ {w0 W : World} {g : Nat} {f0 : List Int} {f1 : Int} {f2 : Int} {w' : World} {m : Nat} (hq : W.drewN m = w') (h : IsS78 w0 W g f0 f1 f2) : IsS78 w0 w' g f0 f1 f2 := by subst hq; exact IsS78.drewN h m
theorem IsS78.apart {w0 W : World} {g : Nat} {f0 : List Int} {f1 : Int} {f2 : Int} {α : Type} {d : Kd α} {e : Nat} {base : Nat} {ok : Nat → Prop} {v : Value} {xs : List α} (h : IsS78 w0 W g f0 f1 f2) (ho : d.R e W base ok v xs) (ht : ∀ q, q ∈ e :: d.E → q ≠ 78) : d.R e W base (fun k => ok k ∧ k ≠ g) v xs := by
  obtain ⟨A0, c0, hb, hg, hr0⟩ := h
  exact Kd.R_types ho hb ht
theorem IsS78.own_ne {w0 W : World} {g : Nat} {f0 : List Int} {f1 : Int} {f2 : Int} {α : Type} {d : Kd α} {e : Nat} {base : Nat} {ok : Nat → Prop} {v : Value} {xs : List α} (h : IsS78 w0 W g f0 f1 f2) (ho : d.R e W base ok v xs) (ht : e ≠ 78) : some g ≠ v.ownBlock := by
  obtain ⟨A0, c0, hb, hg, hr0⟩ := h
  exact Kd.R_ne ho hb ht
theorem IsS78.lt {w0 W : World} {g : Nat} {f0 : List Int} {f1 : Int} {f2 : Int} (h : IsS78 w0 W g f0 f1 f2) : g < W.heap.size := by
  obtain ⟨A0, c0, hb, hg, hr0⟩ := h
  exact blk_lt hb
theorem IsS78.ge {w0 W : World} {g : Nat} {f0 : List Int} {f1 : Int} {f2 : Int} (h : IsS78 w0 W g f0 f1 f2) : w0.heap.size ≤ g := by
  obtain ⟨A0, c0, hb, hg, hr0⟩ := h
  exact hg
theorem IsS78.far {w0 W : World} {g : Nat} {f0 : List Int} {f1 : Int} {f2 : Int} {p : Addr} (h : IsS78 w0 W g f0 f1 f2) (hne : g ≠ p.block) (u : Value) : IsS78 w0 (W.setCell p u) g f0 f1 f2 := by
  obtain ⟨A0, c0, hb, hg, hr0⟩ := h
  exact ⟨A0, c0, blk_far hb hne u, hg, hr0⟩
theorem cellS78_0 {W : World} {g : Nat} {A0 : Option Addr} {c0 : Nat} {f0 : List Int} {f1 : Int} {f2 : Int} (h : W.heap[g]? = some (.cells #[.slice A0 f0.length c0, .int .i64 f1, .int .u64 f2] 78 (0, 0))) : W.cell? ⟨g, 0, none⟩ = some (.slice A0 f0.length c0) := (bC h 0).trans rfl
theorem cellS78_1 {W : World} {g : Nat} {A0 : Option Addr} {c0 : Nat} {f0 : List Int} {f1 : Int} {f2 : Int} (h : W.heap[g]? = some (.cells #[.slice A0 f0.length c0, .int .i64 f1, .int .u64 f2] 78 (0, 0))) : W.cell? ⟨g, 1, none⟩ = some (.int .i64 f1) := (bC h 1).trans rfl
theorem IsS78.set_1 {w0 W : World} {g : Nat} {f0 : List Int} {f1 : Int} {f2 : Int} (h : IsS78 w0 W g f0 f1 f2) (x : Int) : IsS78 w0 (W.setCell ⟨g, 1, none⟩ (.int .i64 x)) g f0 x f2 := by
  obtain ⟨A0, c0, hb, hg, hr0⟩ := h
  exact ⟨A0, c0, by simpa using blk_set hb 1 (.int .i64 x), hg, hr0⟩
theorem cellS78_2 {W : World} {g : Nat} {A0 : Option Addr} {c0 : Nat} {f0 : List Int} {f1 : Int} {f2 : Int} (h : W.heap[g]? = some (.cells #[.slice A0 f0.length c0, .int .i64 f1, .int .u64 f2] 78 (0, 0))) : W.cell? ⟨g, 2, none⟩ = some (.int .u64 f2) := (bC h 2).trans rfl
theorem IsS78.set_2 {w0 W : World} {g : Nat} {f0 : List Int} {f1 : Int} {f2 : Int} (h : IsS78 w0 W g f0 f1 f2) (x : Int) : IsS78 w0 (W.setCell ⟨g, 2, none⟩ (.int .u64 x)) g f0 f1 x := by
  obtain ⟨A0, c0, hb, hg, hr0⟩ := h
  exact ⟨A0, c0, by simpa using blk_set hb 2 (.int .u64 x), hg, hr0⟩
theorem IsS78.x0 {P Q : Prop} (h : P)  (f : P → Q := by (intro h_ ; first | ((repeat (first | (with_reducible first | exact h_ | apply IsS78.alloc | apply IsS78.drewN | apply IsS78.drew | apply IsS78.set_1 | apply IsS78.set_2) | exact h_)); done) | (simp only [Int.add_zero]; (repeat (first | (with_reducible first | exact h_ | apply IsS78.alloc | apply IsS78.drewN | apply IsS78.drew | apply IsS78.set_1 | apply IsS78.set_2) | exact h_))))) : Q := f h
theorem IsS78.x1 {P Q G0 : Prop} (h : P) (g0 : G0) (f : P → G0 → Q := by (intro h_ g0_; first | ((repeat (first | (with_reducible first | exact h_ | apply IsS78.alloc | apply IsS78.drewN | apply IsS78.drew | apply IsS78.set_1 | apply IsS78.set_2 | refine IsS78.far ?_ g0_ _) | exact h_)); done) | (simp only [Int.add_zero]; (repeat (first | (with_reducible first | exact h_ | apply IsS78.alloc | apply IsS78.drewN | apply IsS78.drew | apply IsS78.set_1 | apply IsS78.set_2 | refine IsS78.far ?_ g0_ _) | exact h_))))) : Q := f h g0
theorem IsS78.x2 {P Q G0 G1 : Prop} (h : P) (g0 : G0) (g1 : G1) (f : P → G0 → G1 → Q := by (intro h_ g0_ g1_; first | ((repeat (first | (with_reducible first | exact h_ | apply IsS78.alloc | apply IsS78.drewN | apply IsS78.drew | apply IsS78.set_1 | apply IsS78.set_2 | refine IsS78.far ?_ g0_ _ | refine IsS78.far ?_ g1_ _) | exact h_)); done) | (simp only [Int.add_zero]; (repeat (first | (with_reducible first | exact h_ | apply IsS78.alloc | apply IsS78.drewN | apply IsS78.drew | apply IsS78.set_1 | apply IsS78.set_2 | refine IsS78.far ?_ g0_ _ | refine IsS78.far ?_ g1_ _) | exact h_))))) : Q := f h g0 g1
theorem IsS78.x3 {P Q G0 G1 G2 : Prop} (h : P) (g0 : G0) (g1 : G1) (g2 : G2) (f : P → G0 → G1 → G2 → Q := by (intro h_ g0_ g1_ g2_; first | ((repeat (first | (with_reducible first | exact h_ | apply IsS78.alloc | apply IsS78.drewN | apply IsS78.drew | apply IsS78.set_1 | apply IsS78.set_2 | refine IsS78.far ?_ g0_ _ | refine IsS78.far ?_ g1_ _ | refine IsS78.far ?_ g2_ _) | exact h_)); done) | (simp only [Int.add_zero]; (repeat (first | (with_reducible first | exact h_ | apply IsS78.alloc | apply IsS78.drewN | apply IsS78.drew | apply IsS78.set_1 | apply IsS78.set_2 | refine IsS78.far ?_ g0_ _ | refine IsS78.far ?_ g1_ _ | refine IsS78.far ?_ g2_ _) | exact h_))))) : Q := f h g0 g1 g2
theorem IsS78.x4 {P Q G0 G1 G2 G3 : Prop} (h : P) (g0 : G0) (g1 : G1) (g2 : G2) (g3 : G3) (f : P → G0 → G1 → G2 → G3 → Q := by (intro h_ g0_ g1_ g2_ g3_; first | ((repeat (first | (with_reducible first | exact h_ | apply IsS78.alloc | apply IsS78.drewN | apply IsS78.drew | apply IsS78.set_1 | apply IsS78.set_2 | refine IsS78.far ?_ g0_ _ | refine IsS78.far ?_ g1_ _ | refine IsS78.far ?_ g2_ _ | refine IsS78.far ?_ g3_ _) | exact h_)); done) | (simp only [Int.add_zero]; (repeat (first | (with_reducible first | exact h_ | apply IsS78.alloc | apply IsS78.drewN | apply IsS78.drew | apply IsS78.set_1 | apply IsS78.set_2 | refine IsS78.far ?_ g0_ _ | refine IsS78.far ?_ g1_ _ | refine IsS78.far ?_ g2_ _ | refine IsS78.far ?_ g3_ _) | exact h_))))) : Q := f h g0 g1 g2 g3
theorem IsS78.x5 {P Q G0 G1 G2 G3 G4 : Prop} (h : P) (g0 : G0) (g1 : G1) (g2 : G2) (g3 : G3) (g4 : G4) (f : P → G0 → G1 → G2 → G3 → G4 → Q := by (intro h_ g0_ g1_ g2_ g3_ g4_; first | ((repeat (first | (with_reducible first | exact h_ | apply IsS78.alloc | apply IsS78.drewN | apply IsS78.drew | apply IsS78.set_1 | apply IsS78.set_2 | refine IsS78.far ?_ g0_ _ | refine IsS78.far ?_ g1_ _ | refine IsS78.far ?_ g2_ _ | refine IsS78.far ?_ g3_ _ | refine IsS78.far ?_ g4_ _) | exact h_)); done) | (simp only [Int.add_zero]; (repeat (first | (with_reducible first | exact h_ | apply IsS78.alloc | apply IsS78.drewN | apply IsS78.drew | apply IsS78.set_1 | apply IsS78.set_2 | refine IsS78.far ?_ g0_ _ | refine IsS78.far ?_ g1_ _ | refine IsS78.far ?_ g2_ _ | refine IsS78.far ?_ g3_ _ | refine IsS78.far ?_ g4_ _) | exact h_))))) : Q := f h g0 g1 g2 g3 g4
theorem IsS78.x6 {P Q G0 G1 G2 G3 G4 G5 : Prop} (h : P) (g0 : G0) (g1 : G1) (g2 : G2) (g3 : G3) (g4 : G4) (g5 : G5) (f : P → G0 → G1 → G2 → G3 → G4 → G5 → Q := by (intro h_ g0_ g1_ g2_ g3_ g4_ g5_; first | ((repeat (first | (with_reducible first | exact h_ | apply IsS78.alloc | apply IsS78.drewN | apply IsS78.drew | apply IsS78.set_1 | apply IsS78.set_2 | refine IsS78.far ?_ g0_ _ | refine IsS78.far ?_ g1_ _ | refine IsS78.far ?_ g2_ _ | refine IsS78.far ?_ g3_ _ | refine IsS78.far ?_ g4_ _ | refine IsS78.far ?_ g5_ _) | exact h_)); done) | (simp only [Int.add_zero]; (repeat (first | (with_reducible first | exact h_ | apply IsS78.alloc | apply IsS78.drewN | apply IsS78.drew | apply IsS78.set_1 | apply IsS78.set_2 | refine IsS78.far ?_ g0_ _ | refine IsS78.far ?_ g1_ _ | refine IsS78.far ?_ g2_ _ | refine IsS78.far ?_ g3_ _ | refine IsS78.far ?_ g4_ _ | refine IsS78.far ?_ g5_ _) | exact h_))))) : Q := f h g0 g1 g2 g3 g4 g5
theorem IsS78.x7 {P Q G0 G1 G2 G3 G4 G5 G6 : Prop} (h : P) (g0 : G0) (g1 : G1) (g2 : G2) (g3 : G3) (g4 : G4) (g5 : G5) (g6 : G6) (f : P → G0 → G1 → G2 → G3 → G4 → G5 → G6 → Q := by (intro h_ g0_ g1_ g2_ g3_ g4_ g5_ g6_; first | ((repeat (first | (with_reducible first | exact h_ | apply IsS78.alloc | apply IsS78.drewN | apply IsS78.drew | apply IsS78.set_1 | apply IsS78.set_2 | refine IsS78.far ?_ g0_ _ | refine IsS78.far ?_ g1_ _ | refine IsS78.far ?_ g2_ _ | refine IsS78.far ?_ g3_ _ | refine IsS78.far ?_ g4_ _ | refine IsS78.far ?_ g5_ _ | refine IsS78.far ?_ g6_ _) | exact h_)); done) | (simp only [Int.add_zero]; (repeat (first | (with_reducible first | exact h_ | apply IsS78.alloc | apply IsS78.drewN | apply IsS78.drew | apply IsS78.set_1 | apply IsS78.set_2 | refine IsS78.far ?_ g0_ _ | refine IsS78.far ?_ g1_ _ | refine IsS78.far ?_ g2_ _ | refine IsS78.far ?_ g3_ _ | refine IsS78.far ?_ g4_ _ | refine IsS78.far ?_ g5_ _ | refine IsS78.far ?_ g6_ _) | exact h_))))) : Q := f h g0 g1 g2 g3 g4 g5 g6
theorem IsS78.x8 {P Q G0 G1 G2 G3 G4 G5 G6 G7 : Prop} (h : P) (g0 : G0) (g1 : G1) (g2 : G2) (g3 : G3) (g4 : G4) (g5 : G5) (g6 : G6) (g7 : G7) (f : P → G0 → G1 → G2 → G3 → G4 → G5 → G6 → G7 → Q := by (intro h_ g0_ g1_ g2_ g3_ g4_ g5_ g6_ g7_; first | ((repeat (first | (with_reducible first | exact h_ | apply IsS78.alloc | apply IsS78.drewN | apply IsS78.drew | apply IsS78.set_1 | apply IsS78.set_2 | refine IsS78.far ?_ g0_ _ | refine IsS78.far ?_ g1_ _ | refine IsS78.far ?_ g2_ _ | refine IsS78.far ?_ g3_ _ | refine IsS78.far ?_ g4_ _ | refine IsS78.far ?_ g5_ _ | refine IsS78.far ?_ g6_ _ | refine IsS78.far ?_ g7_ _) | exact h_)); done) | (simp only [Int.add_zero]; (repeat (first | (with_reducible first | exact h_ | apply IsS78.alloc | apply IsS78.drewN | apply IsS78.drew | apply IsS78.set_1 | apply IsS78.set_2 | refine IsS78.far ?_ g0_ _ | refine IsS78.far ?_ g1_ _ | refine IsS78.far ?_ g2_ _ | refine IsS78.far ?_ g3_ _ | refine IsS78.far ?_ g4_ _ | refine IsS78.far ?_ g5_ _ | refine IsS78.far ?_ g6_ _ | refine IsS78.far ?_ g7_ _) | exact h_))))) : Q := f h g0 g1 g2 g3 g4 g5 g6 g7
theorem IsS78.new (w0 W : World) (A0 : Option Addr) (c0 : Nat) (f0 : List Int) (f1 : Int) (f2 : Int) (hB : Below w0.heap.size w0 W) (hr0 : Kd.C (Kd.int .u8) w0 A0 f0.length f0) : IsS78 w0 (W.alloc (.cells #[.slice A0 f0.length c0, .int .i64 f1, .int .u64 f2] 78)) W.heap.size f0 f1 f2 := ⟨A0, c0, by simpa using heap_alloc_new W _, hB.size, hr0⟩
def spec_l1Cur_next.f (s0_0 : List Int) (s0_1 : Int) (s0_2 : Int) : Option (Int × Int × Int) := if s0_1 < (s0_0.length : Int) then (if 0 ≤ s0_1 then (if (wrap64 (s0_1 + 1)) ≤ (s0_0.length : Int) then (some (wrap64 (rd s0_0 s0_1), wrap64 (s0_1 + 1), IntKind.u64.wrap ((IntKind.u64.wrap ((IntKind.u64.wrap (s0_2 * 6364136223846793005)) + (IntKind.u64.wrap (wrap64 (rd s0_0 s0_1))))) + 462197))) else (some (wrap64 (Go.bits .and .u64 ((IntKind.u64.wrap ((IntKind.u64.wrap ((IntKind.u64.wrap (s0_2 * 6364136223846793005)) + (IntKind.u64.wrap (wrap64 (rd s0_0 s0_1))))) + 462197)) / 1099511627776) 255), wrap64 (s0_1 + 1), IntKind.u64.wrap ((IntKind.u64.wrap ((IntKind.u64.wrap (s0_2 * 6364136223846793005)) + (IntKind.u64.wrap (wrap64 (rd s0_0 s0_1))))) + 462197)))) else (none)) else (if (wrap64 (s0_1 + 1)) ≤ (s0_0.length : Int) then (some (0, wrap64 (s0_1 + 1), IntKind.u64.wrap ((IntKind.u64.wrap ((IntKind.u64.wrap (s0_2 * 6364136223846793005)) + 0)) + 462197))) else (some (wrap64 (Go.bits .and .u64 ((IntKind.u64.wrap ((IntKind.u64.wrap ((IntKind.u64.wrap (s0_2 * 6364136223846793005)) + 0)) + 462197)) / 1099511627776) 255), wrap64 (s0_1 + 1), IntKind.u64.wrap ((IntKind.u64.wrap ((IntKind.u64.wrap (s0_2 * 6364136223846793005)) + 0)) + 462197))))
theorem spec_l1Cur_next.calls (g : Nat) (s0_0 : List Int) (s0_1 : Int) (s0_2 : Int) (r1 : Int) (r2 : Int) (r3 : Int) (w0 w : World) (hI : IsS78 w0 w g s0_0 s0_1 s0_2) (hB : Below w0.heap.size w0 w) (h : spec_l1Cur_next.f s0_0 s0_1 s0_2 = some (r1, r2, r3)) :
    Calls Try.prog 134 #[.pointer (some ⟨g, 0, none⟩)] w fun e w' => e = .returned (.int .i64 r1) ∧ IsS78 w0 w' g s0_0 r2 r3 ∧ Below w0.heap.size w0 w' ∧ KeepBut w w' g none := by
 have HI0 := aM hI
 have HK := aM (KeepBut.refl w g none)
 have HL := aM hB.size
 clear hI
 have HW0 := aM hB.size
 have HB := aM hB
 clear hB
 have H : (if s0_1 < (s0_0.length : Int) then (if 0 ≤ s0_1 then (if (wrap64 (s0_1 + 1)) ≤ (s0_0.length : Int) then (some (wrap64 (rd s0_0 s0_1), wrap64 (s0_1 + 1), IntKind.u64.wrap ((IntKind.u64.wrap ((IntKind.u64.wrap (s0_2 * 6364136223846793005)) + (IntKind.u64.wrap (wrap64 (rd s0_0 s0_1))))) + 462197))) else (some (wrap64 (Go.bits .and .u64 ((IntKind.u64.wrap ((IntKind.u64.wrap ((IntKind.u64.wrap (s0_2 * 6364136223846793005)) + (IntKind.u64.wrap (wrap64 (rd s0_0 s0_1))))) + 462197)) / 1099511627776) 255), wrap64 (s0_1 + 1), IntKind.u64.wrap ((IntKind.u64.wrap ((IntKind.u64.wrap (s0_2 * 6364136223846793005)) + (IntKind.u64.wrap (wrap64 (rd s0_0 s0_1))))) + 462197)))) else (none)) else (if (wrap64 (s0_1 + 1)) ≤ (s0_0.length : Int) then (some (0, wrap64 (s0_1 + 1), IntKind.u64.wrap ((IntKind.u64.wrap ((IntKind.u64.wrap (s0_2 * 6364136223846793005)) + 0)) + 462197))) else (some (wrap64 (Go.bits .and .u64 ((IntKind.u64.wrap ((IntKind.u64.wrap ((IntKind.u64.wrap (s0_2 * 6364136223846793005)) + 0)) + 462197)) / 1099511627776) 255), wrap64 (s0_1 + 1), IntKind.u64.wrap ((IntKind.u64.wrap ((IntKind.u64.wrap (s0_2 * 6364136223846793005)) + 0)) + 462197))))) = some (r1, r2, r3) := h
 clear h
 obtain ⟨-, c2b0, H⟩ | ⟨-, c2b0, H⟩ := yif H
 rotate_left
 ·
  obtain ⟨-, c7b0, H⟩ | ⟨-, c7b0, H⟩ := yif H
  rotate_left
  ·
   simp only [Option.some.injEq, Prod.mk.injEq] at H
   obtain ⟨rfl, rfl, rfl⟩ := H
   obtain ⟨ASz9_0, cSz9_0, HGz9, hgz9, HSz9_0⟩ := HI0.out
   have hcz9_0 := cellS78_0 HGz9
   have hcz9_1 := cellS78_1 HGz9
   have hcz9_2 := cellS78_2 HGz9
   have hfz9_1 := bF HGz9 1
   have hfz9_2 := bF HGz9 2
   clear HGz9 hgz9
   go_enter Try.func134, Try.ntmps134
   go_wp2
   repeat (go_quiet (fail); try go_wp2)
   go_ret
   exact ⟨yF, IsS78.x0 HI0.out, xG1 HB.out (IsS78.ge HI0.out), xK0 HK.out⟩
  simp only [Option.some.injEq, Prod.mk.injEq] at H
  obtain ⟨rfl, rfl, rfl⟩ := H
  obtain ⟨ASz8_0, cSz8_0, HGz8, hgz8, HSz8_0⟩ := HI0.out
  have hcz8_0 := cellS78_0 HGz8
  have hcz8_1 := cellS78_1 HGz8
  have hcz8_2 := cellS78_2 HGz8
  have hfz8_1 := bF HGz8 1
  have hfz8_2 := bF HGz8 2
  clear HGz8 hgz8
  go_enter Try.func134, Try.ntmps134
  go_wp2
  repeat (go_quiet (fail); try go_wp2)
  go_ret
  exact ⟨yF, IsS78.x0 HI0.out, xG1 HB.out (IsS78.ge HI0.out), xK0 HK.out⟩
 obtain ⟨-, c3b0, H⟩ | ⟨c3, -, H⟩ := yif H
 rotate_left
 · exact absurd H (by simp)
 obtain ⟨-, c4b0, H⟩ | ⟨-, c4b0, H⟩ := yif H
 rotate_left
 ·
  simp only [Option.some.injEq, Prod.mk.injEq] at H
  obtain ⟨rfl, rfl, rfl⟩ := H
  obtain ⟨ASz6_0, cSz6_0, HGz6, hgz6, HSz6_0⟩ := HI0.out
  have hcz6_0 := cellS78_0 HGz6
  have hcz6_1 := cellS78_1 HGz6
  have hcz6_2 := cellS78_2 HGz6
  have hfz6_1 := bF HGz6 1
  have hfz6_2 := bF HGz6 2
  clear HGz6 hgz6
  obtain ⟨ad101, e101, hx101_0, p101, q101⟩ := yi HSz6_0 s0_1
  cases e101
  replace hx101_0 := pw_cell_below HB.out hx101_0
  go_enter Try.func134, Try.ntmps134
  go_wp2
  repeat (go_quiet (fail); try go_wp2)
  go_ret
  exact ⟨yF, IsS78.x0 HI0.out, xG1 HB.out (IsS78.ge HI0.out), xK0 HK.out⟩
 simp only [Option.some.injEq, Prod.mk.injEq] at H
 obtain ⟨rfl, rfl, rfl⟩ := H
 obtain ⟨ASz5_0, cSz5_0, HGz5, hgz5, HSz5_0⟩ := HI0.out
 have hcz5_0 := cellS78_0 HGz5
 have hcz5_1 := cellS78_1 HGz5
 have hcz5_2 := cellS78_2 HGz5
 have hfz5_1 := bF HGz5 1
 have hfz5_2 := bF HGz5 2
 clear HGz5 hgz5
 obtain ⟨ad101, e101, hx101_0, p101, q101⟩ := yi HSz5_0 s0_1
 cases e101
 replace hx101_0 := pw_cell_below HB.out hx101_0
 go_enter Try.func134, Try.ntmps134
 go_wp2
 repeat (go_quiet (fail); try go_wp2)
 go_ret
 exact ⟨yF, IsS78.x0 HI0.out, xG1 HB.out (IsS78.ge HI0.out), xK0 HK.out⟩
def spec_l1Cur_pick.f (s0_0 : List Int) (s0_1 : Int) (s0_2 : Int) (a1 : Int) : Option (Int × Int × Int) := if a1 ≤ 1 then (some (0, s0_1, s0_2)) else ((spec_l1Cur_next.f s0_0 s0_1 s0_2).bind fun bt102 => (if a1 > 200 then ((spec_l1Cur_next.f s0_0 bt102.2.1 bt102.2.2).bind fun bt105 => (if a1 = 0 then (none) else (some (Int.tmod (wrap64 ((wrap64 (bt102.1 * 256)) + bt105.1)) a1, bt105.2.1, bt105.2.2)))) else (if a1 = 0 then (none) else (some (Int.tmod bt102.1 a1, bt102.2.1, bt102.2.2)))))
theorem spec_l1Cur_pick.calls (g : Nat) (s0_0 : List Int) (s0_1 : Int) (s0_2 : Int) (a1 : Int) (r1 : Int) (r2 : Int) (r3 : Int) (w0 w : World) (hI : IsS78 w0 w g s0_0 s0_1 s0_2) (hB : Below w0.heap.size w0 w) (h : spec_l1Cur_pick.f s0_0 s0_1 s0_2 a1 = some (r1, r2, r3)) :
    Calls Try.prog 85 #[.pointer (some ⟨g, 0, none⟩), .int .i64 a1] w fun e w' => e = .returned (.int .i64 r1) ∧ IsS78 w0 w' g s0_0 r2 r3 ∧ Below w0.heap.size w0 w' ∧ KeepBut w w' g none := by
 have HI0 := aM hI
 have HK := aM (KeepBut.refl w g none)
 have HL := aM hB.size
 clear hI
 have HW0 := aM hB.size
 have HB := aM hB
 clear hB
 have H : (if a1 ≤ 1 then (some (0, s0_1, s0_2)) else ((spec_l1Cur_next.f s0_0 s0_1 s0_2).bind fun bt102 => (if a1 > 200 then ((spec_l1Cur_next.f s0_0 bt102.2.1 bt102.2.2).bind fun bt105 => (if a1 = 0 then (none) else (some (Int.tmod (wrap64 ((wrap64 (bt102.1 * 256)) + bt105.1)) a1, bt105.2.1, bt105.2.2)))) else (if a1 = 0 then (none) else (some (Int.tmod bt102.1 a1, bt102.2.1, bt102.2.2)))))) = some (r1, r2, r3) := h
 clear h
 obtain ⟨-, c3b0, H⟩ | ⟨-, c3b0, H⟩ := yif H
 ·
  simp only [Option.some.injEq, Prod.mk.injEq] at H
  obtain ⟨rfl, rfl, rfl⟩ := H
  go_enter Try.func85, Try.ntmps85
  go_wp2
  go_ret
  exact ⟨yF, IsS78.x0 HI0.out, xG1 HB.out (IsS78.ge HI0.out), xK0 HK.out⟩
 replace H := oB.mp H
 obtain ⟨⟨t102, t103, t104⟩, A40, H⟩ := H
 (try dsimp only at H)
 have A4 := aM A40
 clear A40
 obtain ⟨c5, -, H⟩ | ⟨c5, -, H⟩ := yif H
 rotate_left
 ·
  have c5b0 : decide (200 < a1) = false := decide_eq_false c5
  clear c5
  obtain ⟨c10, -, H⟩ | ⟨c10, -, H⟩ := yif H
  · exact absurd H (by simp)
  have c10b0 : (a1 == 0) = false := beq_eq_false_iff_ne.mpr c10
  have c10b1 : (a1 != 0) = true := bne_iff_ne.mpr c10
  simp only [Option.some.injEq, Prod.mk.injEq] at H
  obtain ⟨rfl, rfl, rfl⟩ := H
  go_enter Try.func85, Try.ntmps85
  go_wp2_with (first | (refine yL 9 Try.func134 #[.pointer (some ⟨g, 0, none⟩)] ?_; (with_reducible refine (spec_l1Cur_next.calls g s0_0 s0_1 s0_2 t102 t103 t104 w0 _ (IsS78.x0 HI0.out) (xG1 HB.out (IsS78.ge HI0.out)) A4.out).mono ?_); rintro e w11 ⟨rfl, hi, hb, hk⟩; refine ⟨_, rfl, ?_⟩; replace HK := aM (KeepBut.trans (xK0 HK.out) hk (.inl rfl)); replace HB := aM (hb); replace HI0 := aM (hi); (try clear hb; try clear hk; try clear hi)))
  go_ret
  exact ⟨yF, IsS78.x0 HI0.out, xG1 HB.out (IsS78.ge HI0.out), xK0 HK.out⟩
 have c5b0 : decide (200 < a1) = true := decide_eq_true c5
 clear c5
 replace H := oB.mp H
 obtain ⟨⟨t105, t106, t107⟩, A60, H⟩ := H
 (try dsimp only at H)
 have A6 := aM A60
 clear A60
 obtain ⟨c7, -, H⟩ | ⟨c7, -, H⟩ := yif H
 · exact absurd H (by simp)
 have c7b0 : (a1 == 0) = false := beq_eq_false_iff_ne.mpr c7
 have c7b1 : (a1 != 0) = true := bne_iff_ne.mpr c7
 simp only [Option.some.injEq, Prod.mk.injEq] at H
 obtain ⟨rfl, rfl, rfl⟩ := H
 go_enter Try.func85, Try.ntmps85
 go_wp2_with (first | (refine yL 9 Try.func134 #[.pointer (some ⟨g, 0, none⟩)] ?_; (with_reducible refine (spec_l1Cur_next.calls g s0_0 s0_1 s0_2 t102 t103 t104 w0 _ (IsS78.x0 HI0.out) (xG1 HB.out (IsS78.ge HI0.out)) A4.out).mono ?_); rintro e w8 ⟨rfl, hi, hb, hk⟩; refine ⟨_, rfl, ?_⟩; replace HK := aM (KeepBut.trans (xK0 HK.out) hk (.inl rfl)); replace HB := aM (hb); replace HI0 := aM (hi); (try clear hb; try clear hk; try clear hi)) | (refine yL 15 Try.func134 #[.pointer (some ⟨g, 0, none⟩)] ?_; (with_reducible refine (spec_l1Cur_next.calls g s0_0 t103 t104 t105 t106 t107 w0 _ (IsS78.x0 HI0.out) (xG1 HB.out (IsS78.ge HI0.out)) A6.out).mono ?_); rintro e w9 ⟨rfl, hi, hb, hk⟩; refine ⟨_, rfl, ?_⟩; replace HK := aM (KeepBut.trans (xK0 HK.out) hk (.inl rfl)); replace HB := aM (hb); replace HI0 := aM (hi); (try clear hb; try clear hk; try clear hi)))
 go_ret
 exact ⟨yF, IsS78.x0 HI0.out, xG1 HB.out (IsS78.ge HI0.out), xK0 HK.out⟩
def spec_l1Cur_among.f (s0_0 : List Int) (s0_1 : Int) (s0_2 : Int) (l1 : List Int) : Option (Int × Int × Int) := (spec_l1Cur_pick.f s0_0 s0_1 s0_2 (l1.length : Int)).bind fun bt108 => (if 0 ≤ bt108.1 then (if bt108.1 < (l1.length : Int) then (some (rd l1 bt108.1, bt108.2.1, bt108.2.2)) else (none)) else (none))
theorem spec_l1Cur_among.calls (g : Nat) (s0_0 : List Int) (s0_1 : Int) (s0_2 : Int) (A1 : Option Addr) (c1 : Nat) (l1 : List Int) (r1 : Int) (r2 : Int) (r3 : Int) (w0 w : World) (hI : IsS78 w0 w g s0_0 s0_1 s0_2) (hB : Below w0.heap.size w0 w) (hr1 : Kd.C (Kd.int .i64) w A1 l1.length l1) (hc1 : l1.length ≤ c1) (hf1 : ∀ ad, A1 = some ad → 0 < l1.length → ad.block ≠ g) (h : spec_l1Cur_among.f s0_0 s0_1 s0_2 l1 = some (r1, r2, r3)) :
    Calls Try.prog 87 #[.pointer (some ⟨g, 0, none⟩), .slice A1 l1.length c1] w fun e w' => e = .returned (.int .i64 r1) ∧ IsS78 w0 w' g s0_0 r2 r3 ∧ Below w0.heap.size w0 w' ∧ KeepBut w w' g none := by
 have HR1 := aM hr1
 have HC1 := aM hc1
 clear hr1 hc1
 have HI0 := aM hI
 have HK := aM (KeepBut.refl w g none)
 have HL := aM hB.size
 clear hI
 have HW0 := aM hB.size
 have HB := aM hB
 clear hB
 have H : ((spec_l1Cur_pick.f s0_0 s0_1 s0_2 (l1.length : Int)).bind fun bt108 => (if 0 ≤ bt108.1 then (if bt108.1 < (l1.length : Int) then (some (rd l1 bt108.1, bt108.2.1, bt108.2.2)) else (none)) else (none))) = some (r1, r2, r3) := h
 clear h
 replace H := oB.mp H
 obtain ⟨⟨t108, t109, t110⟩, A30, H⟩ := H
 (try dsimp only at H)
 have A3 := aM A30
 clear A30
 obtain ⟨-, c4b0, H⟩ | ⟨c4, -, H⟩ := yif H
 rotate_left
 · exact absurd H (by simp)
 obtain ⟨-, c5b0, H⟩ | ⟨c5, -, H⟩ := yif H
 rotate_left
 · exact absurd H (by simp)
 simp only [Option.some.injEq, Prod.mk.injEq] at H
 obtain ⟨rfl, rfl, rfl⟩ := H
 go_enter Try.func87, Try.ntmps87
 go_wp2_with (first | (refine yL 9 Try.func85 #[.pointer (some ⟨g, 0, none⟩), .int .i64 (l1.length : Int)] ?_; (with_reducible refine (spec_l1Cur_pick.calls g s0_0 s0_1 s0_2 (l1.length : Int) t108 t109 t110 w0 _ (IsS78.x0 HI0.out) (xG1 HB.out (IsS78.ge HI0.out)) A3.out).mono ?_); rintro e w6 ⟨rfl, hi, hb, hk⟩; refine ⟨_, rfl, ?_⟩; replace HK := aM (KeepBut.trans (xK0 HK.out) hk (.inl rfl)); replace HB := aM (hb); replace HI0 := aM (hi); (try clear hb; try clear hk; try clear hi); have p111 : 0 ≤ (t108 : Int) := yA; have q111 : t108 < (l1.length : Int) := yA; obtain ⟨ad111, e111, hx111_0⟩ := Kd.at_int HR1.out t108 p111 q111; cases e111; replace hx111_0 := keep_cell HK.out hx111_0 (by first | (rw [add_block]; exact hf1 _ rfl (by omega)) | exact hf1 _ rfl (by omega) | exact hf1 ad111 rfl (by omega)); replace p111 := eq_true p111; replace q111 := eq_true q111))
 go_ret
 exact ⟨yF, IsS78.x0 HI0.out, xG1 HB.out (IsS78.ge HI0.out), xK0 HK.out⟩
def spec_l1Cur_one.f (s0_0 : List Int) (s0_1 : Int) (s0_2 : Int) (a1 : Int) : Option (Bool × Int × Int) := (spec_l1Cur_pick.f s0_0 s0_1 s0_2 a1).bind fun bt112 => (some ((bt112.1 == 0), bt112.2.1, bt112.2.2))
theorem spec_l1Cur_one.calls (g : Nat) (s0_0 : List Int) (s0_1 : Int) (s0_2 : Int) (a1 : Int) (r1 : Bool) (r2 : Int) (r3 : Int) (w0 w : World) (hI : IsS78 w0 w g s0_0 s0_1 s0_2) (hB : Below w0.heap.size w0 w) (h : spec_l1Cur_one.f s0_0 s0_1 s0_2 a1 = some (r1, r2, r3)) :
    Calls Try.prog 84 #[.pointer (some ⟨g, 0, none⟩), .int .i64 a1] w fun e w' => e = .returned (.bool r1) ∧ IsS78 w0 w' g s0_0 r2 r3 ∧ Below w0.heap.size w0 w' ∧ KeepBut w w' g none := by
  have HI0 := aM hI
  have HK := aM (KeepBut.refl w g none)
  have HL := aM hB.size
  clear hI
  have HW0 := aM hB.size
  have HB := aM hB
  clear hB
  have H : ((spec_l1Cur_pick.f s0_0 s0_1 s0_2 a1).bind fun bt112 => (some ((bt112.1 == 0), bt112.2.1, bt112.2.2))) = some (r1, r2, r3) := h
  clear h
  replace H := oB.mp H
  obtain ⟨⟨t112, t113, t114⟩, A30, H⟩ := H
  (try dsimp only at H)
  have A3 := aM A30
  clear A30
  simp only [Option.some.injEq, Prod.mk.injEq] at H
  obtain ⟨rfl, rfl, rfl⟩ := H
  go_enter Try.func84, Try.ntmps84
  go_wp2_with (first | (refine yL 7 Try.func85 #[.pointer (some ⟨g, 0, none⟩), .int .i64 a1] ?_; (with_reducible refine (spec_l1Cur_pick.calls g s0_0 s0_1 s0_2 a1 t112 t113 t114 w0 _ (IsS78.x0 HI0.out) (xG1 HB.out (IsS78.ge HI0.out)) A3.out).mono ?_); rintro e w4 ⟨rfl, hi, hb, hk⟩; refine ⟨_, rfl, ?_⟩; replace HK := aM (KeepBut.trans (xK0 HK.out) hk (.inl rfl)); replace HB := aM (hb); replace HI0 := aM (hi); (try clear hb; try clear hk; try clear hi)))
  go_ret
  exact ⟨yF, IsS78.x0 HI0.out, xG1 HB.out (IsS78.ge HI0.out), xK0 HK.out⟩
end Go.Proofs.Ytmfmgnpefjmieaa.PFnThresholdTables
