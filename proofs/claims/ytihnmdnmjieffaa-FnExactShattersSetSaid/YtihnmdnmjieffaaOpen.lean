/- Own lemmas: how data that came in (slices, slices of slices) read as the printed contracts ask it. -/
import Derived.Test.YtihnmdnmjieffaaWMore
import Derived.ProofKit
import Derived.Lib.SmallJoins
import Derived.Deep.Matrix
namespace Go.Proofs.Ytihnmdnmjieffaa.Open
open Go Go.RowKit Go.ChangeShapes Go.WideShapes Go.Deep Go.Proofs.YtihnmdnmjieffaaW.PrintWords
set_option linter.unusedVariables false
section
variable {H : Type} {enc : TypeId × Value → H} {P : Program} {w : World} {base : Nat} {held : Bool}
theorem read_ints {t e : TypeId} {k : IntKind} {fuel : Nat} {cs : List Value} {x : DataW H × List MemPlace} (ht : P.underlying t = some (.slice e)) (he : P.underlying e = some (.int k)) (ce : P.cellsOf e = 1)
    (h : DataW.trod enc P w base (fun _ => true) held fuel t cs = some x) :
    ∃ (A : Option Addr) (cap : Nat) (l : List Int), cs = [.slice A l.length cap] ∧ Kd.C (Kd.int k) w A l.length l ∧ l.length ≤ cap ∧ l.length ≤ maxLen ∧ ∀ n ∈ l, (Lit.int k n).wf = true := by
  rcases open_ints ht he ce h with ⟨hcs, _⟩ | ⟨a, n, c, zs, hcs, _, hl, hm, hz, _, hcell, hwz⟩
  · obtain ⟨l, e1, h1, h2, h3, h4⟩ := ReadsInt.ofRowC (k := k) (w := w) (a := none) (len := 0) (cap := 0) (zs := []) (.inl ⟨rfl, rfl, rfl, rfl⟩)
    refine ⟨none, 0, l, by rw [hcs, ← e1], Kd.C_of_reads (d := (0 : Int)) (h1 := fun _ => rfl) h1, h4, h2, h3⟩
  · obtain ⟨l, e1, h1, h2, h3, h4⟩ := ReadsInt.ofRowC (k := k) (w := w) (a := some a) (len := n) (cap := c) (zs := zs) (.inr ⟨_, rfl, hl, hm, by simpa using hz, hcell, hwz⟩)
    exact ⟨some a, c, l, by rw [hcs, ← e1], Kd.C_of_reads (d := (0 : Int)) (h1 := fun _ => rfl) h1, h4, h2, h3⟩
theorem read_rows {t e q : TypeId} {k : IntKind} {fuel : Nat} {cs : List Value} {x : DataW H × List MemPlace} (ht : P.underlying t = some (.slice e)) (he : P.underlying e = some (.slice q)) (hq : P.underlying q = some (.int k)) (ce : P.cellsOf e = 1) (cq : P.cellsOf q = 1)
    (h : DataW.trod enc P w base (fun _ => true) held fuel t cs = some x) :
    ∃ (A : Option Addr) (cap : Nat) (l : List (List Int)), cs = [.slice A l.length cap] ∧ Kd.C (Kd.slice q (Kd.int k)) w A l.length l ∧ l.length ≤ cap ∧ l.length ≤ maxLen ∧ ∀ r ∈ l, r.length ≤ maxLen ∧ ∀ n ∈ r, (Lit.int k n).wf = true := by
  rcases open_int_rows ht he hq ce cq h with ⟨hcs, _⟩ | ⟨a, len, cap, A, L, C, Z, hcs, _, hl, hm, _, hrow⟩
  · exact ⟨none, 0, [], hcs, ⟨rfl, by simp, fun h0 => absurd h0 (by simp)⟩, Nat.le_refl _, Nat.zero_le _, fun r hr => by cases hr⟩
  · have row : ∀ r, r < cap → ∃ l : List Int, l.length = L r ∧ Kd.C (Kd.int k) w (A r) l.length l ∧ l.length ≤ C r ∧ l.length ≤ maxLen ∧ ∀ n ∈ l, (Lit.int k n).wf = true := by
      intro r hr
      obtain ⟨_, r1, r2, r3, r4, r5, r6⟩ := hrow r hr
      have hh : (A r = none ∧ L r = 0 ∧ C r = 0 ∧ Z r = []) ∨ ∃ x, A r = some x ∧ L r ≤ C r ∧ C r ≤ maxLen ∧ (Z r).length = C r ∧ (∀ i, i < (Z r).length → w.cell? (x.add i) = some (.int k ((Z r).getD i 0))) ∧ ∀ n ∈ Z r, (Lit.int k n).wf = true := by
        cases hA : A r with
        | none =>
          have := r5 hA
          exact .inl ⟨rfl, by omega, this, List.eq_nil_of_length_eq_zero (by omega)⟩
        | some a' => exact .inr ⟨a', rfl, r1, r2, r3, fun i hi => (r6 a' hA).2 i (by omega), r4⟩
      obtain ⟨l, e1, h1, h2, h3, h4⟩ := ReadsInt.ofRowC hh
      exact ⟨l, e1.symm, Kd.C_of_reads (d := (0 : Int)) (h1 := fun _ => rfl) h1, h4, h2, h3⟩
    obtain ⟨f, hf⟩ := choose_lt row
    refine ⟨some a, cap, (List.range len).map f, by simpa using hcs, ⟨rfl, ?_, fun _ => ⟨a, rfl, ?_⟩⟩, by simpa using hl, ?_, ?_⟩
    · simp; unfold maxLen at hm; omega
    · intro j p hj
      have hjl : j < len := by
        have := (List.getElem?_eq_some_iff.1 hj).1
        simpa using this
      have hp : p = f j := by
        rw [List.getElem?_map, List.getElem?_range hjl] at hj
        simpa using hj.symm
      subst hp
      obtain ⟨g1, g2, g3, g4, g5⟩ := hf j (by omega)
      refine ⟨[.slice (A j) (f j).length (C j)], rfl, ⟨A j, C j, rfl, g3, g2⟩, ?_⟩
      intro i u hu
      have hi : i = 0 := by
        have := (List.getElem?_eq_some_iff.1 hu).1
        simpa using this
      subst hi
      have hc := (hrow j (by omega)).1
      rw [← g1] at hc
      simp only [List.getElem?_cons_zero, Option.some.injEq] at hu
      subst hu
      show w.cell? (a.add (j * 1 + 0)) = _
      rw [Nat.mul_one, Nat.add_zero]
      exact hc
    · simp; omega
    · intro r hr
      obtain ⟨j, hj, rfl⟩ := List.mem_map.1 hr
      have := List.mem_range.1 hj
      obtain ⟨_, _, _, g4, g5⟩ := hf j (by omega)
      exact ⟨g4, g5⟩
end
end Go.Proofs.Ytihnmdnmjieffaa.Open
