/- Own lemmas on whole numbers, lists and rounds; nothing of the program stands here. -/
import Derived.Test.YtddpdeoflaigeaaXFnExactMistakesOfMore
namespace Go.Proofs.Ytddpdeoflaigeaa.Base
open Go Go.RowKit Go.Proofs.YtddpdeoflaigeaaW.PrintWords Go.Proofs.YtddpdeoflaigeaaW.PrintLast Go.Proofs.YtddpdeoflaigeaaW.PrintMore
set_option linter.unusedVariables false
set_option linter.unusedSimpArgs false

theorem evp {α : Type} {c : Prop} [Decidable c] {A B : Nat → Option α} {r : α} (h : c) (e : Ev A r) : Ev (fun k => if c then A k else B k) r :=
  Ev.congr (fun k => if_pos h) e
theorem evn {α : Type} {c : Prop} [Decidable c] {A B : Nat → Option α} {r : α} (h : ¬ c) (e : Ev B r) : Ev (fun k => if c then A k else B k) r :=
  Ev.congr (fun k => if_neg h) e
theorem evb {α β : Type} {g : Nat → Option α} {f : Nat → α → Option β} {a : α} {r : β} (h : Ev g a) (k : Ev (fun n => f n a) r) : Ev (fun n => (g n).bind (f n)) r := Ev.bind h k
theorem evs {α : Type} {r r' : α} (h : r = r') : Ev (fun _ => some r) r' := h ▸ Ev.now r
theorem evr {α : Type} {g : Nat → Option α} {r r' : α} (h : Ev g r) (e : r = r') : Ev g r' := e ▸ h

theorem w64 {x : Int} (h0 : -9223372036854775808 ≤ x) (h1 : x < 9223372036854775808) : wrap64 x = x := by unfold wrap64; omega
theorem w64s (i : Nat) (h : i < 9223372036854775807) : wrap64 ((i : Int) + 1) = ((i + 1 : Nat) : Int) := by unfold wrap64; omega
theorem rd_nat (l : List Int) (i : Nat) : rd l (i : Int) = l.getD i 0 := by simp [rd]
/-- m, m + 1, .. : as many numbers as l has -/
def marks (l : List Int) (m : Int) : List Int := (List.range l.length).map fun j : Nat => m + (j : Int)
theorem marks_length (l : List Int) (m : Int) : (marks l m).length = l.length := by simp [marks]
theorem marks_at (l : List Int) (m : Int) (i : Nat) (h : i < l.length) : (marks l m).getD i 0 = m + i := by
  simp [marks, List.getD_eq_getElem?_getD, List.getElem?_map, List.getElem?_range h]
theorem set_take (l : List Int) (i : Nat) (v : Int) (h : i < l.length) : (l.set i v).take (i + 1) = l.take i ++ [v] := by
  rw [List.take_set, List.set_eq_take_append_cons_drop]
  have hl : (l.take (i+1)).length = i + 1 := by simp; omega
  rw [if_pos (by omega)]
  simp [List.take_take]
def inB (lo hi : Int) (l : List Int) : Bool := l.all fun x => decide (lo ≤ x ∧ x ≤ hi)
def rowsz : List (List Int) → Int → Int
  | [], m => m
  | r :: l, m => if (r.length : Int) ≤ m then rowsz l (m - r.length) else -1
def szv (l : List (List Int)) (m : Int) : Int := if (l.length : Int) ≤ m then rowsz l (m - l.length) else -1
theorem rowsz_ok : ∀ (l : List (List Int)) (m : Int), 0 ≤ m → (rowsz l m = -1 ∨ 0 ≤ rowsz l m) ∧ rowsz l m ≤ m ∧ (0 ≤ rowsz l m → ∀ r ∈ l, (r.length : Int) ≤ m) := by
  intro l
  induction l with
  | nil => intro m h; simp [rowsz]; omega
  | cons r l ih =>
    intro m h
    simp only [rowsz]
    by_cases e : (r.length : Int) ≤ m
    · rw [if_pos e]
      obtain ⟨h1, h2, h3⟩ := ih (m - r.length) (by omega)
      refine ⟨h1, by omega, fun h4 x hx => ?_⟩
      rcases List.mem_cons.1 hx with rfl | hx
      · exact e
      · have := h3 h4 x hx; omega
    · rw [if_neg e]; exact ⟨.inl rfl, by omega, fun h => by omega⟩
theorem szv_ok (l : List (List Int)) (m : Int) (h : 0 ≤ m) : (szv l m = -1 ∨ 0 ≤ szv l m) ∧ szv l m ≤ m ∧ (0 ≤ szv l m → (l.length : Int) ≤ m ∧ ∀ r ∈ l, (r.length : Int) ≤ m) := by
  unfold szv
  by_cases e : (l.length : Int) ≤ m
  · rw [if_pos e]
    obtain ⟨h1, h2, h3⟩ := rowsz_ok l (m - l.length) (by omega)
    exact ⟨h1, by omega, fun h4 => ⟨e, fun r hr => by have := h3 h4 r hr; omega⟩⟩
  · rw [if_neg e]; exact ⟨.inl rfl, by omega, fun h => by omega⟩
def rdl (l : List (List Int)) (i : Nat) : List Int := l.getD i []
theorem rdl_mem (l : List (List Int)) (i : Nat) (h : i < l.length) : rdl l i ∈ l := by
  unfold rdl; rw [List.getD_eq_getElem?_getD, List.getElem?_eq_getElem h]; exact List.getElem_mem h
theorem rdl_drop (l : List (List Int)) (i : Nat) (h : i < l.length) : l.drop i = rdl l i :: l.drop (i + 1) := by
  rw [List.drop_eq_getElem_cons h]; simp [rdl, List.getD_eq_getElem?_getD, List.getElem?_eq_getElem h]
theorem setl_take (l : List (List Int)) (i : Nat) (v : List Int) (h : i < l.length) : (l.set i v).take (i + 1) = l.take i ++ [v] := by
  rw [List.take_set, List.set_eq_take_append_cons_drop]
  have hl : (l.take (i+1)).length = i + 1 := by simp; omega
  rw [if_pos (by omega)]
  simp [List.take_take]
def labB (l : List Int) : Bool := l.all fun x => decide (x = 1 ∨ x = -1)
def planeB (l : List Int) (b : Int) : Bool := decide (1 ≤ l.length ∧ l.length ≤ 4) && (inB (-99) 99 l && decide (-99 ≤ b ∧ b ≤ 99))
def Pla (l : List Int) (b : Int) : Prop := (1 ≤ l.length ∧ l.length ≤ 4) ∧ (∀ x ∈ l, -99 ≤ x ∧ x ≤ 99) ∧ -99 ≤ b ∧ b ≤ 99
theorem planeB_iff (l : List Int) (b : Int) : planeB l b = true ↔ Pla l b := by
  simp [planeB, inB, Pla]
def dot : List Int → List Int → Int
  | x :: a, y :: b => x * y + dot a b
  | _, _ => 0
theorem mul_bd {x y A B : Int} (hx : -A ≤ x ∧ x ≤ A) (hy : -B ≤ y ∧ y ≤ B) : -(A * B) ≤ x * y ∧ x * y ≤ A * B := by
  have hA : 0 ≤ A := by omega
  have hB : 0 ≤ B := by omega
  have h : (x * y).natAbs ≤ (A * B).natAbs := by
    rw [Int.natAbs_mul, Int.natAbs_mul]
    exact Nat.mul_le_mul (by omega) (by omega)
  have h2 : ((A * B).natAbs : Int) = A * B := Int.natAbs_of_nonneg (Int.mul_nonneg hA hB)
  omega
def sideV (l : List Int) (b : Int) (x : List Int) : Int := if dot l x ≥ b then 1 else -1
def pointB (r : List Int) : Bool := decide (1 ≤ r.length ∧ r.length ≤ 4) && inB (-9) 9 r
def spok (p : List (List Int)) (i : Nat) : Bool := pointB (rdl p i) && decide ((rdl p i).length = (rdl p 0).length)
def lab1 (x : Int) : Bool := decide (x = 1 ∨ x = -1)
def sampB (p : List (List Int)) (y : List Int) : Bool := decide (p.length ≤ 16) && (decide (y.length = p.length) && (labB y && (List.range p.length).all (spok p)))
theorem sampB_at {p : List (List Int)} {y : List Int} (h : sampB p y = true) : p.length ≤ 16 ∧ y.length = p.length ∧ ∀ i, i < p.length → (rdl p i).length = (rdl p 0).length ∧ (1 ≤ (rdl p i).length ∧ (rdl p i).length ≤ 4) ∧ ∀ x ∈ rdl p i, -9 ≤ x ∧ x ≤ 9 := by
  simp only [sampB, spok, pointB, inB, Bool.and_eq_true, decide_eq_true_eq, List.all_eq_true, List.mem_range] at h
  obtain ⟨h1, h2, -, h3⟩ := h
  exact ⟨h1, h2, fun i hi => ⟨(h3 i hi).2, (h3 i hi).1.1, (h3 i hi).1.2⟩⟩
theorem labB_range (y : List Int) : labB y = (List.range y.length).all fun i => lab1 (y.getD i 0) := by
  rw [Bool.eq_iff_iff]
  simp only [labB, lab1, List.all_eq_true, List.mem_range]
  constructor
  · intro h i hi
    rw [List.getD_eq_getElem?_getD, List.getElem?_eq_getElem hi]
    exact h _ (List.getElem_mem hi)
  · intro h x hx
    obtain ⟨i, hi, rfl⟩ := List.mem_iff_getElem.1 hx
    have := h i hi
    rw [List.getD_eq_getElem?_getD, List.getElem?_eq_getElem hi] at this
    exact this
theorem all_both (n : Nat) (f g : Nat → Bool) : ((List.range n).all fun i => f i && g i) = ((List.range n).all f && (List.range n).all g) := by
  rw [Bool.eq_iff_iff]
  simp only [Bool.and_eq_true, List.all_eq_true, List.mem_range]
  exact ⟨fun h => ⟨fun x hx => (h x hx).1, fun x hx => (h x hx).2⟩, fun h x hx => ⟨h.1 x hx, h.2 x hx⟩⟩
def suitB (p : List (List Int)) (y : List Int) (l : List Int) (b : Int) : Bool := sampB p y && (planeB l b && (decide (p.length = 0) || decide ((rdl p 0).length = l.length)))
/-- the places where a plane errs -/
def errs (l : List Int) (b : Int) (p : List (List Int)) (y : List Int) (i : Nat) : Bool := decide (sideV l b (rdl p i) ≠ y.getD i 0)
def errV (l : List Int) (b : Int) (p : List (List Int)) (y : List Int) (n : Nat) : List Int := ((List.range n).filter (errs l b p y)).map fun i : Nat => (i : Int)
theorem errV_len (l : List Int) (b : Int) (p : List (List Int)) (y : List Int) (n : Nat) : (errV l b p y n).length ≤ n := by
  unfold errV; rw [List.length_map]; exact Nat.le_trans (List.length_filter_le ..) (by simp)
theorem errV_succ (l : List Int) (b : Int) (p : List (List Int)) (y : List Int) (n : Nat) : errV l b p y (n + 1) = if errs l b p y n = true then errV l b p y n ++ [(n : Int)] else errV l b p y n := by
  unfold errV
  rw [List.range_succ, List.filter_append]
  by_cases e : errs l b p y n = true
  · rw [if_pos e]; simp [List.filter, e]
  · rw [if_neg e]; simp [List.filter, e]
def mv (l : List Int) (b : Int) (p : List (List Int)) (y : List Int) (i : Nat) : Int := y.getD i 0 * (2 * dot l (rdl p i) - 2 * b + 1)
theorem suitB_at {p : List (List Int)} {y : List Int} {l : List Int} {b : Int} (h : suitB p y l b = true) : p.length ≤ 16 ∧ y.length = p.length ∧ Pla l b ∧ ∀ i, i < p.length → (rdl p i).length = l.length ∧ ∀ x ∈ rdl p i, -9 ≤ x ∧ x ≤ 9 := by
  simp only [suitB, Bool.and_eq_true, Bool.or_eq_true, decide_eq_true_eq] at h
  obtain ⟨h1, h2, h3⟩ := h
  obtain ⟨a1, a2, a3⟩ := sampB_at h1
  exact ⟨a1, a2, (planeB_iff l b).1 h2, fun i hi => ⟨by have := (a3 i hi).1; omega, (a3 i hi).2.2⟩⟩
end Go.Proofs.Ytddpdeoflaigeaa.Base
