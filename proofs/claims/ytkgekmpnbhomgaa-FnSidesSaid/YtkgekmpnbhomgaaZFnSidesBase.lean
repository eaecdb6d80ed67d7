-- Own cut of words that the kit's print.sh has printed, and of own lemmas.
import Derived.Test.YtkgekmpnbhomgaaZFnSidesWMore
namespace Go.Proofs.Ytkgekmpnbhomgaa.Base
open Go Go.RowKit Go.Proofs.YtkgekmpnbhomgaaW.PrintWords Go.Proofs.YtkgekmpnbhomgaaW.PrintLast Go.Proofs.YtkgekmpnbhomgaaW.PrintMore
set_option linter.unusedVariables false
set_option linter.unusedSimpArgs false
theorem evp {α : Type} {c : Prop} [Decidable c] {A B : Nat → Option α} {r : α} (h : c) (e : Ev A r) : Ev (fun k => if c then A k else B k) r :=
  Ev.congr (fun k => if_pos h) e
theorem evn {α : Type} {c : Prop} [Decidable c] {A B : Nat → Option α} {r : α} (h : ¬ c) (e : Ev B r) : Ev (fun k => if c then A k else B k) r :=
  Ev.congr (fun k => if_neg h) e
theorem evb {α β : Type} {g : Nat → Option α} {f : Nat → α → Option β} {a : α} {r : β} (h : Ev g a) (k : Ev (fun n => f n a) r) : Ev (fun n => (g n).bind (f n)) r := Ev.bind h k
theorem evc {α : Type} {g : Option α} {r : α} (h : g = some r) : Ev (fun _ => g) r := ⟨0, fun _ _ => h⟩
theorem evs {α : Type} {r r' : α} (h : r = r') : Ev (fun _ => some r) r' := h ▸ Ev.now r
theorem evr {α : Type} {g : Nat → Option α} {r r' : α} (h : Ev g r) (e : r = r') : Ev g r' := e ▸ h
theorem w64 {x : Int} (h0 : -9223372036854775808 ≤ x) (h1 : x < 9223372036854775808) : wrap64 x = x := by unfold wrap64; omega
theorem w64s (i : Nat) (h : i < 9223372036854775807) : wrap64 ((i : Int) + 1) = ((i + 1 : Nat) : Int) := by unfold wrap64; omega
theorem rd_nat (l : List Int) (i : Nat) : rd l (i : Int) = l.getD i 0 := by simp [rd]
def bit (k i : Nat) : Nat := k / 2 ^ i % 2
theorem bit_lt (k i : Nat) : bit k i < 2 := Nat.mod_lt _ (by decide)
def sumN (f : Nat → Int) : Nat → Nat → Int
  | _, 0 => 0
  | i, d + 1 => f i + sumN f (i + 1) d
theorem sumN_le (f : Nat → Int) (b : Int) (h : ∀ k, 0 ≤ f k ∧ f k ≤ b) : ∀ d i, 0 ≤ sumN f i d ∧ sumN f i d ≤ b * d := by
  intro d
  induction d with
  | zero => intro i; simp [sumN]
  | succ d ih => intro i; have := ih (i + 1); have := h i; simp only [sumN]; push_cast; rw [Int.mul_add]; omega
def Tab (m : Nat) (l : List Int) : Prop := m ≤ 4 ∧ l.length = 2 ^ m ∧ ∀ x ∈ l, 0 ≤ x ∧ x ≤ 1
theorem Tab.len {m : Nat} {l : List Int} (h : Tab m l) : l.length ≤ 16 := by
  rw [h.2.1]; exact Nat.pow_le_pow_right (by decide) h.1
theorem Tab.at_ {m : Nat} {l : List Int} (h : Tab m l) (k : Nat) : 0 ≤ l.getD k 0 ∧ l.getD k 0 ≤ 1 := by
  by_cases hk : k < l.length
  · rw [List.getD_eq_getElem?_getD, List.getElem?_eq_getElem hk]; exact h.2.2 _ (List.getElem_mem hk)
  · rw [List.getD_eq_getElem?_getD, List.getElem?_eq_none (by omega)]; decide
def tcond (l : List Int) (a b c d : Nat) : Bool := decide (l.getD a 0 + l.getD b 0 = 2) && (decide (l.getD c 0 + l.getD d 0 = 0) && (decide (a &&& b = c &&& d) && decide (a ||| b = c ||| d)))
def s3 (l : List Int) (a b c : Nat) : Nat → Nat → Option (List Int) → Option (List Int)
  | _, 0, r => r
  | d, n + 1, r => if tcond l a b c d = true then some [(a : Int), (b : Int), (c : Int), (d : Int)] else s3 l a b c (d + 1) n r
def s2 (l : List Int) (a b : Nat) : Nat → Nat → Option (List Int) → Option (List Int)
  | _, 0, r => r
  | c, n + 1, r => s3 l a b c c (l.length - c) (s2 l a b (c + 1) n r)
def s1 (l : List Int) (a : Nat) : Nat → Nat → Option (List Int) → Option (List Int)
  | _, 0, r => r
  | b, n + 1, r => s2 l a b 0 l.length (s1 l a (b + 1) n r)
def s0 (l : List Int) : Nat → Nat → Option (List Int)
  | _, 0 => none
  | a, n + 1 => s1 l a a (l.length - a) (s0 l (a + 1) n)
def isum : List Int → Int
  | [] => 0
  | x :: l => x + isum l
def Vot (l : List Int) (q : Int) : Prop := (1 ≤ l.length ∧ l.length ≤ 8) ∧ (∀ x ∈ l, 0 ≤ x ∧ x ≤ 20) ∧ 1 ≤ q ∧ q ≤ isum l
theorem Vot.at_ {l : List Int} {q : Int} (h : Vot l q) (k : Nat) : 0 ≤ l.getD k 0 ∧ l.getD k 0 ≤ 20 := by
  by_cases hk : k < l.length
  · rw [List.getD_eq_getElem?_getD, List.getElem?_eq_getElem hk]; exact h.2.1 _ (List.getElem_mem hk)
  · rw [List.getD_eq_getElem?_getD, List.getElem?_eq_none (by omega)]; decide
def wterm (l : List Int) (c i : Nat) : Int := l.getD i 0 * (bit c i : Int)
def wsum (l : List Int) (c : Nat) : Int := sumN (wterm l c) 0 l.length
def winB (l : List Int) (q : Int) (c : Nat) : Bool := decide (wsum l c ≥ q)
theorem Vot.wterm {l : List Int} {q : Int} (h : Vot l q) (c i : Nat) : 0 ≤ wterm l c i ∧ wterm l c i ≤ 20 := by
  unfold Base.wterm
  have a := h.at_ i; have b := bit_lt c i
  obtain e | e : bit c i = 0 ∨ bit c i = 1 := by omega
  · rw [e]; simp
  · rw [e]; omega
theorem Vot.wsum {l : List Int} {q : Int} (h : Vot l q) (c : Nat) : 0 ≤ wsum l c ∧ wsum l c ≤ 160 := by
  have := sumN_le (Base.wterm l c) 20 (h.wterm c) l.length 0; have := h.1; unfold Base.wsum; omega
def inB (lo hi : Int) (l : List Int) : Bool := l.all fun x => decide (lo ≤ x ∧ x ≤ hi)
def rdl (l : List (List Int)) (i : Nat) : List Int := l.getD i []
theorem rdl_mem (l : List (List Int)) (i : Nat) (h : i < l.length) : rdl l i ∈ l := by
  unfold rdl; rw [List.getD_eq_getElem?_getD, List.getElem?_eq_getElem h]; exact List.getElem_mem h
def labB (l : List Int) : Bool := l.all fun x => decide (x = 1 ∨ x = -1)
def planeB (l : List Int) (b : Int) : Bool := decide (1 ≤ l.length ∧ l.length ≤ 4) && (inB (-99) 99 l && decide (-99 ≤ b ∧ b ≤ 99))
def Pla (l : List Int) (b : Int) : Prop := (1 ≤ l.length ∧ l.length ≤ 4) ∧ (∀ x ∈ l, -99 ≤ x ∧ x ≤ 99) ∧ -99 ≤ b ∧ b ≤ 99
theorem planeB_iff (l : List Int) (b : Int) : planeB l b = true ↔ Pla l b := by
  simp [planeB, inB, Pla]
def dot : List Int → List Int → Int
  | x :: a, y :: b => x * y + dot a b
  | _, _ => 0
theorem mul_bd {x y A B : Int} (hx : -A ≤ x ∧ x ≤ A) (hy : -B ≤ y ∧ y ≤ B) : -(A * B) ≤ x * y ∧ x * y ≤ A * B := by
  have hA : 0 ≤ A := by omega
  have hB : 0 ≤ B := by omega
  have h : (x * y).natAbs ≤ (A * B).natAbs := by
    rw [Int.natAbs_mul, Int.natAbs_mul]
    exact Nat.mul_le_mul (by omega) (by omega)
  have h2 : ((A * B).natAbs : Int) = A * B := Int.natAbs_of_nonneg (Int.mul_nonneg hA hB)
  omega
def sideV (l : List Int) (b : Int) (x : List Int) : Int := if dot l x ≥ b then 1 else -1
theorem map_set (f : Nat → Int) (n i : Nat) (v : Int) : ((List.range n).map f).set i v = (List.range n).map fun j => if j = i then v else f j := by
  apply List.ext_getElem?
  intro j
  by_cases hj : j < n
  · by_cases e : i = j
    · subst e; simp [List.getElem?_set, hj]
    · have e' : ¬ j = i := fun h => e h.symm
      simp [List.getElem?_set, e, e', hj]
  · simp [List.getElem?_set, hj]
def pointB (r : List Int) : Bool := decide (1 ≤ r.length ∧ r.length ≤ 4) && inB (-9) 9 r
def spok (p : List (List Int)) (i : Nat) : Bool := pointB (rdl p i) && decide ((rdl p i).length = (rdl p 0).length)
def lab1 (x : Int) : Bool := decide (x = 1 ∨ x = -1)
def sampB (p : List (List Int)) (y : List Int) : Bool := decide (p.length ≤ 16) && (decide (y.length = p.length) && (labB y && (List.range p.length).all (spok p)))
theorem sampB_at {p : List (List Int)} {y : List Int} (h : sampB p y = true) : p.length ≤ 16 ∧ y.length = p.length ∧ ∀ i, i < p.length → (rdl p i).length = (rdl p 0).length ∧ (1 ≤ (rdl p i).length ∧ (rdl p i).length ≤ 4) ∧ ∀ x ∈ rdl p i, -9 ≤ x ∧ x ≤ 9 := by
  simp only [sampB, spok, pointB, inB, Bool.and_eq_true, decide_eq_true_eq, List.all_eq_true, List.mem_range] at h
  obtain ⟨h1, h2, -, h3⟩ := h
  exact ⟨h1, h2, fun i hi => ⟨(h3 i hi).2, (h3 i hi).1.1, (h3 i hi).1.2⟩⟩
theorem labB_range (y : List Int) : labB y = (List.range y.length).all fun i => lab1 (y.getD i 0) := by
  rw [Bool.eq_iff_iff]
  simp only [labB, lab1, List.all_eq_true, List.mem_range]
  constructor
  · intro h i hi
    rw [List.getD_eq_getElem?_getD, List.getElem?_eq_getElem hi]
    exact h _ (List.getElem_mem hi)
  · intro h x hx
    obtain ⟨i, hi, rfl⟩ := List.mem_iff_getElem.1 hx
    have := h i hi
    rw [List.getD_eq_getElem?_getD, List.getElem?_eq_getElem hi] at this
    exact this
theorem all_both (n : Nat) (f g : Nat → Bool) : ((List.range n).all fun i => f i && g i) = ((List.range n).all f && (List.range n).all g) := by
  rw [Bool.eq_iff_iff]
  simp only [Bool.and_eq_true, List.all_eq_true, List.mem_range]
  exact ⟨fun h => ⟨fun x hx => (h x hx).1, fun x hx => (h x hx).2⟩, fun h x hx => ⟨h.1 x hx, h.2 x hx⟩⟩
def suitB (p : List (List Int)) (y : List Int) (l : List Int) (b : Int) : Bool := sampB p y && (planeB l b && (decide (p.length = 0) || decide ((rdl p 0).length = l.length)))
def errs (l : List Int) (b : Int) (p : List (List Int)) (y : List Int) (i : Nat) : Bool := decide (sideV l b (rdl p i) ≠ y.getD i 0)
def errV (l : List Int) (b : Int) (p : List (List Int)) (y : List Int) (n : Nat) : List Int := ((List.range n).filter (errs l b p y)).map fun i : Nat => (i : Int)
theorem errV_len (l : List Int) (b : Int) (p : List (List Int)) (y : List Int) (n : Nat) : (errV l b p y n).length ≤ n := by
  unfold errV; rw [List.length_map]; exact Nat.le_trans (List.length_filter_le ..) (by simp)
theorem errV_succ (l : List Int) (b : Int) (p : List (List Int)) (y : List Int) (n : Nat) : errV l b p y (n + 1) = if errs l b p y n = true then errV l b p y n ++ [(n : Int)] else errV l b p y n := by
  unfold errV
  rw [List.range_succ, List.filter_append]
  by_cases e : errs l b p y n = true
  · rw [if_pos e]; simp [List.filter, e]
  · rw [if_neg e]; simp [List.filter, e]
def fitsV (p : List (List Int)) (y : List Int) (l : List Int) (b : Int) : Bool × Bool := if suitB p y l b = true then ((errV l b p y p.length).length == 0, true) else (false, false)
def told (l : List Int) (q : Int) : List Int := (List.range (2 ^ l.length)).map fun c => if winB l q c = true then 1 else 0
theorem suitB_at {p : List (List Int)} {y : List Int} {l : List Int} {b : Int} (h : suitB p y l b = true) : p.length ≤ 16 ∧ y.length = p.length ∧ Pla l b ∧ ∀ i, i < p.length → (rdl p i).length = l.length ∧ ∀ x ∈ rdl p i, -9 ≤ x ∧ x ≤ 9 := by
  simp only [suitB, Bool.and_eq_true, Bool.or_eq_true, decide_eq_true_eq] at h
  obtain ⟨h1, h2, h3⟩ := h
  obtain ⟨a1, a2, a3⟩ := sampB_at h1
  exact ⟨a1, a2, (planeB_iff l b).1 h2, fun i hi => ⟨by have := (a3 i hi).1; omega, (a3 i hi).2.2⟩⟩
def far (p : List (List Int)) : Nat → Int
  | 0 => 0
  | n + 1 => if far p n > wrap64 (1 + dot (rdl p n) (rdl p n)) then far p n else wrap64 (1 + dot (rdl p n) (rdl p n))
end Go.Proofs.Ytkgekmpnbhomgaa.Base
