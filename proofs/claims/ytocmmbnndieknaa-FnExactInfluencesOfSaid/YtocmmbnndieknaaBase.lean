/- Own lemmas on whole numbers, lists and rounds; nothing of the program stands here. -/
import Derived.Test.YtocmmbnndieknaaWMore
namespace Go.Proofs.Ytocmmbnndieknaa.Base
open Go Go.RowKit Go.Proofs.YtocmmbnndieknaaW.PrintWords Go.Proofs.YtocmmbnndieknaaW.PrintLast Go.Proofs.YtocmmbnndieknaaW.PrintMore
set_option linter.unusedVariables false
set_option linter.unusedSimpArgs false

/-! ### rounds -/
theorem evp {α : Type} {c : Prop} [Decidable c] {A B : Nat → Option α} {r : α} (h : c) (e : Ev A r) : Ev (fun k => if c then A k else B k) r :=
  Ev.congr (fun k => if_pos h) e
theorem evn {α : Type} {c : Prop} [Decidable c] {A B : Nat → Option α} {r : α} (h : ¬ c) (e : Ev B r) : Ev (fun k => if c then A k else B k) r :=
  Ev.congr (fun k => if_neg h) e
theorem evb {α β : Type} {g : Nat → Option α} {f : Nat → α → Option β} {a : α} {r : β} (h : Ev g a) (k : Ev (fun n => f n a) r) : Ev (fun n => (g n).bind (f n)) r := Ev.bind h k
theorem evc {α : Type} {g : Option α} {r : α} (h : g = some r) : Ev (fun _ => g) r := ⟨0, fun _ _ => h⟩
theorem evs {α : Type} {r r' : α} (h : r = r') : Ev (fun _ => some r) r' := h ▸ Ev.now r
theorem evr {α : Type} {g : Nat → Option α} {r r' : α} (h : Ev g r) (e : r = r') : Ev g r' := e ▸ h

/-! ### numbers -/
theorem w64 {x : Int} (h0 : -9223372036854775808 ≤ x) (h1 : x < 9223372036854775808) : wrap64 x = x := by unfold wrap64; omega
theorem w64s (i : Nat) (h : i < 9223372036854775807) : wrap64 ((i : Int) + 1) = ((i + 1 : Nat) : Int) := by unfold wrap64; omega
theorem wfi {x : Int} (h : (Lit.int .i64 x).wf = true) : -9223372036854775808 ≤ x ∧ x < 9223372036854775808 := by
  simp only [Lit.wf, Bool.and_eq_true, decide_eq_true_eq, IntKind.min, IntKind.max, IntKind.signed, IntKind.bits] at h
  simp at h
  omega
theorem rd_nat (l : List Int) (i : Nat) : rd l (i : Int) = l.getD i 0 := by simp [rd]
theorem shl1 (n : Nat) (h : n ≤ 62) : shl .i64 1 (n : Int) = ((2 ^ n : Nat) : Int) := by
  unfold shl
  have e : min (n : Int).toNat (IntKind.bits .i64) = n := by simp [IntKind.bits]; omega
  have hp : (2 : Nat) ^ n ≤ 2 ^ 62 := Nat.pow_le_pow_right (by decide) h
  rw [e, IntKind.wrap_i64]
  have : ((2 : Int) ^ n) = ((2 ^ n : Nat) : Int) := by simp
  rw [Int.one_mul, this]
  generalize 2 ^ n = q at *
  omega
theorem shlm (x n : Nat) (h : x * 2 ^ n < 2 ^ 62) (hn : n ≤ 62) : shl .i64 (x : Int) (n : Int) = ((x * 2 ^ n : Nat) : Int) := by
  unfold shl
  have e : min (n : Int).toNat (IntKind.bits .i64) = n := by simp [IntKind.bits]; omega
  rw [e, IntKind.wrap_i64]
  have : ((x : Int) * 2 ^ n) = ((x * 2 ^ n : Nat) : Int) := by simp
  rw [this]
  omega
theorem shrn (x n : Nat) (h : n ≤ 64) : shr .i64 (x : Int) (n : Int) = ((x / 2 ^ n : Nat) : Int) := by
  unfold shr
  have e : min (n : Int).toNat (IntKind.bits .i64) = n := by simp [IntKind.bits]; omega
  rw [e]; simp
theorem wr63 (n : Int) (h₀ : 0 ≤ n) (h₁ : n < 2 ^ 63) : IntKind.i64.wrap n = n := by rw [IntKind.wrap_i64]; omega
theorem and_nat (a b : Nat) (ha : a < 2 ^ 63) (hb : b < 2 ^ 63) : Go.bits .and .i64 (a : Int) (b : Int) = ((a &&& b : Nat) : Int) := (bits_nat .i64 63 (by decide) wr63 a b ha hb).1
theorem or_nat (a b : Nat) (ha : a < 2 ^ 63) (hb : b < 2 ^ 63) : Go.bits .or .i64 (a : Int) (b : Int) = ((a ||| b : Nat) : Int) := (bits_nat .i64 63 (by decide) wr63 a b ha hb).2
theorem and1 (a : Nat) (ha : a < 2 ^ 63) : Go.bits .and .i64 (a : Int) 1 = ((a % 2 : Nat) : Int) := by
  have := and_nat a 1 ha (by decide)
  rw [Nat.and_one_is_mod] at this; exact this
/-- the digit i of k -/
def bit (k i : Nat) : Nat := k / 2 ^ i % 2
theorem bit_lt (k i : Nat) : bit k i < 2 := Nat.mod_lt _ (by decide)
theorem digit (k i : Nat) (hk : k < 2 ^ 63) (hi : i ≤ 64) : Go.bits .and .i64 (shr .i64 (k : Int) (i : Int)) 1 = ((bit k i : Nat) : Int) := by
  rw [shrn k i hi, and1 _ (Nat.lt_of_le_of_lt (Nat.div_le_self _ _) hk)]; rfl
theorem bit_or (k i : Nat) (h : bit k i = 0) : k ||| 2 ^ i = k + 2 ^ i := by
  have h1 : k = 2 ^ (i + 1) * (k / 2 ^ (i + 1)) + k % 2 ^ i := by
    have a := Nat.div_add_mod k (2 ^ i)
    have b := Nat.div_add_mod (k / 2 ^ i) 2
    rw [show k / 2 ^ i % 2 = 0 from h] at b
    rw [Nat.div_div_eq_div_mul, ← Nat.pow_succ] at b
    have c : 2 ^ i * (2 * (k / 2 ^ (i + 1)) + 0) + k % 2 ^ i = k := by rw [b]; exact a
    rw [Nat.pow_succ] at c ⊢
    rw [Nat.mul_assoc, ← Nat.add_zero (2 * _)]; exact c.symm
  have h2 : k % 2 ^ i < 2 ^ i := Nat.mod_lt _ (Nat.two_pow_pos i)
  have h3 : k = 2 ^ (i + 1) * (k / 2 ^ (i + 1)) ||| k % 2 ^ i := by
    rw [← Nat.two_pow_add_eq_or_of_lt (Nat.lt_of_lt_of_le h2 (Nat.pow_le_pow_right (by decide) (Nat.le_succ i)))]
    exact h1
  have h4 : k % 2 ^ i ||| 2 ^ i = 2 ^ i + k % 2 ^ i := by
    rw [Nat.or_comm]
    have := Nat.two_pow_add_eq_or_of_lt h2 1
    simpa using this.symm
  have h5 : k % 2 ^ i + 2 ^ i < 2 ^ (i + 1) := by rw [Nat.pow_succ]; omega
  calc k ||| 2 ^ i = 2 ^ (i + 1) * (k / 2 ^ (i + 1)) ||| (k % 2 ^ i ||| 2 ^ i) := by rw [← Nat.or_assoc, ← h3]
    _ = 2 ^ (i + 1) * (k / 2 ^ (i + 1)) + (2 ^ i + k % 2 ^ i) := by rw [h4, Nat.two_pow_add_eq_or_of_lt (by omega)]
    _ = k + 2 ^ i := by omega

/-! ### lists -/
/-- m, m + 1, .. : as many numbers as l has -/
def marks (l : List Int) (m : Int) : List Int := (List.range l.length).map fun j : Nat => m + (j : Int)
theorem marks_length (l : List Int) (m : Int) : (marks l m).length = l.length := by simp [marks]
theorem marks_at (l : List Int) (m : Int) (i : Nat) (h : i < l.length) : (marks l m).getD i 0 = m + i := by
  simp [marks, List.getD_eq_getElem?_getD, List.getElem?_map, List.getElem?_range h]
theorem set_take (l : List Int) (i : Nat) (v : Int) (h : i < l.length) : (l.set i v).take (i + 1) = l.take i ++ [v] := by
  rw [List.take_set, List.set_eq_take_append_cons_drop]
  have hl : (l.take (i+1)).length = i + 1 := by simp; omega
  rw [if_pos (by omega)]
  simp [List.take_take]
/-! ### sums -/
/-- f i + f (i + 1) + .. : d numbers -/
def sumN (f : Nat → Int) : Nat → Nat → Int
  | _, 0 => 0
  | i, d + 1 => f i + sumN f (i + 1) d
theorem sumN_le (f : Nat → Int) (b : Int) (h : ∀ k, 0 ≤ f k ∧ f k ≤ b) : ∀ d i, 0 ≤ sumN f i d ∧ sumN f i d ≤ b * d := by
  intro d
  induction d with
  | zero => intro i; simp [sumN]
  | succ d ih => intro i; have := ih (i + 1); have := h i; simp only [sumN]; push_cast; rw [Int.mul_add]; omega
theorem sumN_congr (f g : Nat → Int) (n : Nat) (h : ∀ k, k < n → f k = g k) : ∀ d i, i + d ≤ n → sumN f i d = sumN g i d := by
  intro d
  induction d with
  | zero => intro i _; rfl
  | succ d ih => intro i hi; simp only [sumN]; rw [h i (by omega), ih (i + 1) (by omega)]

/-! ### tables -/
theorem bit_add_lt {k i m : Nat} (hk : k < 2 ^ m) (hi : i < m) (hb : bit k i = 0) : k + 2 ^ i < 2 ^ m := by
  rw [← bit_or k i hb]
  exact Nat.or_lt_two_pow hk (Nat.pow_lt_pow_right (by decide) hi)
/-- A table of m bits. -/
def Tab (m : Nat) (l : List Int) : Prop := m ≤ 4 ∧ l.length = 2 ^ m ∧ ∀ x ∈ l, 0 ≤ x ∧ x ≤ 1
theorem Tab.len {m : Nat} {l : List Int} (h : Tab m l) : l.length ≤ 16 := by
  rw [h.2.1]; exact Nat.pow_le_pow_right (by decide) h.1
theorem Tab.at_ {m : Nat} {l : List Int} (h : Tab m l) (k : Nat) : 0 ≤ l.getD k 0 ∧ l.getD k 0 ≤ 1 := by
  by_cases hk : k < l.length
  · rw [List.getD_eq_getElem?_getD, List.getElem?_eq_getElem hk]; exact h.2.2 _ (List.getElem_mem hk)
  · rw [List.getD_eq_getElem?_getD, List.getElem?_eq_none (by omega)]; decide
/-- A one at k that is none when the bit i becomes 1; and the other way. -/
def lost (l : List Int) (i k : Nat) : Int := if bit k i = 1 then 0 else l.getD k 0 * (1 - l.getD (k + 2 ^ i) 0)
def won (l : List Int) (i k : Nat) : Int := if bit k i = 1 then 0 else l.getD (k + 2 ^ i) 0 * (1 - l.getD k 0)
theorem Tab.lost {m : Nat} {l : List Int} (h : Tab m l) (i k : Nat) : 0 ≤ lost l i k ∧ lost l i k ≤ 1 := by
  unfold Base.lost
  have a := h.at_ k; have b := h.at_ (k + 2 ^ i)
  generalize l.getD k 0 = x at *; generalize l.getD (k + 2 ^ i) 0 = y at *
  obtain rfl | rfl : x = 0 ∨ x = 1 := by omega
  all_goals split <;> omega
theorem Tab.won {m : Nat} {l : List Int} (h : Tab m l) (i k : Nat) : 0 ≤ won l i k ∧ won l i k ≤ 1 := by
  unfold Base.won
  have a := h.at_ k; have b := h.at_ (k + 2 ^ i)
  generalize l.getD k 0 = x at *; generalize l.getD (k + 2 ^ i) 0 = y at *
  obtain rfl | rfl : x = 0 ∨ x = 1 := by omega
  all_goals split <;> omega
def losses (l : List Int) (i : Nat) : Int := sumN (lost l i) 0 l.length
def gains (l : List Int) (i : Nat) : Int := sumN (won l i) 0 l.length
theorem Tab.losses {m : Nat} {l : List Int} (h : Tab m l) (i : Nat) : 0 ≤ losses l i ∧ losses l i ≤ 16 := by
  have := sumN_le (Base.lost l i) 1 (h.lost i) l.length 0; have := h.len; unfold Base.losses; omega
theorem Tab.gains {m : Nat} {l : List Int} (h : Tab m l) (i : Nat) : 0 ≤ gains l i ∧ gains l i ≤ 16 := by
  have := sumN_le (Base.won l i) 1 (h.won i) l.length 0; have := h.len; unfold Base.gains; omega
def isTab (n : Int) (l : List Int) : Bool := decide (0 ≤ n ∧ n ≤ 4) && (decide (l.length = 2 ^ n.toNat) && l.all fun x => decide (0 ≤ x ∧ x ≤ 1))
theorem isTab_iff (n : Int) (l : List Int) : isTab n l = true ↔ (0 ≤ n ∧ n ≤ 4) ∧ l.length = 2 ^ n.toNat ∧ ∀ x ∈ l, 0 ≤ x ∧ x ≤ 1 := by
  simp [isTab]
theorem isTab_tab {n : Int} {l : List Int} (h : isTab n l = true) : ∃ m : Nat, n = m ∧ Tab m l := by
  obtain ⟨⟨h0, h1⟩, h2, h3⟩ := (isTab_iff n l).1 h
  obtain ⟨m, rfl⟩ := Int.eq_ofNat_of_zero_le h0
  exact ⟨m, rfl, by omega, by simpa using h2, h3⟩

def influences (n : Int) (l : List Int) : List Int × Bool := if isTab n l = true then ((List.range n.toNat).map fun i => losses l i + gains l i, true) else ([], false)
end Go.Proofs.Ytocmmbnndieknaa.Base
