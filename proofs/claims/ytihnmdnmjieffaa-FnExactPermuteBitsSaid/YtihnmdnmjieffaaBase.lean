/- Own lemmas on whole numbers, lists and rounds; nothing of the program stands here. -/
import Derived.Test.YtihnmdnmjieffaaWMore
namespace Go.Proofs.Ytihnmdnmjieffaa.Base
open Go Go.RowKit Go.Proofs.YtihnmdnmjieffaaW.PrintWords Go.Proofs.YtihnmdnmjieffaaW.PrintLast Go.Proofs.YtihnmdnmjieffaaW.PrintMore
set_option linter.unusedVariables false
set_option linter.unusedSimpArgs false

/-! ### rounds -/
theorem evp {α : Type} {c : Prop} [Decidable c] {A B : Nat → Option α} {r : α} (h : c) (e : Ev A r) : Ev (fun k => if c then A k else B k) r :=
  Ev.congr (fun k => if_pos h) e
theorem evn {α : Type} {c : Prop} [Decidable c] {A B : Nat → Option α} {r : α} (h : ¬ c) (e : Ev B r) : Ev (fun k => if c then A k else B k) r :=
  Ev.congr (fun k => if_neg h) e
theorem evb {α β : Type} {g : Nat → Option α} {f : Nat → α → Option β} {a : α} {r : β} (h : Ev g a) (k : Ev (fun n => f n a) r) : Ev (fun n => (g n).bind (f n)) r := Ev.bind h k
theorem evc {α : Type} {g : Option α} {r : α} (h : g = some r) : Ev (fun _ => g) r := ⟨0, fun _ _ => h⟩
theorem evs {α : Type} {r r' : α} (h : r = r') : Ev (fun _ => some r) r' := h ▸ Ev.now r
theorem evr {α : Type} {g : Nat → Option α} {r r' : α} (h : Ev g r) (e : r = r') : Ev g r' := e ▸ h

/-! ### numbers -/
theorem w64 {x : Int} (h0 : -9223372036854775808 ≤ x) (h1 : x < 9223372036854775808) : wrap64 x = x := by unfold wrap64; omega
theorem w64s (i : Nat) (h : i < 9223372036854775807) : wrap64 ((i : Int) + 1) = ((i + 1 : Nat) : Int) := by unfold wrap64; omega
theorem wfi {x : Int} (h : (Lit.int .i64 x).wf = true) : -9223372036854775808 ≤ x ∧ x < 9223372036854775808 := by
  simp only [Lit.wf, Bool.and_eq_true, decide_eq_true_eq, IntKind.min, IntKind.max, IntKind.signed, IntKind.bits] at h
  simp at h
  omega
theorem rd_nat (l : List Int) (i : Nat) : rd l (i : Int) = l.getD i 0 := by simp [rd]
theorem shl1 (n : Nat) (h : n ≤ 62) : shl .i64 1 (n : Int) = ((2 ^ n : Nat) : Int) := by
  unfold shl
  have e : min (n : Int).toNat (IntKind.bits .i64) = n := by simp [IntKind.bits]; omega
  have hp : (2 : Nat) ^ n ≤ 2 ^ 62 := Nat.pow_le_pow_right (by decide) h
  rw [e, IntKind.wrap_i64]
  have : ((2 : Int) ^ n) = ((2 ^ n : Nat) : Int) := by simp
  rw [Int.one_mul, this]
  generalize 2 ^ n = q at *
  omega
theorem shlm (x n : Nat) (h : x * 2 ^ n < 2 ^ 62) (hn : n ≤ 62) : shl .i64 (x : Int) (n : Int) = ((x * 2 ^ n : Nat) : Int) := by
  unfold shl
  have e : min (n : Int).toNat (IntKind.bits .i64) = n := by simp [IntKind.bits]; omega
  rw [e, IntKind.wrap_i64]
  have : ((x : Int) * 2 ^ n) = ((x * 2 ^ n : Nat) : Int) := by simp
  rw [this]
  omega
theorem shrn (x n : Nat) (h : n ≤ 64) : shr .i64 (x : Int) (n : Int) = ((x / 2 ^ n : Nat) : Int) := by
  unfold shr
  have e : min (n : Int).toNat (IntKind.bits .i64) = n := by simp [IntKind.bits]; omega
  rw [e]; simp
theorem wr63 (n : Int) (h₀ : 0 ≤ n) (h₁ : n < 2 ^ 63) : IntKind.i64.wrap n = n := by rw [IntKind.wrap_i64]; omega
theorem and_nat (a b : Nat) (ha : a < 2 ^ 63) (hb : b < 2 ^ 63) : Go.bits .and .i64 (a : Int) (b : Int) = ((a &&& b : Nat) : Int) := (bits_nat .i64 63 (by decide) wr63 a b ha hb).1
theorem or_nat (a b : Nat) (ha : a < 2 ^ 63) (hb : b < 2 ^ 63) : Go.bits .or .i64 (a : Int) (b : Int) = ((a ||| b : Nat) : Int) := (bits_nat .i64 63 (by decide) wr63 a b ha hb).2
theorem and1 (a : Nat) (ha : a < 2 ^ 63) : Go.bits .and .i64 (a : Int) 1 = ((a % 2 : Nat) : Int) := by
  have := and_nat a 1 ha (by decide)
  rw [Nat.and_one_is_mod] at this; exact this
/-- the digit i of k -/
def bit (k i : Nat) : Nat := k / 2 ^ i % 2
theorem bit_lt (k i : Nat) : bit k i < 2 := Nat.mod_lt _ (by decide)
theorem digit (k i : Nat) (hk : k < 2 ^ 63) (hi : i ≤ 64) : Go.bits .and .i64 (shr .i64 (k : Int) (i : Int)) 1 = ((bit k i : Nat) : Int) := by
  rw [shrn k i hi, and1 _ (Nat.lt_of_le_of_lt (Nat.div_le_self _ _) hk)]; rfl
theorem bit_or (k i : Nat) (h : bit k i = 0) : k ||| 2 ^ i = k + 2 ^ i := by
  have h1 : k = 2 ^ (i + 1) * (k / 2 ^ (i + 1)) + k % 2 ^ i := by
    have a := Nat.div_add_mod k (2 ^ i)
    have b := Nat.div_add_mod (k / 2 ^ i) 2
    rw [show k / 2 ^ i % 2 = 0 from h] at b
    rw [Nat.div_div_eq_div_mul, ← Nat.pow_succ] at b
    have c : 2 ^ i * (2 * (k / 2 ^ (i + 1)) + 0) + k % 2 ^ i = k := by rw [b]; exact a
    rw [Nat.pow_succ] at c ⊢
    rw [Nat.mul_assoc, ← Nat.add_zero (2 * _)]; exact c.symm
  have h2 : k % 2 ^ i < 2 ^ i := Nat.mod_lt _ (Nat.two_pow_pos i)
  have h3 : k = 2 ^ (i + 1) * (k / 2 ^ (i + 1)) ||| k % 2 ^ i := by
    rw [← Nat.two_pow_add_eq_or_of_lt (Nat.lt_of_lt_of_le h2 (Nat.pow_le_pow_right (by decide) (Nat.le_succ i)))]
    exact h1
  have h4 : k % 2 ^ i ||| 2 ^ i = 2 ^ i + k % 2 ^ i := by
    rw [Nat.or_comm]
    have := Nat.two_pow_add_eq_or_of_lt h2 1
    simpa using this.symm
  have h5 : k % 2 ^ i + 2 ^ i < 2 ^ (i + 1) := by rw [Nat.pow_succ]; omega
  calc k ||| 2 ^ i = 2 ^ (i + 1) * (k / 2 ^ (i + 1)) ||| (k % 2 ^ i ||| 2 ^ i) := by rw [← Nat.or_assoc, ← h3]
    _ = 2 ^ (i + 1) * (k / 2 ^ (i + 1)) + (2 ^ i + k % 2 ^ i) := by rw [h4, Nat.two_pow_add_eq_or_of_lt (by omega)]
    _ = k + 2 ^ i := by omega

/-! ### lists -/
/-- m, m + 1, .. : as many numbers as l has -/
def marks (l : List Int) (m : Int) : List Int := (List.range l.length).map fun j : Nat => m + (j : Int)
theorem marks_length (l : List Int) (m : Int) : (marks l m).length = l.length := by simp [marks]
theorem marks_at (l : List Int) (m : Int) (i : Nat) (h : i < l.length) : (marks l m).getD i 0 = m + i := by
  simp [marks, List.getD_eq_getElem?_getD, List.getElem?_map, List.getElem?_range h]
theorem set_take (l : List Int) (i : Nat) (v : Int) (h : i < l.length) : (l.set i v).take (i + 1) = l.take i ++ [v] := by
  rw [List.take_set, List.set_eq_take_append_cons_drop]
  have hl : (l.take (i+1)).length = i + 1 := by simp; omega
  rw [if_pos (by omega)]
  simp [List.take_take]
/-! ### sums -/
/-- f i + f (i + 1) + .. : d numbers -/
def sumN (f : Nat → Int) : Nat → Nat → Int
  | _, 0 => 0
  | i, d + 1 => f i + sumN f (i + 1) d
theorem sumN_le (f : Nat → Int) (b : Int) (h : ∀ k, 0 ≤ f k ∧ f k ≤ b) : ∀ d i, 0 ≤ sumN f i d ∧ sumN f i d ≤ b * d := by
  intro d
  induction d with
  | zero => intro i; simp [sumN]
  | succ d ih => intro i; have := ih (i + 1); have := h i; simp only [sumN]; push_cast; rw [Int.mul_add]; omega
theorem sumN_congr (f g : Nat → Int) (n : Nat) (h : ∀ k, k < n → f k = g k) : ∀ d i, i + d ≤ n → sumN f i d = sumN g i d := by
  intro d
  induction d with
  | zero => intro i _; rfl
  | succ d ih => intro i hi; simp only [sumN]; rw [h i (by omega), ih (i + 1) (by omega)]

/-! ### tables -/
theorem bit_add_lt {k i m : Nat} (hk : k < 2 ^ m) (hi : i < m) (hb : bit k i = 0) : k + 2 ^ i < 2 ^ m := by
  rw [← bit_or k i hb]
  exact Nat.or_lt_two_pow hk (Nat.pow_lt_pow_right (by decide) hi)
/-- A table of m bits. -/
def Tab (m : Nat) (l : List Int) : Prop := m ≤ 4 ∧ l.length = 2 ^ m ∧ ∀ x ∈ l, 0 ≤ x ∧ x ≤ 1
theorem Tab.len {m : Nat} {l : List Int} (h : Tab m l) : l.length ≤ 16 := by
  rw [h.2.1]; exact Nat.pow_le_pow_right (by decide) h.1
theorem Tab.at_ {m : Nat} {l : List Int} (h : Tab m l) (k : Nat) : 0 ≤ l.getD k 0 ∧ l.getD k 0 ≤ 1 := by
  by_cases hk : k < l.length
  · rw [List.getD_eq_getElem?_getD, List.getElem?_eq_getElem hk]; exact h.2.2 _ (List.getElem_mem hk)
  · rw [List.getD_eq_getElem?_getD, List.getElem?_eq_none (by omega)]; decide
/-- A one at k that is none when the bit i becomes 1; and the other way. -/
def lost (l : List Int) (i k : Nat) : Int := if bit k i = 1 then 0 else l.getD k 0 * (1 - l.getD (k + 2 ^ i) 0)
def won (l : List Int) (i k : Nat) : Int := if bit k i = 1 then 0 else l.getD (k + 2 ^ i) 0 * (1 - l.getD k 0)
theorem Tab.lost {m : Nat} {l : List Int} (h : Tab m l) (i k : Nat) : 0 ≤ lost l i k ∧ lost l i k ≤ 1 := by
  unfold Base.lost
  have a := h.at_ k; have b := h.at_ (k + 2 ^ i)
  generalize l.getD k 0 = x at *; generalize l.getD (k + 2 ^ i) 0 = y at *
  obtain rfl | rfl : x = 0 ∨ x = 1 := by omega
  all_goals split <;> omega
theorem Tab.won {m : Nat} {l : List Int} (h : Tab m l) (i k : Nat) : 0 ≤ won l i k ∧ won l i k ≤ 1 := by
  unfold Base.won
  have a := h.at_ k; have b := h.at_ (k + 2 ^ i)
  generalize l.getD k 0 = x at *; generalize l.getD (k + 2 ^ i) 0 = y at *
  obtain rfl | rfl : x = 0 ∨ x = 1 := by omega
  all_goals split <;> omega
def losses (l : List Int) (i : Nat) : Int := sumN (lost l i) 0 l.length
def gains (l : List Int) (i : Nat) : Int := sumN (won l i) 0 l.length
theorem Tab.losses {m : Nat} {l : List Int} (h : Tab m l) (i : Nat) : 0 ≤ losses l i ∧ losses l i ≤ 16 := by
  have := sumN_le (Base.lost l i) 1 (h.lost i) l.length 0; have := h.len; unfold Base.losses; omega
theorem Tab.gains {m : Nat} {l : List Int} (h : Tab m l) (i : Nat) : 0 ≤ gains l i ∧ gains l i ≤ 16 := by
  have := sumN_le (Base.won l i) 1 (h.won i) l.length 0; have := h.len; unfold Base.gains; omega
def isTab (n : Int) (l : List Int) : Bool := decide (0 ≤ n ∧ n ≤ 4) && (decide (l.length = 2 ^ n.toNat) && l.all fun x => decide (0 ≤ x ∧ x ≤ 1))
theorem isTab_iff (n : Int) (l : List Int) : isTab n l = true ↔ (0 ≤ n ∧ n ≤ 4) ∧ l.length = 2 ^ n.toNat ∧ ∀ x ∈ l, 0 ≤ x ∧ x ≤ 1 := by
  simp [isTab]
theorem isTab_tab {n : Int} {l : List Int} (h : isTab n l = true) : ∃ m : Nat, n = m ∧ Tab m l := by
  obtain ⟨⟨h0, h1⟩, h2, h3⟩ := (isTab_iff n l).1 h
  obtain ⟨m, rfl⟩ := Int.eq_ofNat_of_zero_le h0
  exact ⟨m, rfl, by omega, by simpa using h2, h3⟩

def influences (n : Int) (l : List Int) : List Int × Bool := if isTab n l = true then ((List.range n.toNat).map fun i => losses l i + gains l i, true) else ([], false)
theorem sumN_zero (f : Nat → Int) (h : ∀ k, 0 ≤ f k) : ∀ d i, sumN f i d = 0 ↔ ∀ k, i ≤ k → k < i + d → f k = 0 := by
  intro d
  induction d with
  | zero => intro i; simp only [sumN, true_iff]; intro k _ _; omega
  | succ d ih =>
    intro i
    have nn : ∀ d i, 0 ≤ sumN f i d := by
      intro d
      induction d with
      | zero => intro i; simp [sumN]
      | succ d ih => intro i; simp only [sumN]; have := h i; have := ih (i + 1); omega
    have a := h i; have b := nn d (i + 1)
    simp only [sumN]
    constructor
    · intro e k hk hk'
      by_cases e' : k = i
      · subst e'; omega
      · exact (ih (i + 1)).1 (by omega) k (by omega) (by omega)
    · intro e
      have e1 := e i (by omega) (by omega)
      have e2 := (ih (i + 1)).2 (fun k hk hk' => e k (by omega) (by omega))
      omega
theorem testBit_bit (k i : Nat) : k.testBit i = decide (bit k i = 1) := Nat.testBit_eq_decide_div_mod_eq
theorem bit_or1 (k i : Nat) (h : bit k i = 1) : k ||| 2 ^ i = k := by
  apply Nat.eq_of_testBit_eq
  intro j
  rw [Nat.testBit_or, Nat.testBit_two_pow]
  by_cases e : i = j
  · subst e; simp [testBit_bit, h]
  · simp [e]
/-- A game: no one is lost, nothing at first, a one at last. -/
def ends (l : List Int) : Bool := decide (l.getD 0 0 = 0) && (l.getD (l.length - 1) 0 == 1)
def rises (l : List Int) (c i : Nat) : Bool := decide (l.getD c 0 ≤ l.getD (c ||| 2 ^ i) 0)
def game (n : Int) (l : List Int) : Bool × Bool := if n < 1 ∨ isTab n l = false then (false, false) else ((List.range n.toNat).all (fun i => decide (losses l i = 0)) && ends l, true)
theorem game_rises {m : Nat} {l : List Int} (h : Tab m l) :
    ((List.range l.length).all fun c => (List.range m).all (rises l c)) = (List.range m).all fun i => decide (losses l i = 0) := by
  rw [Bool.eq_iff_iff]
  simp only [List.all_eq_true, List.mem_range, decide_eq_true_eq]
  constructor
  · intro H i hi
    refine (sumN_zero _ (fun k => (h.lost i k).1) _ _).2 fun k _ hk => ?_
    have hr := H k (by omega) i hi
    simp only [rises, decide_eq_true_eq] at hr
    unfold lost
    by_cases e : bit k i = 1
    · simp [e]
    · have e0 : bit k i = 0 := by have := bit_lt k i; omega
      rw [bit_or k i e0] at hr
      have p := h.at_ k; have q := h.at_ (k + 2 ^ i)
      generalize l.getD k 0 = x at *; generalize l.getD (k + 2 ^ i) 0 = y at *
      rw [if_neg e]
      obtain rfl | rfl : x = 0 ∨ x = 1 := by omega
      · omega
      · obtain rfl : y = 1 := by omega
        rfl
  · intro H c hc i hi
    have hl := (sumN_zero _ (fun k => (h.lost i k).1) _ _).1 (H i hi) c (by omega) (by omega)
    simp only [rises, decide_eq_true_eq]
    by_cases e : bit c i = 1
    · rw [bit_or1 c i e]; exact Int.le_refl _
    · have e0 : bit c i = 0 := by have := bit_lt c i; omega
      rw [bit_or c i e0]
      unfold lost at hl
      rw [if_neg e] at hl
      have p := h.at_ c; have q := h.at_ (c + 2 ^ i)
      generalize l.getD c 0 = x at *; generalize l.getD (c + 2 ^ i) 0 = y at *
      obtain rfl | rfl : x = 0 ∨ x = 1 := by omega
      · omega
      · omega
/-! ### signs -/
def sign1 (l : List Int) (i : Nat) : Int := if 0 < losses l i then -1 else if 0 < gains l i then 1 else 0
def both (l : List Int) (i : Nat) : Bool := decide (0 < losses l i) && decide (0 < gains l i)
def signs (n : Int) (l : List Int) : List Int × Bool := if isTab n l = true then (if (List.range n.toNat).any (both l) = true then ([], false) else ((List.range n.toNat).map (sign1 l), true)) else ([], false)
theorem signs_len (n : Int) (l : List Int) : (signs n l).1.length ≤ 4 := by
  unfold signs
  split
  · rename_i e
    have := (isTab_iff n l).1 e
    split
    · simp
    · simp; omega
  · simp
/-! ### trades -/
def tcond (l : List Int) (a b c d : Nat) : Bool := decide (l.getD a 0 + l.getD b 0 = 2) && (decide (l.getD c 0 + l.getD d 0 = 0) && (decide (a &&& b = c &&& d) && decide (a ||| b = c ||| d)))
def s3 (l : List Int) (a b c : Nat) : Nat → Nat → Option (List Int) → Option (List Int)
  | _, 0, r => r
  | d, n + 1, r => if tcond l a b c d = true then some [(a : Int), (b : Int), (c : Int), (d : Int)] else s3 l a b c (d + 1) n r
def s2 (l : List Int) (a b : Nat) : Nat → Nat → Option (List Int) → Option (List Int)
  | _, 0, r => r
  | c, n + 1, r => s3 l a b c c (l.length - c) (s2 l a b (c + 1) n r)
def s1 (l : List Int) (a : Nat) : Nat → Nat → Option (List Int) → Option (List Int)
  | _, 0, r => r
  | b, n + 1, r => s2 l a b 0 l.length (s1 l a (b + 1) n r)
def s0 (l : List Int) : Nat → Nat → Option (List Int)
  | _, 0 => none
  | a, n + 1 => s1 l a a (l.length - a) (s0 l (a + 1) n)
theorem s3_no (l : List Int) (a b c : Nat) (h : l.getD a 0 + l.getD b 0 ≠ 2) : ∀ n d r, s3 l a b c d n r = r := by
  intro n
  induction n with
  | zero => intro d r; rfl
  | succ n ih => intro d r; simp only [s3]; rw [if_neg (by unfold tcond; rw [decide_eq_false h]; simp), ih]
theorem s2_no (l : List Int) (a b : Nat) (h : l.getD a 0 + l.getD b 0 ≠ 2) : ∀ n c r, s2 l a b c n r = r := by
  intro n
  induction n with
  | zero => intro c r; rfl
  | succ n ih => intro c r; simp only [s2]; rw [s3_no l a b c h, ih]
theorem s3_len (l : List Int) (a b c : Nat) : ∀ n d r, (∀ t, r = some t → t.length = 4) → ∀ t, s3 l a b c d n r = some t → t.length = 4 := by
  intro n
  induction n with
  | zero => intro d r hr t ht; exact hr t ht
  | succ n ih =>
    intro d r hr t ht
    simp only [s3] at ht
    split at ht
    · obtain rfl := Option.some.inj ht; rfl
    · exact ih _ _ hr t ht
theorem s2_len (l : List Int) (a b : Nat) : ∀ n c r, (∀ t, r = some t → t.length = 4) → ∀ t, s2 l a b c n r = some t → t.length = 4 := by
  intro n
  induction n with
  | zero => intro c r hr t ht; exact hr t ht
  | succ n ih => intro c r hr t ht; exact s3_len l a b c _ _ _ (ih _ _ hr) t ht
theorem s1_len (l : List Int) (a : Nat) : ∀ n b r, (∀ t, r = some t → t.length = 4) → ∀ t, s1 l a b n r = some t → t.length = 4 := by
  intro n
  induction n with
  | zero => intro b r hr t ht; exact hr t ht
  | succ n ih => intro b r hr t ht; exact s2_len l a b _ _ _ (ih _ _ hr) t ht
theorem s0_len (l : List Int) : ∀ n a t, s0 l a n = some t → t.length = 4 := by
  intro n
  induction n with
  | zero => intro a t ht; cases ht
  | succ n ih => intro a t ht; exact s1_len l a _ _ _ (ih _) t ht
def trade (n : Int) (l : List Int) : List Int × Bool := if isTab n l = true then ((s0 l 0 l.length).getD [], (s0 l 0 l.length).isSome) else ([], false)
theorem trade_len (n : Int) (l : List Int) : (trade n l).1.length ≤ 4 := by
  unfold trade
  split
  · cases e : s0 l 0 l.length with
    | none => simp
    | some t => have := s0_len l _ _ t e; simp; omega
  · simp
theorem testBit_out {m a i : Nat} (h : a < 2 ^ m) (hi : m ≤ i) : bit a i = 0 := by
  have := Nat.testBit_lt_two_pow (Nat.lt_of_lt_of_le h (Nat.pow_le_pow_right (by decide) hi))
  rw [testBit_bit] at this
  have := bit_lt a i
  simp at *; omega
theorem same_sum {m a b c d : Nat} (ha : a < 2 ^ m) (hb : b < 2 ^ m) (hc : c < 2 ^ m) (hd : d < 2 ^ m) :
    (∀ i, i < m → bit a i + bit b i = bit c i + bit d i) ↔ (a &&& b = c &&& d ∧ a ||| b = c ||| d) := by
  constructor
  · intro h
    have h' : ∀ i, bit a i + bit b i = bit c i + bit d i := by
      intro i
      by_cases hi : i < m
      · exact h i hi
      · rw [testBit_out ha (by omega), testBit_out hb (by omega), testBit_out hc (by omega), testBit_out hd (by omega)]
    constructor
    · apply Nat.eq_of_testBit_eq
      intro i
      have := h' i; have := bit_lt a i; have := bit_lt b i; have := bit_lt c i; have := bit_lt d i
      rw [Nat.testBit_and, Nat.testBit_and, testBit_bit, testBit_bit, testBit_bit, testBit_bit, Bool.eq_iff_iff]
      simp; omega
    · apply Nat.eq_of_testBit_eq
      intro i
      have := h' i; have := bit_lt a i; have := bit_lt b i; have := bit_lt c i; have := bit_lt d i
      rw [Nat.testBit_or, Nat.testBit_or, testBit_bit, testBit_bit, testBit_bit, testBit_bit, Bool.eq_iff_iff]
      simp; omega
  · rintro ⟨h1, h2⟩ i _
    have e1 := congrArg (fun x => x.testBit i) h1
    have e2 := congrArg (fun x => x.testBit i) h2
    simp only [Nat.testBit_and, Nat.testBit_or] at e1 e2
    simp only [testBit_bit] at e1 e2
    rw [Bool.eq_iff_iff] at e1 e2
    simp only [Bool.and_eq_true, Bool.or_eq_true, decide_eq_true_eq] at e1 e2
    have u1 := bit_lt a i; have u2 := bit_lt b i; have u3 := bit_lt c i; have u4 := bit_lt d i
    clear h1 h2 ha hb hc hd
    generalize bit a i = x at *; generalize bit b i = y at *; generalize bit c i = z at *; generalize bit d i = t at *
    obtain rfl | rfl : x = 0 ∨ x = 1 := by omega
    all_goals obtain rfl | rfl : y = 0 ∨ y = 1 := by omega
    all_goals obtain rfl | rfl : z = 0 ∨ z = 1 := by omega
    all_goals obtain rfl | rfl : t = 0 ∨ t = 1 := by omega
    all_goals simp at e1 e2 ⊢
/-! ### votes -/
def isum : List Int → Int
  | [] => 0
  | x :: l => x + isum l
theorem isum_le (b : Int) : ∀ l : List Int, (∀ x ∈ l, 0 ≤ x ∧ x ≤ b) → 0 ≤ isum l ∧ isum l ≤ b * l.length := by
  intro l
  induction l with
  | nil => intro _; simp [isum]
  | cons x l ih =>
    intro h
    have h1 := h x (by simp)
    have h2 := ih (fun y hy => h y (by simp [hy]))
    simp only [isum, List.length_cons]
    rw [show ((l.length + 1 : Nat) : Int) = (l.length : Int) + 1 by omega, Int.mul_add]; omega
def okW (l : List Int) : Bool := l.all fun x => decide (0 ≤ x ∧ x ≤ 20)
def voteB (l : List Int) (q : Int) : Bool := decide (1 ≤ l.length ∧ l.length ≤ 8) && (okW l && decide (1 ≤ q ∧ q ≤ isum l))
/-- A vote that is valid. -/
def Vot (l : List Int) (q : Int) : Prop := (1 ≤ l.length ∧ l.length ≤ 8) ∧ (∀ x ∈ l, 0 ≤ x ∧ x ≤ 20) ∧ 1 ≤ q ∧ q ≤ isum l
theorem voteB_iff (l : List Int) (q : Int) : voteB l q = true ↔ Vot l q := by
  simp [voteB, okW, Vot]
theorem Vot.at_ {l : List Int} {q : Int} (h : Vot l q) (k : Nat) : 0 ≤ l.getD k 0 ∧ l.getD k 0 ≤ 20 := by
  by_cases hk : k < l.length
  · rw [List.getD_eq_getElem?_getD, List.getElem?_eq_getElem hk]; exact h.2.1 _ (List.getElem_mem hk)
  · rw [List.getD_eq_getElem?_getD, List.getElem?_eq_none (by omega)]; decide
theorem Vot.sum {l : List Int} {q : Int} (h : Vot l q) : 0 ≤ isum l ∧ isum l ≤ 160 := by
  have := isum_le 20 l h.2.1; have := h.1; omega
/-- what voter i of a set c weighs -/
def wterm (l : List Int) (c i : Nat) : Int := l.getD i 0 * (bit c i : Int)
def wsum (l : List Int) (c : Nat) : Int := sumN (wterm l c) 0 l.length
def winB (l : List Int) (q : Int) (c : Nat) : Bool := decide (wsum l c ≥ q)
theorem Vot.wterm {l : List Int} {q : Int} (h : Vot l q) (c i : Nat) : 0 ≤ wterm l c i ∧ wterm l c i ≤ 20 := by
  unfold Base.wterm
  have a := h.at_ i; have b := bit_lt c i
  obtain e | e : bit c i = 0 ∨ bit c i = 1 := by omega
  · rw [e]; simp
  · rw [e]; omega
theorem Vot.wsum {l : List Int} {q : Int} (h : Vot l q) (c : Nat) : 0 ≤ wsum l c ∧ wsum l c ≤ 160 := by
  have := sumN_le (Base.wterm l c) 20 (h.wterm c) l.length 0; have := h.1; unfold Base.wsum; omega
theorem andnot_all : ∀ n : Fin 9, ∀ c : Fin 256, c.val < 2 ^ n.val → Go.bits .andNot .i64 (((2 ^ n.val : Nat) : Int) - 1) (c.val : Int) = ((2 ^ n.val - 1 - c.val : Nat) : Int) := by decide +kernel
theorem andnot (n c : Nat) (hn : n ≤ 8) (hc : c < 2 ^ n) : Go.bits .andNot .i64 (((2 ^ n : Nat) : Int) - 1) (c : Int) = ((2 ^ n - 1 - c : Nat) : Int) := by
  have : (2 : Nat) ^ n ≤ 2 ^ 8 := Nat.pow_le_pow_right (by decide) hn
  exact andnot_all ⟨n, by omega⟩ ⟨c, by omega⟩ hc
theorem pow8 (n : Nat) (h : n ≤ 8) : 1 ≤ 2 ^ n ∧ 2 ^ n ≤ 256 := ⟨Nat.two_pow_pos n, Nat.pow_le_pow_right (n := 2) (by decide) h⟩
theorem rdOf_map (f : Nat → Bool) (n i : Nat) (h : i < n) : rdOf false ((List.range n).map f) (i : Int) = f i := by
  simp [rdOf, List.getD_eq_getElem?_getD, List.getElem?_map, List.getElem?_range h]
def strongB (l : List Int) (q : Int) : Bool × Bool := if voteB l q = true then ((List.range (2 ^ l.length)).all fun c => winB l q c || winB l q (2 ^ l.length - 1 - c), true) else (false, false)
def properB (l : List Int) (q : Int) : Bool × Bool := if voteB l q = true then ((List.range (2 ^ l.length)).all fun c => !(winB l q c && winB l q (2 ^ l.length - 1 - c)), true) else (false, false)
def sameB (l : List Int) (q : Int) (l' : List Int) (q' : Int) : Bool × Bool := if voteB l q = true ∧ voteB l' q' = true ∧ l.length = l'.length then ((List.range (2 ^ l.length)).all fun c => winB l q c == winB l' q' c, true) else (false, false)
def splitV (l : List Int) (q i p : Int) : List Int × Int × Bool := if voteB l q = true ∧ (0 ≤ i ∧ i ≤ l.length - 1) ∧ (0 ≤ p ∧ p ≤ l.getD i.toNat 0) ∧ l.length ≠ 8 then ((l ++ [l.getD i.toNat 0 - p]).set i.toNat p, q, true) else ([], 0, false)
/-! ### the dual; vetoes; a dictator -/
def dualV (l : List Int) (q : Int) : List Int × Int × Bool := if voteB l q = true then (l, isum l + 1 - q, true) else ([], 0, false)
theorem xor_all : ∀ n : Fin 9, ∀ i : Fin 8, i.val < n.val → Go.bits .xor .i64 (((2 ^ n.val : Nat) : Int) - 1) ((2 ^ i.val : Nat) : Int) = ((2 ^ n.val - 1 - 2 ^ i.val : Nat) : Int) := by decide +kernel
theorem xorbit (n i : Nat) (hn : n ≤ 8) (hi : i < n) : Go.bits .xor .i64 (((2 ^ n : Nat) : Int) - 1) ((2 ^ i : Nat) : Int) = ((2 ^ n - 1 - 2 ^ i : Nat) : Int) :=
  xor_all ⟨n, by omega⟩ ⟨i, by omega⟩ hi
theorem pow_lt (i n : Nat) (h : i < n) : 2 ^ i < 2 ^ n := Nat.pow_lt_pow_right (by decide) h
def isVeto (l : List Int) (q : Int) (i : Nat) : Bool := !winB l q (2 ^ l.length - 1 - 2 ^ i)
def vetoes (l : List Int) (q : Int) : List Nat := (List.range l.length).filter (isVeto l q)
def ints (l : List Nat) : List Int := l.map fun i : Nat => (i : Int)
theorem ints_length (l : List Nat) : (ints l).length = l.length := by simp [ints]
theorem ints_at (l : List Nat) (i : Nat) (h : i < l.length) : (ints l).getD i 0 = ((l[i] : Nat) : Int) := by
  simp [ints, List.getD_eq_getElem?_getD, List.getElem?_map, List.getElem?_eq_getElem h]
theorem vetoes_len (l : List Int) (q : Int) : (vetoes l q).length ≤ l.length := by
  unfold vetoes
  exact Nat.le_trans (List.length_filter_le _ _) (by simp)
def vetoV (l : List Int) (q : Int) : List Int × Bool := if voteB l q = true then (ints (vetoes l q), true) else ([], false)
theorem vetoV_len (l : List Int) (q : Int) : (vetoV l q).1.length ≤ 8 := by
  unfold vetoV
  split
  · rename_i e
    have := ((voteB_iff l q).1 e).1
    have := vetoes_len l q
    rw [ints_length]; omega
  · simp
theorem bit_pow (i j : Nat) : bit (2 ^ i) j = if i = j then 1 else 0 := by
  have h := Nat.testBit_two_pow (n := i) (m := j)
  rw [testBit_bit] at h
  have := bit_lt (2 ^ i) j
  by_cases e : i = j
  · rw [if_pos e]; rw [decide_eq_true e] at h; exact of_decide_eq_true h
  · rw [if_neg e]; rw [decide_eq_false e] at h; have := of_decide_eq_false h; omega
theorem sumN_none (f : Nat → Int) : ∀ d i, (∀ k, i ≤ k → k < i + d → f k = 0) → sumN f i d = 0 := by
  intro d
  induction d with
  | zero => intro i _; rfl
  | succ d ih => intro i h; simp only [sumN]; rw [h i (by omega) (by omega), ih (i + 1) (fun k h1 h2 => h k (by omega) (by omega))]; rfl
theorem sumN_one (f : Nat → Int) (j : Nat) : ∀ d i, (∀ k, i ≤ k → k < i + d → k ≠ j → f k = 0) → i ≤ j → j < i + d → sumN f i d = f j := by
  intro d
  induction d with
  | zero => intro i _ _ _; omega
  | succ d ih =>
    intro i h h1 h2
    simp only [sumN]
    by_cases e : i = j
    · subst e
      rw [sumN_none f d (i + 1) (fun k k1 k2 => h k (by omega) (by omega) (by omega))]; omega
    · rw [h i (by omega) (by omega) e, ih (i + 1) (fun k k1 k2 => h k (by omega) (by omega)) (by omega) (by omega)]; omega
theorem wsum_one (l : List Int) (i : Nat) (h : i < l.length) : wsum l (2 ^ i) = l.getD i 0 := by
  unfold wsum
  rw [sumN_one (wterm l (2 ^ i)) i l.length 0 (fun k _ _ hk => by unfold wterm; rw [bit_pow, if_neg (by omega)]; simp) (by omega) (by omega)]
  unfold wterm
  rw [bit_pow, if_pos rfl]; simp
def bossOf : Option Nat → Int × Bool
  | some i => ((i : Int), true)
  | none => (0, false)
def bossV (l : List Int) (q : Int) : Int × Bool := if voteB l q = true then bossOf ((vetoes l q).find? (fun i => decide (l.getD i 0 ≥ q))) else (0, false)
/-! ### rising lists, and their codes -/
def riseB : List Int → Bool
  | [] => true
  | [_] => true
  | x :: y :: l => decide (x < y) && riseB (y :: l)
def inB (lo hi : Int) (l : List Int) : Bool := l.all fun x => decide (lo ≤ x ∧ x ≤ hi)
theorem riseB_step (l : List Int) (i : Nat) (h : i + 1 < l.length) : riseB (l.drop i) = (decide (l.getD i 0 < l.getD (i + 1) 0) && riseB (l.drop (i + 1))) := by
  rw [List.drop_eq_getElem_cons (show i < l.length by omega), List.drop_eq_getElem_cons h]
  simp only [riseB, List.getD_eq_getElem?_getD, List.getElem?_eq_getElem (show i < l.length by omega), List.getElem?_eq_getElem h, Option.getD_some]
theorem riseB_end (l : List Int) (i : Nat) (h : l.length ≤ i + 1) : riseB (l.drop i) = true := by
  have hl : (l.drop i).length ≤ 1 := by simp; omega
  match e : l.drop i, hl with
  | [], _ => rfl
  | [x], _ => rfl
theorem riseB_tail {x : Int} {l : List Int} (h : riseB (x :: l) = true) : riseB l = true := by
  cases l with
  | nil => rfl
  | cons y l => simp only [riseB, Bool.and_eq_true] at h; exact h.2
theorem riseB_lt : ∀ (l : List Int) (x : Int), riseB (x :: l) = true → ∀ y ∈ l, x < y := by
  intro l
  induction l with
  | nil => intro x _ y hy; cases hy
  | cons z l ih =>
    intro x h y hy
    simp only [riseB, Bool.and_eq_true, decide_eq_true_eq] at h
    rcases List.mem_cons.1 hy with rfl | hy
    · exact h.1
    · exact Int.lt_trans h.1 (ih z h.2 y hy)
def setB (n : Int) (l : List Int) : Bool := inB 0 (n - 1) l && riseB l
/-- the code of a set -/
def codeOf : List Int → Nat
  | [] => 0
  | x :: l => 2 ^ x.toNat + codeOf l
theorem code_lt (n : Nat) : ∀ (l : List Int) (c : Nat), riseB l = true → (∀ x ∈ l, 0 ≤ x ∧ x < n ∧ c < 2 ^ x.toNat) → c < 2 ^ n → c + codeOf l < 2 ^ n := by
  intro l
  induction l with
  | nil => intro c _ _ hc; simpa [codeOf] using hc
  | cons x l ih =>
    intro c hr hx hc
    have h1 := hx x (by simp)
    have key : c + 2 ^ x.toNat < 2 ^ (x.toNat + 1) := by rw [Nat.pow_succ]; omega
    have := ih (c + 2 ^ x.toNat) (riseB_tail hr) (fun y hy => by
      have h2 := hx y (by simp [hy])
      have h3 := riseB_lt l x hr y hy
      exact ⟨h2.1, h2.2.1, Nat.lt_of_lt_of_le key (Nat.pow_le_pow_right (by decide) (by omega))⟩)
      (Nat.lt_of_lt_of_le key (Nat.pow_le_pow_right (by decide) (by omega)))
    simp only [codeOf]; omega
theorem or_low (c x : Nat) (h : c < 2 ^ x) : c ||| 2 ^ x = c + 2 ^ x := bit_or c x (by unfold bit; rw [Nat.div_eq_of_lt h])
def winsWith (l : List Int) (q : Int) (s : List Int) : Bool × Bool := if voteB l q = true ∧ setB l.length s = true then (winB l q (codeOf s), true) else (false, false)
/-! ### lists of lists -/
def rowsz : List (List Int) → Int → Int
  | [], m => m
  | r :: l, m => if (r.length : Int) ≤ m then rowsz l (m - r.length) else -1
def szv (l : List (List Int)) (m : Int) : Int := if (l.length : Int) ≤ m then rowsz l (m - l.length) else -1
theorem rowsz_ok : ∀ (l : List (List Int)) (m : Int), 0 ≤ m → (rowsz l m = -1 ∨ 0 ≤ rowsz l m) ∧ rowsz l m ≤ m ∧ (0 ≤ rowsz l m → ∀ r ∈ l, (r.length : Int) ≤ m) := by
  intro l
  induction l with
  | nil => intro m h; simp [rowsz]; omega
  | cons r l ih =>
    intro m h
    simp only [rowsz]
    by_cases e : (r.length : Int) ≤ m
    · rw [if_pos e]
      obtain ⟨h1, h2, h3⟩ := ih (m - r.length) (by omega)
      refine ⟨h1, by omega, fun h4 x hx => ?_⟩
      rcases List.mem_cons.1 hx with rfl | hx
      · exact e
      · have := h3 h4 x hx; omega
    · rw [if_neg e]; exact ⟨.inl rfl, by omega, fun h => by omega⟩
theorem szv_ok (l : List (List Int)) (m : Int) (h : 0 ≤ m) : (szv l m = -1 ∨ 0 ≤ szv l m) ∧ szv l m ≤ m ∧ (0 ≤ szv l m → (l.length : Int) ≤ m ∧ ∀ r ∈ l, (r.length : Int) ≤ m) := by
  unfold szv
  by_cases e : (l.length : Int) ≤ m
  · rw [if_pos e]
    obtain ⟨h1, h2, h3⟩ := rowsz_ok l (m - l.length) (by omega)
    exact ⟨h1, by omega, fun h4 => ⟨e, fun r hr => by have := h3 h4 r hr; omega⟩⟩
  · rw [if_neg e]; exact ⟨.inl rfl, by omega, fun h => by omega⟩
def rdl (l : List (List Int)) (i : Nat) : List Int := l.getD i []
theorem rdl_mem (l : List (List Int)) (i : Nat) (h : i < l.length) : rdl l i ∈ l := by
  unfold rdl; rw [List.getD_eq_getElem?_getD, List.getElem?_eq_getElem h]; exact List.getElem_mem h
theorem rdl_drop (l : List (List Int)) (i : Nat) (h : i < l.length) : l.drop i = rdl l i :: l.drop (i + 1) := by
  rw [List.drop_eq_getElem_cons h]; simp [rdl, List.getD_eq_getElem?_getD, List.getElem?_eq_getElem h]
theorem setl_take (l : List (List Int)) (i : Nat) (v : List Int) (h : i < l.length) : (l.set i v).take (i + 1) = l.take i ++ [v] := by
  rw [List.take_set, List.set_eq_take_append_cons_drop]
  have hl : (l.take (i+1)).length = i + 1 := by simp; omega
  rw [if_pos (by omega)]
  simp [List.take_take]
/-! ### classes -/
def labB (l : List Int) : Bool := l.all fun x => decide (x = 1 ∨ x = -1)
def lexB : List Int → List Int → Bool
  | x :: a, y :: b => if x = y then lexB a b else decide (x < y)
  | _, _ => false
def cmpv : List Int → List Int → Int
  | x :: a, y :: b => if x < y then -1 else if x > y then 1 else cmpv a b
  | [], [] => 0
  | [], _ :: _ => -1
  | _ :: _, [] => 1
theorem cmp_lex : ∀ (a b : List Int), a.length = b.length → (cmpv a b ≥ 0 ↔ lexB a b = false) := by
  intro a
  induction a with
  | nil =>
    intro b h
    cases b with
    | nil => simp [cmpv, lexB]
    | cons y b => simp at h
  | cons x a ih =>
    intro b h
    cases b with
    | nil => simp at h
    | cons y b =>
      simp only [cmpv, lexB]
      by_cases e : x < y
      · rw [if_pos e, if_neg (show ¬ x = y by omega), decide_eq_true e]; simp
      · rw [if_neg e]
        by_cases e' : x > y
        · rw [if_pos e', if_neg (show ¬ x = y by omega), decide_eq_false e]; simp
        · rw [if_neg e', if_pos (show x = y by omega)]; exact ih b (by simpa using h)
theorem cmpv_bd : ∀ (a b : List Int), -1 ≤ cmpv a b ∧ cmpv a b ≤ 1 := by
  intro a
  induction a with
  | nil => intro b; cases b <;> simp [cmpv]
  | cons x a ih =>
    intro b
    cases b with
    | nil => simp [cmpv]
    | cons y b =>
      simp only [cmpv]
      split
      · decide
      · split
        · decide
        · exact ih b
def rowok (l : List (List Int)) (i : Nat) : Bool := decide ((rdl l i).length ≤ 8) && (decide ((rdl l i).length = (rdl l 0).length) && (labB (rdl l i) && (decide (i = 0) || lexB (rdl l (i - 1)) (rdl l i))))
def classB (l : List (List Int)) : Bool := decide (1 ≤ l.length ∧ l.length ≤ 256) && (List.range l.length).all (rowok l)
/-! ### planes -/
def planeB (l : List Int) (b : Int) : Bool := decide (1 ≤ l.length ∧ l.length ≤ 4) && (inB (-99) 99 l && decide (-99 ≤ b ∧ b ≤ 99))
def Pla (l : List Int) (b : Int) : Prop := (1 ≤ l.length ∧ l.length ≤ 4) ∧ (∀ x ∈ l, -99 ≤ x ∧ x ≤ 99) ∧ -99 ≤ b ∧ b ≤ 99
theorem planeB_iff (l : List Int) (b : Int) : planeB l b = true ↔ Pla l b := by
  simp [planeB, inB, Pla]
def dot : List Int → List Int → Int
  | x :: a, y :: b => x * y + dot a b
  | _, _ => 0
theorem mul_bd {x y A B : Int} (hx : -A ≤ x ∧ x ≤ A) (hy : -B ≤ y ∧ y ≤ B) : -(A * B) ≤ x * y ∧ x * y ≤ A * B := by
  have hA : 0 ≤ A := by omega
  have hB : 0 ≤ B := by omega
  have h : (x * y).natAbs ≤ (A * B).natAbs := by
    rw [Int.natAbs_mul, Int.natAbs_mul]
    exact Nat.mul_le_mul (by omega) (by omega)
  have h2 : ((A * B).natAbs : Int) = A * B := Int.natAbs_of_nonneg (Int.mul_nonneg hA hB)
  omega
theorem dot_bd (A B : Int) (hA : 0 ≤ A) (hB : 0 ≤ B) : ∀ (a b : List Int), (∀ x ∈ a, -A ≤ x ∧ x ≤ A) → (∀ y ∈ b, -B ≤ y ∧ y ≤ B) → -(A * B * a.length) ≤ dot a b ∧ dot a b ≤ A * B * a.length := by
  intro a
  induction a with
  | nil => intro b _ _; cases b <;> simp [dot]
  | cons x a ih =>
    intro b ha hb
    have hAB := Int.mul_nonneg hA hB
    have hm : A * B * ((x :: a).length : Nat) = A * B * (a.length : Nat) + A * B := by
      rw [List.length_cons, show ((a.length + 1 : Nat) : Int) = (a.length : Int) + 1 by omega, Int.mul_add]; omega
    have hn : 0 ≤ A * B * (a.length : Nat) := Int.mul_nonneg hAB (by omega)
    cases b with
    | nil => simp only [dot]; omega
    | cons y b =>
      have h1 := mul_bd (ha x (by simp)) (hb y (by simp))
      have h2 := ih b (fun z hz => ha z (by simp [hz])) (fun z hz => hb z (by simp [hz]))
      simp only [dot]; omega
def bitPt (n k : Nat) : List Int := (List.range n).map fun i => (bit k i : Int)
theorem bitPt_len (n k : Nat) : (bitPt n k).length = n := by simp [bitPt]
theorem bitPt_in (n k : Nat) : ∀ x ∈ bitPt n k, -1 ≤ x ∧ x ≤ 1 := by
  intro x hx
  obtain ⟨i, _, rfl⟩ := List.mem_map.1 hx
  have := bit_lt k i; omega
def sideV (l : List Int) (b : Int) (x : List Int) : Int := if dot l x ≥ b then 1 else -1
def tabOf (n : Nat) (l : List Int) (b : Int) : List Int := (List.range (2 ^ n)).map fun k => if dot l (bitPt n k) ≥ b then 1 else 0
theorem pow4 (n : Nat) (h : n ≤ 4) : 1 ≤ 2 ^ n ∧ 2 ^ n ≤ 16 := ⟨Nat.two_pow_pos n, Nat.pow_le_pow_right (n := 2) (by decide) h⟩
theorem tabOf_len (n : Nat) (l : List Int) (b : Int) : (tabOf n l b).length = 2 ^ n := by simp [tabOf]
def planeTab (l : List Int) (b : Int) : List Int × Bool := if planeB l b = true then (tabOf l.length l b, true) else ([], false)
/-! ### swings -/
def pop : Nat → Nat
  | 0 => 0
  | n + 1 => (n + 1) % 2 + pop ((n + 1) / 2)
decreasing_by omega
def fact : Nat → Nat
  | 0 => 1
  | n + 1 => (n + 1) * fact n
theorem sumN_append (f : Nat → Int) : ∀ m i k, sumN f i (m + k) = sumN f i m + sumN f (i + m) k := by
  intro m
  induction m with
  | zero => intro i k; simp [sumN]
  | succ m ih =>
    intro i k
    rw [show m + 1 + k = (m + k) + 1 by omega]
    simp only [sumN]
    rw [ih (i + 1) k, show i + 1 + m = i + (m + 1) by omega]; omega
theorem sumN_succ (f : Nat → Int) (i d : Nat) : sumN f i (d + 1) = sumN f i d + f (i + d) := by
  rw [sumN_append f d i 1]; simp [sumN]
theorem sumN_shift (f : Nat → Int) (s : Nat) : ∀ d i, sumN (fun c => f (c + s)) i d = sumN f (i + s) d := by
  intro d
  induction d with
  | zero => intro i; rfl
  | succ d ih => intro i; simp only [sumN]; rw [ih (i + 1), show i + 1 + s = i + s + 1 by omega]
theorem sumN_congr' (f g : Nat → Int) : ∀ d i, (∀ k, i ≤ k → k < i + d → f k = g k) → sumN f i d = sumN g i d := by
  intro d
  induction d with
  | zero => intro i _; rfl
  | succ d ih => intro i h; simp only [sumN]; rw [h i (by omega) (by omega), ih (i + 1) (fun k h1 h2 => h k (by omega) (by omega))]
theorem bit_block (i b j : Nat) (hj : j < 2 ^ i) : bit (b * 2 ^ (i + 1) + j) i = 0 ∧ bit (b * 2 ^ (i + 1) + 2 ^ i + j) i = 1 := by
  have hp := Nat.two_pow_pos i
  unfold bit
  rw [Nat.pow_succ]
  constructor
  · rw [show b * (2 ^ i * 2) + j = j + 2 ^ i * (2 * b) by rw [Nat.mul_comm b, Nat.mul_assoc]; omega, Nat.add_mul_div_left _ _ hp, Nat.div_eq_of_lt hj]; omega
  · rw [show b * (2 ^ i * 2) + 2 ^ i + j = j + 2 ^ i * (2 * b + 1) by rw [Nat.mul_add, Nat.mul_comm b, Nat.mul_assoc]; omega, Nat.add_mul_div_left _ _ hp, Nat.div_eq_of_lt hj]; omega
/-- What is told of the sets without i is told of those with it. -/
theorem sum_pair (f : Nat → Int) (i : Nat) : ∀ m b : Nat, sumN (fun c => if bit c i = 1 then f (c - 2 ^ i) else 0) (b * 2 ^ (i + 1)) (m * 2 ^ (i + 1)) = sumN (fun c => if bit c i = 0 then f c else 0) (b * 2 ^ (i + 1)) (m * 2 ^ (i + 1)) := by
  intro m
  induction m with
  | zero => intro b; simp [sumN]
  | succ m ih =>
    intro b
    have h2 : (2 : Nat) ^ (i + 1) = 2 ^ i + 2 ^ i := by rw [Nat.pow_succ]; omega
    have hb := ih (b + 1)
    rw [show (m + 1) * 2 ^ (i + 1) = 2 ^ (i + 1) + m * 2 ^ (i + 1) by rw [Nat.add_mul]; omega, sumN_append, sumN_append, show b * 2 ^ (i + 1) + 2 ^ (i + 1) = (b + 1) * 2 ^ (i + 1) by rw [Nat.add_mul]; omega, hb]
    congr 1
    have e1 : sumN (fun c => if bit c i = 1 then f (c - 2 ^ i) else 0) (b * 2 ^ (i + 1)) (2 ^ (i + 1)) = sumN (fun c => if bit c i = 1 then f (c - 2 ^ i) else 0) (b * 2 ^ (i + 1)) (2 ^ i) + sumN (fun c => if bit c i = 1 then f (c - 2 ^ i) else 0) (b * 2 ^ (i + 1) + 2 ^ i) (2 ^ i) := by
      conv => lhs; arg 3; rw [h2]
      exact sumN_append _ _ _ _
    have e2 : sumN (fun c => if bit c i = 0 then f c else 0) (b * 2 ^ (i + 1)) (2 ^ (i + 1)) = sumN (fun c => if bit c i = 0 then f c else 0) (b * 2 ^ (i + 1)) (2 ^ i) + sumN (fun c => if bit c i = 0 then f c else 0) (b * 2 ^ (i + 1) + 2 ^ i) (2 ^ i) := by
      conv => lhs; arg 3; rw [h2]
      exact sumN_append _ _ _ _
    rw [e1, e2]
    have z1 : sumN (fun c => if bit c i = 1 then f (c - 2 ^ i) else 0) (b * 2 ^ (i + 1)) (2 ^ i) = 0 := sumN_none _ _ _ fun k k1 k2 => by
      have := (bit_block i b (k - b * 2 ^ (i + 1)) (by omega)).1
      rw [show b * 2 ^ (i + 1) + (k - b * 2 ^ (i + 1)) = k by omega] at this
      simp [this]
    have z2 : sumN (fun c => if bit c i = 0 then f c else 0) (b * 2 ^ (i + 1) + 2 ^ i) (2 ^ i) = 0 := sumN_none _ _ _ fun k k1 k2 => by
      have := (bit_block i b (k - (b * 2 ^ (i + 1) + 2 ^ i)) (by omega)).2
      rw [show b * 2 ^ (i + 1) + 2 ^ i + (k - (b * 2 ^ (i + 1) + 2 ^ i)) = k by omega] at this
      simp [this]
    rw [z1, z2, ← sumN_shift _ (2 ^ i)]
    rw [sumN_congr' (fun c => if bit (c + 2 ^ i) i = 1 then f (c + 2 ^ i - 2 ^ i) else 0) (fun c => if bit c i = 0 then f c else 0) (2 ^ i) (b * 2 ^ (i + 1)) (fun k k1 k2 => by
      have h := bit_block i b (k - b * 2 ^ (i + 1)) (by omega)
      rw [show b * 2 ^ (i + 1) + (k - b * 2 ^ (i + 1)) = k by omega, show b * 2 ^ (i + 1) + 2 ^ i + (k - b * 2 ^ (i + 1)) = k + 2 ^ i by omega] at h
      rw [if_pos h.1, if_pos h.2, Nat.add_sub_cancel])]
    omega
theorem sum_pair' (f : Nat → Int) (i n : Nat) (h : i < n) : sumN (fun c => if bit c i = 1 then f (c - 2 ^ i) else 0) 0 (2 ^ n) = sumN (fun c => if bit c i = 0 then f c else 0) 0 (2 ^ n) := by
  have := sum_pair f i (2 ^ (n - (i + 1))) 0
  rw [← Nat.pow_add, show n - (i + 1) + (i + 1) = n by omega] at this
  simpa using this
theorem isum_map (f : Nat → Int) : ∀ d i, isum ((List.range' i d).map f) = sumN f i d := by
  intro d
  induction d with
  | zero => intro i; rfl
  | succ d ih => intro i; simp only [List.range'_succ, List.map_cons, isum, sumN]; rw [ih]
theorem map_set (f : Nat → Int) (n i : Nat) (v : Int) : ((List.range n).map f).set i v = (List.range n).map fun j => if j = i then v else f j := by
  apply List.ext_getElem?
  intro j
  by_cases hj : j < n
  · by_cases e : i = j
    · subst e; simp [List.getElem?_set, hj]
    · have e' : ¬ j = i := fun h => e h.symm
      simp [List.getElem?_set, e, e', hj]
  · simp [List.getElem?_set, hj]
theorem map_at (f : Nat → Int) (n i : Nat) (h : i < n) : ((List.range n).map f).getD i 0 = f i := by
  simp [List.getD_eq_getElem?_getD, List.getElem?_map, List.getElem?_range h]
/-- voter i swings with the set c of others -/
def sw (l : List Int) (q : Int) (i c : Nat) : Bool := decide (bit c i = 0) && (!winB l q c && winB l q (c + 2 ^ i))
/-- what swings weigh: by the number of the others -/
def wgt (orders : Bool) (n p : Nat) : Int := if orders then ((fact p * fact (n - 1 - p) : Nat) : Int) else 1
def swingSum (orders : Bool) (l : List Int) (q : Int) (i : Nat) : Int := sumN (fun c => if sw l q i c = true then wgt orders l.length (pop c) else 0) 0 (2 ^ l.length)
/-- the same, told of the sets with i -/
def con (orders : Bool) (l : List Int) (q : Int) (i c : Nat) : Int := if bit c i = 1 then (if (!winB l q (c - 2 ^ i) && winB l q c) = true then wgt orders l.length (pop c - 1) else 0) else 0
theorem pop_all : ∀ c : Fin 256, ∀ i : Fin 8, bit c.val i.val = 1 → 2 ^ i.val ≤ c.val ∧ pop c.val = pop (c.val - 2 ^ i.val) + 1 := by decide +kernel
theorem pop_bd : ∀ n : Fin 9, ∀ c : Fin 256, c.val < 2 ^ n.val → pop c.val ≤ n.val := by decide +kernel
theorem fact_bd : ∀ n : Fin 9, ∀ p : Fin 9, ((fact p.val * fact (n.val - 1 - p.val) : Nat)) ≤ 300000000 := by decide +kernel
theorem wgt_bd (o : Bool) (n p : Nat) (hn : n ≤ 8) (hp : p ≤ 8) : 0 ≤ wgt o n p ∧ wgt o n p ≤ 300000000 := by
  unfold wgt
  split
  · have := fact_bd ⟨n, by omega⟩ ⟨p, by omega⟩
    simp only at this
    omega
  · decide
theorem con_sum (o : Bool) {l : List Int} {q : Int} (h : Vot l q) (i : Nat) (hi : i < l.length) : sumN (con o l q i) 0 (2 ^ l.length) = swingSum o l q i := by
  have h8 := h.1
  have hp := pow8 l.length h8.2
  have key := sum_pair' (fun c => if (!winB l q c && winB l q (c + 2 ^ i)) = true then wgt o l.length (pop c) else 0) i l.length hi
  unfold swingSum
  rw [sumN_congr' (con o l q i) (fun c => if bit c i = 1 then (if (!winB l q (c - 2 ^ i) && winB l q (c - 2 ^ i + 2 ^ i)) = true then wgt o l.length (pop (c - 2 ^ i)) else 0) else 0) (2 ^ l.length) 0 (fun c _ hc => by
    unfold con
    by_cases e : bit c i = 1
    · obtain ⟨h1, h2⟩ := pop_all ⟨c, by omega⟩ ⟨i, by omega⟩ e
      simp only at h1 h2
      rw [if_pos e, if_pos e, Nat.sub_add_cancel h1, h2, Nat.add_sub_cancel]
    · rw [if_neg e, if_neg e]), key]
  refine sumN_congr' _ _ _ _ fun c _ _ => ?_
  unfold sw
  by_cases e : bit c i = 0
  · rw [if_pos e, decide_eq_true e, Bool.true_and]
  · rw [if_neg e, decide_eq_false e]; simp
/-- how often voter i swings with p others -/
def cnt (l : List Int) (q : Int) (i p m : Nat) : Int := sumN (fun c => if sw l q i c = true ∧ pop c = p then 1 else 0) 0 m
theorem sumN_add (f g : Nat → Int) : ∀ d i, sumN (fun c => f c + g c) i d = sumN f i d + sumN g i d := by
  intro d
  induction d with
  | zero => intro i; rfl
  | succ d ih => intro i; simp only [sumN]; rw [ih]; omega
theorem cnt_sum (o : Bool) {l : List Int} {q : Int} (h : Vot l q) (i : Nat) (hi : i < l.length) : ∀ m, m ≤ 2 ^ l.length →
    sumN (fun p => cnt l q i p m * wgt o l.length p) 0 l.length = sumN (fun c => if sw l q i c = true then wgt o l.length (pop c) else 0) 0 m := by
  have h8 := h.1
  have hp := pow8 l.length h8.2
  intro m
  induction m with
  | zero => intro _; rw [sumN_none]; rfl; intro k _ _; simp [cnt, sumN]
  | succ m ih =>
    intro hm
    rw [sumN_succ, ← ih (by omega), Nat.zero_add]
    rw [sumN_congr' _ (fun p => cnt l q i p m * wgt o l.length p + (if sw l q i m = true ∧ pop m = p then wgt o l.length p else 0)) l.length 0 (fun p _ _ => by
      unfold cnt
      rw [sumN_succ, Nat.zero_add, Int.add_mul]
      congr 1
      split <;> simp), sumN_add]
    congr 1
    by_cases e : sw l q i m = true
    · rw [if_pos e]
      have hpm : pop m < l.length := by
        have hb : bit m i = 0 := by unfold sw at e; simp at e; exact e.1
        have hlt := bit_add_lt (show m < 2 ^ l.length by omega) hi hb
        have hq := Nat.two_pow_pos i
        have h1 := pop_bd ⟨l.length, by omega⟩ ⟨m + 2 ^ i, by omega⟩ hlt
        have hb1 : bit (m + 2 ^ i) i = 1 := by
          unfold bit at hb ⊢
          rw [show m + 2 ^ i = m + 2 ^ i * 1 by omega, Nat.add_mul_div_left _ _ hq]; omega
        have h2 := pop_all ⟨m + 2 ^ i, by omega⟩ ⟨i, by omega⟩ hb1
        simp only [Nat.add_sub_cancel] at h1 h2
        omega
      rw [sumN_one _ (pop m) l.length 0 (fun k _ _ hk => by rw [if_neg (fun h => hk h.2.symm)]) (by omega) (by omega), if_pos ⟨e, rfl⟩]
    · rw [if_neg e, sumN_none]
      intro k _ _; rw [if_neg (fun h => e h.1)]
def swingV (o : Bool) (l : List Int) (q : Int) : List Int := (List.range l.length).map (swingSum o l q)
def swingsV (o : Bool) (l : List Int) (q : Int) : List Int × Bool := if voteB l q = true then (swingV o l q, true) else ([], false)
theorem swingsV_len (o : Bool) (l : List Int) (q : Int) : (swingsV o l q).1.length ≤ 8 := by
  unfold swingsV
  split
  · rename_i e; have := ((voteB_iff l q).1 e).1; simp [swingV]; omega
  · simp
theorem sumN_bd (f : Nat → Int) (b : Int) : ∀ d i, (∀ k, i ≤ k → k < i + d → 0 ≤ f k ∧ f k ≤ b) → 0 ≤ sumN f i d ∧ sumN f i d ≤ b * d := by
  intro d
  induction d with
  | zero => intro i _; simp [sumN]
  | succ d ih =>
    intro i h
    have h1 := ih (i + 1) (fun k h1 h2 => h k (by omega) (by omega))
    have h2 := h i (by omega) (by omega)
    simp only [sumN]; rw [show ((d + 1 : Nat) : Int) = (d : Int) + 1 by omega, Int.mul_add]; omega
def dummyV (l : List Int) (q : Int) : List Int × Bool := if voteB l q = true then (ints ((List.range l.length).filter fun i => decide (swingSum false l q i = 0)), true) else ([], false)
def quotaV (l : List Int) (q i : Int) : List Int × Bool := if voteB l q = true ∧ (0 ≤ i ∧ i ≤ l.length - 1) then ((List.range (isum l).toNat).map fun k : Nat => swingSum false l ((k : Int) + 1) i.toNat, true) else ([], false)
/-! ### samples -/
def pointB (r : List Int) : Bool := decide (1 ≤ r.length ∧ r.length ≤ 4) && inB (-9) 9 r
def spok (p : List (List Int)) (i : Nat) : Bool := pointB (rdl p i) && decide ((rdl p i).length = (rdl p 0).length)
def lab1 (x : Int) : Bool := decide (x = 1 ∨ x = -1)
def sampB (p : List (List Int)) (y : List Int) : Bool := decide (p.length ≤ 16) && (decide (y.length = p.length) && (labB y && (List.range p.length).all (spok p)))
theorem sampB_at {p : List (List Int)} {y : List Int} (h : sampB p y = true) : p.length ≤ 16 ∧ y.length = p.length ∧ ∀ i, i < p.length → (rdl p i).length = (rdl p 0).length ∧ (1 ≤ (rdl p i).length ∧ (rdl p i).length ≤ 4) ∧ ∀ x ∈ rdl p i, -9 ≤ x ∧ x ≤ 9 := by
  simp only [sampB, spok, pointB, inB, Bool.and_eq_true, decide_eq_true_eq, List.all_eq_true, List.mem_range] at h
  obtain ⟨h1, h2, -, h3⟩ := h
  exact ⟨h1, h2, fun i hi => ⟨(h3 i hi).2, (h3 i hi).1.1, (h3 i hi).1.2⟩⟩
theorem labB_range (y : List Int) : labB y = (List.range y.length).all fun i => lab1 (y.getD i 0) := by
  rw [Bool.eq_iff_iff]
  simp only [labB, lab1, List.all_eq_true, List.mem_range]
  constructor
  · intro h i hi
    rw [List.getD_eq_getElem?_getD, List.getElem?_eq_getElem hi]
    exact h _ (List.getElem_mem hi)
  · intro h x hx
    obtain ⟨i, hi, rfl⟩ := List.mem_iff_getElem.1 hx
    have := h i hi
    rw [List.getD_eq_getElem?_getD, List.getElem?_eq_getElem hi] at this
    exact this
theorem all_both (n : Nat) (f g : Nat → Bool) : ((List.range n).all fun i => f i && g i) = ((List.range n).all f && (List.range n).all g) := by
  rw [Bool.eq_iff_iff]
  simp only [Bool.and_eq_true, List.all_eq_true, List.mem_range]
  exact ⟨fun h => ⟨fun x hx => (h x hx).1, fun x hx => (h x hx).2⟩, fun h x hx => ⟨h.1 x hx, h.2 x hx⟩⟩
def suitB (p : List (List Int)) (y : List Int) (l : List Int) (b : Int) : Bool := sampB p y && (planeB l b && (decide (p.length = 0) || decide ((rdl p 0).length = l.length)))
/-- the places where a plane errs -/
def errs (l : List Int) (b : Int) (p : List (List Int)) (y : List Int) (i : Nat) : Bool := decide (sideV l b (rdl p i) ≠ y.getD i 0)
def errV (l : List Int) (b : Int) (p : List (List Int)) (y : List Int) (n : Nat) : List Int := ((List.range n).filter (errs l b p y)).map fun i : Nat => (i : Int)
theorem errV_len (l : List Int) (b : Int) (p : List (List Int)) (y : List Int) (n : Nat) : (errV l b p y n).length ≤ n := by
  unfold errV; rw [List.length_map]; exact Nat.le_trans (List.length_filter_le ..) (by simp)
theorem errV_succ (l : List Int) (b : Int) (p : List (List Int)) (y : List Int) (n : Nat) : errV l b p y (n + 1) = if errs l b p y n = true then errV l b p y n ++ [(n : Int)] else errV l b p y n := by
  unfold errV
  rw [List.range_succ, List.filter_append]
  by_cases e : errs l b p y n = true
  · rw [if_pos e]; simp [List.filter, e]
  · rw [if_neg e]; simp [List.filter, e]
def fitsV (p : List (List Int)) (y : List Int) (l : List Int) (b : Int) : Bool × Bool := if suitB p y l b = true then ((errV l b p y p.length).length == 0, true) else (false, false)
/-! ### tables of votes -/
def told (l : List Int) (q : Int) : List Int := (List.range (2 ^ l.length)).map fun c => if winB l q c = true then 1 else 0
def voteTab (l : List Int) (q : Int) : List Int × Bool := if voteB l q = true ∧ l.length ≤ 4 then (told l q, true) else ([], false)
theorem told_len (l : List Int) (q : Int) : (told l q).length = 2 ^ l.length := by simp [told]
theorem voteTab_len (l : List Int) (q : Int) : (voteTab l q).1.length ≤ 16 := by
  unfold voteTab
  split
  · rename_i e; have := (pow4 l.length e.2).2; rw [told_len]; exact this
  · simp
def bothTab (l : List Int) (q : Int) (l' : List Int) (q' : Int) : List Int × Bool := if (voteB l q = true ∧ voteB l' q' = true) ∧ (l.length = l'.length ∧ l.length ≤ 4) then ((List.range (2 ^ l.length)).map fun c => if winB l q c = true ∧ winB l' q' c = true then 1 else 0, true) else ([], false)
theorem bothTab_len (l : List Int) (q : Int) (l' : List Int) (q' : Int) : (bothTab l q l' q').1.length ≤ 16 := by
  unfold bothTab
  split
  · rename_i e; have := (pow4 l.length e.2.2).2; simpa using this
  · simp
/-! ### bounds of mistakes -/
def mv (l : List Int) (b : Int) (p : List (List Int)) (y : List Int) (i : Nat) : Int := y.getD i 0 * (2 * dot l (rdl p i) - 2 * b + 1)
def mgn (l : List Int) (b : Int) (p : List (List Int)) (y : List Int) : Nat → Int
  | 0 => 0
  | n + 1 => if n = 0 then mv l b p y n else if mv l b p y n < mgn l b p y n then mv l b p y n else mgn l b p y n
theorem suitB_at {p : List (List Int)} {y : List Int} {l : List Int} {b : Int} (h : suitB p y l b = true) : p.length ≤ 16 ∧ y.length = p.length ∧ Pla l b ∧ ∀ i, i < p.length → (rdl p i).length = l.length ∧ ∀ x ∈ rdl p i, -9 ≤ x ∧ x ≤ 9 := by
  simp only [suitB, Bool.and_eq_true, Bool.or_eq_true, decide_eq_true_eq] at h
  obtain ⟨h1, h2, h3⟩ := h
  obtain ⟨a1, a2, a3⟩ := sampB_at h1
  exact ⟨a1, a2, (planeB_iff l b).1 h2, fun i hi => ⟨by have := (a3 i hi).1; omega, (a3 i hi).2.2⟩⟩
theorem suitB_lab {p : List (List Int)} {y : List Int} {l : List Int} {b : Int} (h : suitB p y l b = true) (i : Nat) (hi : i < p.length) : y.getD i 0 = 1 ∨ y.getD i 0 = -1 := by
  have hl := (suitB_at h).2.1
  simp only [suitB, sampB, Bool.and_eq_true] at h
  have h2 := h.1.2.2.1
  rw [labB_range] at h2
  have := List.all_eq_true.1 h2 i (List.mem_range.2 (by omega))
  simpa [lab1] using this
theorem dot_suit {p : List (List Int)} {y : List Int} {l : List Int} {b : Int} (h : suitB p y l b = true) (i : Nat) (hi : i < p.length) : -3564 ≤ dot l (rdl p i) ∧ dot l (rdl p i) ≤ 3564 := by
  obtain ⟨h1, h2, h3, h4⟩ := suitB_at h
  have := dot_bd 99 9 (by decide) (by decide) l (rdl p i) h3.2.1 (h4 i hi).2
  have := h3.1
  omega
theorem mv_ok {p : List (List Int)} {y : List Int} {l : List Int} {b : Int} (h : suitB p y l b = true) (i : Nat) (hi : i < p.length) : wrap64 (y.getD i 0 * wrap64 (wrap64 (wrap64 (2 * dot l (rdl p i)) - wrap64 (2 * b)) + 1)) = mv l b p y i ∧ mv l b p y i % 2 = 1 ∧ -7400 ≤ mv l b p y i ∧ mv l b p y i ≤ 7400 := by
  have hd := dot_suit h i hi
  have hb := (suitB_at h).2.2.1.2.2
  unfold mv
  rw [w64 (x := 2 * dot l (rdl p i)) (by omega) (by omega), w64 (x := 2 * b) (by omega) (by omega), w64 (x := 2 * dot l (rdl p i) - 2 * b) (by omega) (by omega), w64 (x := 2 * dot l (rdl p i) - 2 * b + 1) (by omega) (by omega)]
  rcases suitB_lab h i hi with e | e
  · rw [e, w64 (by omega) (by omega)]; omega
  · rw [e, w64 (by omega) (by omega)]; omega
theorem mgn_ok {p : List (List Int)} {y : List Int} {l : List Int} {b : Int} (h : suitB p y l b = true) : ∀ n, 1 ≤ n → n ≤ p.length → mgn l b p y n % 2 = 1 ∧ -7400 ≤ mgn l b p y n ∧ mgn l b p y n ≤ 7400 := by
  intro n
  induction n with
  | zero => intro h1; omega
  | succ n ih =>
    intro _ hn
    have hm := (mv_ok h n (by omega)).2
    unfold mgn
    split
    · exact hm
    · split
      · exact hm
      · exact ih (by omega) (by omega)
theorem mgn_sq {p : List (List Int)} {y : List Int} {l : List Int} {b : Int} (h : suitB p y l b = true) (h0 : p.length ≠ 0) : ¬ wrap64 (mgn l b p y p.length * mgn l b p y p.length) = 0 := by
  obtain ⟨h1, h2, h3⟩ := mgn_ok h p.length (by omega) (Nat.le_refl _)
  have := mul_bd (A := 7400) (B := 7400) ⟨h2, h3⟩ ⟨h2, h3⟩
  rw [w64 (by omega) (by omega)]
  intro e
  rcases Int.mul_eq_zero.1 e with e | e <;> omega
def far (p : List (List Int)) : Nat → Int
  | 0 => 0
  | n + 1 => if far p n > wrap64 (1 + dot (rdl p n) (rdl p n)) then far p n else wrap64 (1 + dot (rdl p n) (rdl p n))
def boundV (p : List (List Int)) (y : List Int) (l : List Int) (b : Int) : Int × Bool :=
  if suitB p y l b = true ∧ p.length ≠ 0 ∧ (errV l b p y p.length).length = 0 then (wrap64 (Int.tdiv (wrap64 (far p p.length * (wrap64 ((wrap64 (4 * dot l l)) + (wrap64 ((wrap64 ((wrap64 (2 * b)) - 1)) * (wrap64 ((wrap64 (2 * b)) - 1)))))))) (wrap64 (mgn l b p y p.length * mgn l b p y p.length))), true) else (0, false)
/-! ### merged voters -/
def mset (l : List Int) (i j : Nat) : List Int := l.set i (l.getD i 0 + l.getD j 0)
def mrg (l : List Int) (i j : Nat) : List Int := (mset l i j).eraseIdx j
theorem mset_len (l : List Int) (i j : Nat) : (mset l i j).length = l.length := by simp [mset]
theorem mrg_len (l : List Int) (i j : Nat) : (mrg l i j).length ≤ l.length := by
  unfold mrg; rw [List.length_eraseIdx, mset_len]; split <;> omega
theorem mset_at (l : List Int) (i j m : Nat) (hi : i < l.length) : (mset l i j).getD m 0 = if m = i then l.getD i 0 + l.getD j 0 else l.getD m 0 := by
  unfold mset
  by_cases e : m = i
  · subst e; rw [if_pos rfl, List.getD_eq_getElem?_getD, List.getElem?_set_self hi]; rfl
  · rw [if_neg e, List.getD_eq_getElem?_getD, List.getElem?_set_ne (fun h => e h.symm), ← List.getD_eq_getElem?_getD]
theorem erase_step (S : List Int) (j m : Nat) (hm : m < S.length) : (S.take (m + 1)).eraseIdx j = if m = j then (S.take m).eraseIdx j else (S.take m).eraseIdx j ++ [S.getD m 0] := by
  have hl : (S.take m).length = m := by simp; omega
  have e0 : S.take (m + 1) = S.take m ++ [S.getD m 0] := by
    rw [List.take_succ_eq_append_getElem hm, List.getD_eq_getElem?_getD, List.getElem?_eq_getElem hm]; rfl
  rw [e0]
  by_cases e : m = j
  · subst e
    rw [if_pos rfl, List.eraseIdx_append_of_length_le (by omega), hl, Nat.sub_self, show (S.take m).eraseIdx m = S.take m from List.eraseIdx_of_length_le (by omega)]
    simp
  · rw [if_neg e]
    by_cases e2 : m < j
    · rw [List.eraseIdx_of_length_le (by rw [List.length_append, hl]; simp; omega), List.eraseIdx_of_length_le (by omega)]
    · rw [List.eraseIdx_append_of_lt_length (by omega)]
def mergeV (l : List Int) (q i j : Int) : List Int × Int × Bool := if voteB l q = true ∧ (0 ≤ i ∧ i ≤ l.length - 1) ∧ (0 ≤ j ∧ j ≤ l.length - 1) ∧ i ≠ j ∧ voteB (mrg l i.toNat j.toNat) q = true then (mrg l i.toNat j.toNat, q, true) else ([], 0, false)
theorem mergeV_len (l : List Int) (q i j : Int) : (mergeV l q i j).1.length ≤ 8 := by
  unfold mergeV
  split
  · rename_i e
    have h := ((voteB_iff _ _).1 e.1).1
    have := mrg_len l i.toNat j.toNat
    simp only; omega
  · simp
end Go.Proofs.Ytihnmdnmjieffaa.Base
