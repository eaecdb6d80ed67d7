-- Own cut of words that the kit's print.sh has printed, and of own lemmas.
import Derived.Test.YtmfmgnpefjmieaaZFnTablesWMore
namespace Go.Proofs.Ytmfmgnpefjmieaa.Base
open Go Go.RowKit Go.Proofs.YtmfmgnpefjmieaaW.PrintWords Go.Proofs.YtmfmgnpefjmieaaW.PrintLast Go.Proofs.YtmfmgnpefjmieaaW.PrintMore
set_option linter.unusedVariables false
set_option linter.unusedSimpArgs false
theorem evp {α : Type} {c : Prop} [Decidable c] {A B : Nat → Option α} {r : α} (h : c) (e : Ev A r) : Ev (fun k => if c then A k else B k) r :=
  Ev.congr (fun k => if_pos h) e
theorem evn {α : Type} {c : Prop} [Decidable c] {A B : Nat → Option α} {r : α} (h : ¬ c) (e : Ev B r) : Ev (fun k => if c then A k else B k) r :=
  Ev.congr (fun k => if_neg h) e
theorem evb {α β : Type} {g : Nat → Option α} {f : Nat → α → Option β} {a : α} {r : β} (h : Ev g a) (k : Ev (fun n => f n a) r) : Ev (fun n => (g n).bind (f n)) r := Ev.bind h k
theorem evc {α : Type} {g : Option α} {r : α} (h : g = some r) : Ev (fun _ => g) r := ⟨0, fun _ _ => h⟩
theorem evs {α : Type} {r r' : α} (h : r = r') : Ev (fun _ => some r) r' := h ▸ Ev.now r
theorem evr {α : Type} {g : Nat → Option α} {r r' : α} (h : Ev g r) (e : r = r') : Ev g r' := e ▸ h
theorem w64 {x : Int} (h0 : -9223372036854775808 ≤ x) (h1 : x < 9223372036854775808) : wrap64 x = x := by unfold wrap64; omega
theorem w64s (i : Nat) (h : i < 9223372036854775807) : wrap64 ((i : Int) + 1) = ((i + 1 : Nat) : Int) := by unfold wrap64; omega
theorem rd_nat (l : List Int) (i : Nat) : rd l (i : Int) = l.getD i 0 := by simp [rd]
theorem shl1 (n : Nat) (h : n ≤ 62) : shl .i64 1 (n : Int) = ((2 ^ n : Nat) : Int) := by
  unfold shl
  have e : min (n : Int).toNat (IntKind.bits .i64) = n := by simp [IntKind.bits]; omega
  have hp : (2 : Nat) ^ n ≤ 2 ^ 62 := Nat.pow_le_pow_right (by decide) h
  rw [e, IntKind.wrap_i64]
  have : ((2 : Int) ^ n) = ((2 ^ n : Nat) : Int) := by simp
  rw [Int.one_mul, this]
  generalize 2 ^ n = q at *
  omega
theorem shrn (x n : Nat) (h : n ≤ 64) : shr .i64 (x : Int) (n : Int) = ((x / 2 ^ n : Nat) : Int) := by
  unfold shr
  have e : min (n : Int).toNat (IntKind.bits .i64) = n := by simp [IntKind.bits]; omega
  rw [e]; simp
theorem wr63 (n : Int) (h₀ : 0 ≤ n) (h₁ : n < 2 ^ 63) : IntKind.i64.wrap n = n := by rw [IntKind.wrap_i64]; omega
theorem and_nat (a b : Nat) (ha : a < 2 ^ 63) (hb : b < 2 ^ 63) : Go.bits .and .i64 (a : Int) (b : Int) = ((a &&& b : Nat) : Int) := (bits_nat .i64 63 (by decide) wr63 a b ha hb).1
theorem and1 (a : Nat) (ha : a < 2 ^ 63) : Go.bits .and .i64 (a : Int) 1 = ((a % 2 : Nat) : Int) := by
  have := and_nat a 1 ha (by decide)
  rw [Nat.and_one_is_mod] at this; exact this
def bit (k i : Nat) : Nat := k / 2 ^ i % 2
theorem bit_lt (k i : Nat) : bit k i < 2 := Nat.mod_lt _ (by decide)
theorem digit (k i : Nat) (hk : k < 2 ^ 63) (hi : i ≤ 64) : Go.bits .and .i64 (shr .i64 (k : Int) (i : Int)) 1 = ((bit k i : Nat) : Int) := by
  rw [shrn k i hi, and1 _ (Nat.lt_of_le_of_lt (Nat.div_le_self _ _) hk)]; rfl
def sumN (f : Nat → Int) : Nat → Nat → Int
  | _, 0 => 0
  | i, d + 1 => f i + sumN f (i + 1) d
theorem sumN_le (f : Nat → Int) (b : Int) (h : ∀ k, 0 ≤ f k ∧ f k ≤ b) : ∀ d i, 0 ≤ sumN f i d ∧ sumN f i d ≤ b * d := by
  intro d
  induction d with
  | zero => intro i; simp [sumN]
  | succ d ih => intro i; have := ih (i + 1); have := h i; simp only [sumN]; push_cast; rw [Int.mul_add]; omega
def Tab (m : Nat) (l : List Int) : Prop := m ≤ 4 ∧ l.length = 2 ^ m ∧ ∀ x ∈ l, 0 ≤ x ∧ x ≤ 1
theorem Tab.len {m : Nat} {l : List Int} (h : Tab m l) : l.length ≤ 16 := by
  rw [h.2.1]; exact Nat.pow_le_pow_right (by decide) h.1
theorem Tab.at_ {m : Nat} {l : List Int} (h : Tab m l) (k : Nat) : 0 ≤ l.getD k 0 ∧ l.getD k 0 ≤ 1 := by
  by_cases hk : k < l.length
  · rw [List.getD_eq_getElem?_getD, List.getElem?_eq_getElem hk]; exact h.2.2 _ (List.getElem_mem hk)
  · rw [List.getD_eq_getElem?_getD, List.getElem?_eq_none (by omega)]; decide
def isTab (n : Int) (l : List Int) : Bool := decide (0 ≤ n ∧ n ≤ 4) && (decide (l.length = 2 ^ n.toNat) && l.all fun x => decide (0 ≤ x ∧ x ≤ 1))
theorem isTab_iff (n : Int) (l : List Int) : isTab n l = true ↔ (0 ≤ n ∧ n ≤ 4) ∧ l.length = 2 ^ n.toNat ∧ ∀ x ∈ l, 0 ≤ x ∧ x ≤ 1 := by
  simp [isTab]
theorem isTab_tab {n : Int} {l : List Int} (h : isTab n l = true) : ∃ m : Nat, n = m ∧ Tab m l := by
  obtain ⟨⟨h0, h1⟩, h2, h3⟩ := (isTab_iff n l).1 h
  obtain ⟨m, rfl⟩ := Int.eq_ofNat_of_zero_le h0
  exact ⟨m, rfl, by omega, by simpa using h2, h3⟩
theorem testBit_bit (k i : Nat) : k.testBit i = decide (bit k i = 1) := Nat.testBit_eq_decide_div_mod_eq
def tcond (l : List Int) (a b c d : Nat) : Bool := decide (l.getD a 0 + l.getD b 0 = 2) && (decide (l.getD c 0 + l.getD d 0 = 0) && (decide (a &&& b = c &&& d) && decide (a ||| b = c ||| d)))
def s3 (l : List Int) (a b c : Nat) : Nat → Nat → Option (List Int) → Option (List Int)
  | _, 0, r => r
  | d, n + 1, r => if tcond l a b c d = true then some [(a : Int), (b : Int), (c : Int), (d : Int)] else s3 l a b c (d + 1) n r
def s2 (l : List Int) (a b : Nat) : Nat → Nat → Option (List Int) → Option (List Int)
  | _, 0, r => r
  | c, n + 1, r => s3 l a b c c (l.length - c) (s2 l a b (c + 1) n r)
def s1 (l : List Int) (a : Nat) : Nat → Nat → Option (List Int) → Option (List Int)
  | _, 0, r => r
  | b, n + 1, r => s2 l a b 0 l.length (s1 l a (b + 1) n r)
def s0 (l : List Int) : Nat → Nat → Option (List Int)
  | _, 0 => none
  | a, n + 1 => s1 l a a (l.length - a) (s0 l (a + 1) n)
def trade (n : Int) (l : List Int) : List Int × Bool := if isTab n l = true then ((s0 l 0 l.length).getD [], (s0 l 0 l.length).isSome) else ([], false)
theorem testBit_out {m a i : Nat} (h : a < 2 ^ m) (hi : m ≤ i) : bit a i = 0 := by
  have := Nat.testBit_lt_two_pow (Nat.lt_of_lt_of_le h (Nat.pow_le_pow_right (by decide) hi))
  rw [testBit_bit] at this
  have := bit_lt a i
  simp at *; omega
theorem same_sum {m a b c d : Nat} (ha : a < 2 ^ m) (hb : b < 2 ^ m) (hc : c < 2 ^ m) (hd : d < 2 ^ m) :
    (∀ i, i < m → bit a i + bit b i = bit c i + bit d i) ↔ (a &&& b = c &&& d ∧ a ||| b = c ||| d) := by
  constructor
  · intro h
    have h' : ∀ i, bit a i + bit b i = bit c i + bit d i := by
      intro i
      by_cases hi : i < m
      · exact h i hi
      · rw [testBit_out ha (by omega), testBit_out hb (by omega), testBit_out hc (by omega), testBit_out hd (by omega)]
    constructor
    · apply Nat.eq_of_testBit_eq
      intro i
      have := h' i; have := bit_lt a i; have := bit_lt b i; have := bit_lt c i; have := bit_lt d i
      rw [Nat.testBit_and, Nat.testBit_and, testBit_bit, testBit_bit, testBit_bit, testBit_bit, Bool.eq_iff_iff]
      simp; omega
    · apply Nat.eq_of_testBit_eq
      intro i
      have := h' i; have := bit_lt a i; have := bit_lt b i; have := bit_lt c i; have := bit_lt d i
      rw [Nat.testBit_or, Nat.testBit_or, testBit_bit, testBit_bit, testBit_bit, testBit_bit, Bool.eq_iff_iff]
      simp; omega
  · rintro ⟨h1, h2⟩ i _
    have e1 := congrArg (fun x => x.testBit i) h1
    have e2 := congrArg (fun x => x.testBit i) h2
    simp only [Nat.testBit_and, Nat.testBit_or] at e1 e2
    simp only [testBit_bit] at e1 e2
    rw [Bool.eq_iff_iff] at e1 e2
    simp only [Bool.and_eq_true, Bool.or_eq_true, decide_eq_true_eq] at e1 e2
    have u1 := bit_lt a i; have u2 := bit_lt b i; have u3 := bit_lt c i; have u4 := bit_lt d i
    clear h1 h2 ha hb hc hd
    generalize bit a i = x at *; generalize bit b i = y at *; generalize bit c i = z at *; generalize bit d i = t at *
    obtain rfl | rfl : x = 0 ∨ x = 1 := by omega
    all_goals obtain rfl | rfl : y = 0 ∨ y = 1 := by omega
    all_goals obtain rfl | rfl : z = 0 ∨ z = 1 := by omega
    all_goals obtain rfl | rfl : t = 0 ∨ t = 1 := by omega
    all_goals simp at e1 e2 ⊢
def isum : List Int → Int
  | [] => 0
  | x :: l => x + isum l
def Vot (l : List Int) (q : Int) : Prop := (1 ≤ l.length ∧ l.length ≤ 8) ∧ (∀ x ∈ l, 0 ≤ x ∧ x ≤ 20) ∧ 1 ≤ q ∧ q ≤ isum l
theorem Vot.at_ {l : List Int} {q : Int} (h : Vot l q) (k : Nat) : 0 ≤ l.getD k 0 ∧ l.getD k 0 ≤ 20 := by
  by_cases hk : k < l.length
  · rw [List.getD_eq_getElem?_getD, List.getElem?_eq_getElem hk]; exact h.2.1 _ (List.getElem_mem hk)
  · rw [List.getD_eq_getElem?_getD, List.getElem?_eq_none (by omega)]; decide
def wterm (l : List Int) (c i : Nat) : Int := l.getD i 0 * (bit c i : Int)
def wsum (l : List Int) (c : Nat) : Int := sumN (wterm l c) 0 l.length
def winB (l : List Int) (q : Int) (c : Nat) : Bool := decide (wsum l c ≥ q)
theorem Vot.wterm {l : List Int} {q : Int} (h : Vot l q) (c i : Nat) : 0 ≤ wterm l c i ∧ wterm l c i ≤ 20 := by
  unfold Base.wterm
  have a := h.at_ i; have b := bit_lt c i
  obtain e | e : bit c i = 0 ∨ bit c i = 1 := by omega
  · rw [e]; simp
  · rw [e]; omega
theorem Vot.wsum {l : List Int} {q : Int} (h : Vot l q) (c : Nat) : 0 ≤ wsum l c ∧ wsum l c ≤ 160 := by
  have := sumN_le (Base.wterm l c) 20 (h.wterm c) l.length 0; have := h.1; unfold Base.wsum; omega
def riseB : List Int → Bool
  | [] => true
  | [_] => true
  | x :: y :: l => decide (x < y) && riseB (y :: l)
def inB (lo hi : Int) (l : List Int) : Bool := l.all fun x => decide (lo ≤ x ∧ x ≤ hi)
theorem riseB_step (l : List Int) (i : Nat) (h : i + 1 < l.length) : riseB (l.drop i) = (decide (l.getD i 0 < l.getD (i + 1) 0) && riseB (l.drop (i + 1))) := by
  rw [List.drop_eq_getElem_cons (show i < l.length by omega), List.drop_eq_getElem_cons h]
  simp only [riseB, List.getD_eq_getElem?_getD, List.getElem?_eq_getElem (show i < l.length by omega), List.getElem?_eq_getElem h, Option.getD_some]
theorem riseB_end (l : List Int) (i : Nat) (h : l.length ≤ i + 1) : riseB (l.drop i) = true := by
  have hl : (l.drop i).length ≤ 1 := by simp; omega
  match e : l.drop i, hl with
  | [], _ => rfl
  | [x], _ => rfl
theorem riseB_tail {x : Int} {l : List Int} (h : riseB (x :: l) = true) : riseB l = true := by
  cases l with
  | nil => rfl
  | cons y l => simp only [riseB, Bool.and_eq_true] at h; exact h.2
theorem riseB_lt : ∀ (l : List Int) (x : Int), riseB (x :: l) = true → ∀ y ∈ l, x < y := by
  intro l
  induction l with
  | nil => intro x _ y hy; cases hy
  | cons z l ih =>
    intro x h y hy
    simp only [riseB, Bool.and_eq_true, decide_eq_true_eq] at h
    rcases List.mem_cons.1 hy with rfl | hy
    · exact h.1
    · exact Int.lt_trans h.1 (ih z h.2 y hy)
def setB (n : Int) (l : List Int) : Bool := inB 0 (n - 1) l && riseB l
def rdl (l : List (List Int)) (i : Nat) : List Int := l.getD i []
def planeB (l : List Int) (b : Int) : Bool := decide (1 ≤ l.length ∧ l.length ≤ 4) && (inB (-99) 99 l && decide (-99 ≤ b ∧ b ≤ 99))
def Pla (l : List Int) (b : Int) : Prop := (1 ≤ l.length ∧ l.length ≤ 4) ∧ (∀ x ∈ l, -99 ≤ x ∧ x ≤ 99) ∧ -99 ≤ b ∧ b ≤ 99
theorem planeB_iff (l : List Int) (b : Int) : planeB l b = true ↔ Pla l b := by
  simp [planeB, inB, Pla]
def dot : List Int → List Int → Int
  | x :: a, y :: b => x * y + dot a b
  | _, _ => 0
theorem mul_bd {x y A B : Int} (hx : -A ≤ x ∧ x ≤ A) (hy : -B ≤ y ∧ y ≤ B) : -(A * B) ≤ x * y ∧ x * y ≤ A * B := by
  have hA : 0 ≤ A := by omega
  have hB : 0 ≤ B := by omega
  have h : (x * y).natAbs ≤ (A * B).natAbs := by
    rw [Int.natAbs_mul, Int.natAbs_mul]
    exact Nat.mul_le_mul (by omega) (by omega)
  have h2 : ((A * B).natAbs : Int) = A * B := Int.natAbs_of_nonneg (Int.mul_nonneg hA hB)
  omega
theorem dot_bd (A B : Int) (hA : 0 ≤ A) (hB : 0 ≤ B) : ∀ (a b : List Int), (∀ x ∈ a, -A ≤ x ∧ x ≤ A) → (∀ y ∈ b, -B ≤ y ∧ y ≤ B) → -(A * B * a.length) ≤ dot a b ∧ dot a b ≤ A * B * a.length := by
  intro a
  induction a with
  | nil => intro b _ _; cases b <;> simp [dot]
  | cons x a ih =>
    intro b ha hb
    have hAB := Int.mul_nonneg hA hB
    have hm : A * B * ((x :: a).length : Nat) = A * B * (a.length : Nat) + A * B := by
      rw [List.length_cons, show ((a.length + 1 : Nat) : Int) = (a.length : Int) + 1 by omega, Int.mul_add]; omega
    have hn : 0 ≤ A * B * (a.length : Nat) := Int.mul_nonneg hAB (by omega)
    cases b with
    | nil => simp only [dot]; omega
    | cons y b =>
      have h1 := mul_bd (ha x (by simp)) (hb y (by simp))
      have h2 := ih b (fun z hz => ha z (by simp [hz])) (fun z hz => hb z (by simp [hz]))
      simp only [dot]; omega
def bitPt (n k : Nat) : List Int := (List.range n).map fun i => (bit k i : Int)
theorem bitPt_len (n k : Nat) : (bitPt n k).length = n := by simp [bitPt]
theorem bitPt_in (n k : Nat) : ∀ x ∈ bitPt n k, -1 ≤ x ∧ x ≤ 1 := by
  intro x hx
  obtain ⟨i, _, rfl⟩ := List.mem_map.1 hx
  have := bit_lt k i; omega
def sideV (l : List Int) (b : Int) (x : List Int) : Int := if dot l x ≥ b then 1 else -1
def tabOf (n : Nat) (l : List Int) (b : Int) : List Int := (List.range (2 ^ n)).map fun k => if dot l (bitPt n k) ≥ b then 1 else 0
theorem pow4 (n : Nat) (h : n ≤ 4) : 1 ≤ 2 ^ n ∧ 2 ^ n ≤ 16 := ⟨Nat.two_pow_pos n, Nat.pow_le_pow_right (n := 2) (by decide) h⟩
theorem tabOf_len (n : Nat) (l : List Int) (b : Int) : (tabOf n l b).length = 2 ^ n := by simp [tabOf]
theorem map_set (f : Nat → Int) (n i : Nat) (v : Int) : ((List.range n).map f).set i v = (List.range n).map fun j => if j = i then v else f j := by
  apply List.ext_getElem?
  intro j
  by_cases hj : j < n
  · by_cases e : i = j
    · subst e; simp [List.getElem?_set, hj]
    · have e' : ¬ j = i := fun h => e h.symm
      simp [List.getElem?_set, e, e', hj]
  · simp [List.getElem?_set, hj]
theorem map_at (f : Nat → Int) (n i : Nat) (h : i < n) : ((List.range n).map f).getD i 0 = f i := by
  simp [List.getD_eq_getElem?_getD, List.getElem?_map, List.getElem?_range h]
def told (l : List Int) (q : Int) : List Int := (List.range (2 ^ l.length)).map fun c => if winB l q c = true then 1 else 0
def far (p : List (List Int)) : Nat → Int
  | 0 => 0
  | n + 1 => if far p n > wrap64 (1 + dot (rdl p n) (rdl p n)) then far p n else wrap64 (1 + dot (rdl p n) (rdl p n))
end Go.Proofs.Ytmfmgnpefjmieaa.Base
