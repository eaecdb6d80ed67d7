-- Own cut of words that the kit's print.sh has printed, and of own lemmas.
import Derived.Test.YtkgekmpnbhomgaaDoorZFnVotesWMore
namespace Go.Proofs.YtkgekmpnbhomgaaDoor.Base
open Go Go.RowKit Go.Proofs.YtkgekmpnbhomgaaDoorW.PrintWords Go.Proofs.YtkgekmpnbhomgaaDoorW.PrintLast Go.Proofs.YtkgekmpnbhomgaaDoorW.PrintMore
set_option linter.unusedVariables false
set_option linter.unusedSimpArgs false
theorem evp {α : Type} {c : Prop} [Decidable c] {A B : Nat → Option α} {r : α} (h : c) (e : Ev A r) : Ev (fun k => if c then A k else B k) r :=
  Ev.congr (fun k => if_pos h) e
theorem evn {α : Type} {c : Prop} [Decidable c] {A B : Nat → Option α} {r : α} (h : ¬ c) (e : Ev B r) : Ev (fun k => if c then A k else B k) r :=
  Ev.congr (fun k => if_neg h) e
theorem evb {α β : Type} {g : Nat → Option α} {f : Nat → α → Option β} {a : α} {r : β} (h : Ev g a) (k : Ev (fun n => f n a) r) : Ev (fun n => (g n).bind (f n)) r := Ev.bind h k
theorem evc {α : Type} {g : Option α} {r : α} (h : g = some r) : Ev (fun _ => g) r := ⟨0, fun _ _ => h⟩
theorem evs {α : Type} {r r' : α} (h : r = r') : Ev (fun _ => some r) r' := h ▸ Ev.now r
theorem evr {α : Type} {g : Nat → Option α} {r r' : α} (h : Ev g r) (e : r = r') : Ev g r' := e ▸ h
theorem w64 {x : Int} (h0 : -9223372036854775808 ≤ x) (h1 : x < 9223372036854775808) : wrap64 x = x := by unfold wrap64; omega
theorem w64s (i : Nat) (h : i < 9223372036854775807) : wrap64 ((i : Int) + 1) = ((i + 1 : Nat) : Int) := by unfold wrap64; omega
theorem rd_nat (l : List Int) (i : Nat) : rd l (i : Int) = l.getD i 0 := by simp [rd]
theorem shl1 (n : Nat) (h : n ≤ 62) : shl .i64 1 (n : Int) = ((2 ^ n : Nat) : Int) := by
  unfold shl
  have e : min (n : Int).toNat (IntKind.bits .i64) = n := by simp [IntKind.bits]; omega
  have hp : (2 : Nat) ^ n ≤ 2 ^ 62 := Nat.pow_le_pow_right (by decide) h
  rw [e, IntKind.wrap_i64]
  have : ((2 : Int) ^ n) = ((2 ^ n : Nat) : Int) := by simp
  rw [Int.one_mul, this]
  generalize 2 ^ n = q at *
  omega
theorem shrn (x n : Nat) (h : n ≤ 64) : shr .i64 (x : Int) (n : Int) = ((x / 2 ^ n : Nat) : Int) := by
  unfold shr
  have e : min (n : Int).toNat (IntKind.bits .i64) = n := by simp [IntKind.bits]; omega
  rw [e]; simp
theorem wr63 (n : Int) (h₀ : 0 ≤ n) (h₁ : n < 2 ^ 63) : IntKind.i64.wrap n = n := by rw [IntKind.wrap_i64]; omega
theorem and_nat (a b : Nat) (ha : a < 2 ^ 63) (hb : b < 2 ^ 63) : Go.bits .and .i64 (a : Int) (b : Int) = ((a &&& b : Nat) : Int) := (bits_nat .i64 63 (by decide) wr63 a b ha hb).1
theorem or_nat (a b : Nat) (ha : a < 2 ^ 63) (hb : b < 2 ^ 63) : Go.bits .or .i64 (a : Int) (b : Int) = ((a ||| b : Nat) : Int) := (bits_nat .i64 63 (by decide) wr63 a b ha hb).2
theorem and1 (a : Nat) (ha : a < 2 ^ 63) : Go.bits .and .i64 (a : Int) 1 = ((a % 2 : Nat) : Int) := by
  have := and_nat a 1 ha (by decide)
  rw [Nat.and_one_is_mod] at this; exact this
def bit (k i : Nat) : Nat := k / 2 ^ i % 2
theorem bit_lt (k i : Nat) : bit k i < 2 := Nat.mod_lt _ (by decide)
theorem digit (k i : Nat) (hk : k < 2 ^ 63) (hi : i ≤ 64) : Go.bits .and .i64 (shr .i64 (k : Int) (i : Int)) 1 = ((bit k i : Nat) : Int) := by
  rw [shrn k i hi, and1 _ (Nat.lt_of_le_of_lt (Nat.div_le_self _ _) hk)]; rfl
theorem bit_or (k i : Nat) (h : bit k i = 0) : k ||| 2 ^ i = k + 2 ^ i := by
  have h1 : k = 2 ^ (i + 1) * (k / 2 ^ (i + 1)) + k % 2 ^ i := by
    have a := Nat.div_add_mod k (2 ^ i)
    have b := Nat.div_add_mod (k / 2 ^ i) 2
    rw [show k / 2 ^ i % 2 = 0 from h] at b
    rw [Nat.div_div_eq_div_mul, ← Nat.pow_succ] at b
    have c : 2 ^ i * (2 * (k / 2 ^ (i + 1)) + 0) + k % 2 ^ i = k := by rw [b]; exact a
    rw [Nat.pow_succ] at c ⊢
    rw [Nat.mul_assoc, ← Nat.add_zero (2 * _)]; exact c.symm
  have h2 : k % 2 ^ i < 2 ^ i := Nat.mod_lt _ (Nat.two_pow_pos i)
  have h3 : k = 2 ^ (i + 1) * (k / 2 ^ (i + 1)) ||| k % 2 ^ i := by
    rw [← Nat.two_pow_add_eq_or_of_lt (Nat.lt_of_lt_of_le h2 (Nat.pow_le_pow_right (by decide) (Nat.le_succ i)))]
    exact h1
  have h4 : k % 2 ^ i ||| 2 ^ i = 2 ^ i + k % 2 ^ i := by
    rw [Nat.or_comm]
    have := Nat.two_pow_add_eq_or_of_lt h2 1
    simpa using this.symm
  have h5 : k % 2 ^ i + 2 ^ i < 2 ^ (i + 1) := by rw [Nat.pow_succ]; omega
  calc k ||| 2 ^ i = 2 ^ (i + 1) * (k / 2 ^ (i + 1)) ||| (k % 2 ^ i ||| 2 ^ i) := by rw [← Nat.or_assoc, ← h3]
    _ = 2 ^ (i + 1) * (k / 2 ^ (i + 1)) + (2 ^ i + k % 2 ^ i) := by rw [h4, Nat.two_pow_add_eq_or_of_lt (by omega)]
    _ = k + 2 ^ i := by omega
def sumN (f : Nat → Int) : Nat → Nat → Int
  | _, 0 => 0
  | i, d + 1 => f i + sumN f (i + 1) d
theorem sumN_le (f : Nat → Int) (b : Int) (h : ∀ k, 0 ≤ f k ∧ f k ≤ b) : ∀ d i, 0 ≤ sumN f i d ∧ sumN f i d ≤ b * d := by
  intro d
  induction d with
  | zero => intro i; simp [sumN]
  | succ d ih => intro i; have := ih (i + 1); have := h i; simp only [sumN]; push_cast; rw [Int.mul_add]; omega
def Tab (m : Nat) (l : List Int) : Prop := m ≤ 4 ∧ l.length = 2 ^ m ∧ ∀ x ∈ l, 0 ≤ x ∧ x ≤ 1
theorem Tab.len {m : Nat} {l : List Int} (h : Tab m l) : l.length ≤ 16 := by
  rw [h.2.1]; exact Nat.pow_le_pow_right (by decide) h.1
theorem Tab.at_ {m : Nat} {l : List Int} (h : Tab m l) (k : Nat) : 0 ≤ l.getD k 0 ∧ l.getD k 0 ≤ 1 := by
  by_cases hk : k < l.length
  · rw [List.getD_eq_getElem?_getD, List.getElem?_eq_getElem hk]; exact h.2.2 _ (List.getElem_mem hk)
  · rw [List.getD_eq_getElem?_getD, List.getElem?_eq_none (by omega)]; decide
def tcond (l : List Int) (a b c d : Nat) : Bool := decide (l.getD a 0 + l.getD b 0 = 2) && (decide (l.getD c 0 + l.getD d 0 = 0) && (decide (a &&& b = c &&& d) && decide (a ||| b = c ||| d)))
def s3 (l : List Int) (a b c : Nat) : Nat → Nat → Option (List Int) → Option (List Int)
  | _, 0, r => r
  | d, n + 1, r => if tcond l a b c d = true then some [(a : Int), (b : Int), (c : Int), (d : Int)] else s3 l a b c (d + 1) n r
def s2 (l : List Int) (a b : Nat) : Nat → Nat → Option (List Int) → Option (List Int)
  | _, 0, r => r
  | c, n + 1, r => s3 l a b c c (l.length - c) (s2 l a b (c + 1) n r)
def s1 (l : List Int) (a : Nat) : Nat → Nat → Option (List Int) → Option (List Int)
  | _, 0, r => r
  | b, n + 1, r => s2 l a b 0 l.length (s1 l a (b + 1) n r)
def s0 (l : List Int) : Nat → Nat → Option (List Int)
  | _, 0 => none
  | a, n + 1 => s1 l a a (l.length - a) (s0 l (a + 1) n)
def isum : List Int → Int
  | [] => 0
  | x :: l => x + isum l
theorem isum_le (b : Int) : ∀ l : List Int, (∀ x ∈ l, 0 ≤ x ∧ x ≤ b) → 0 ≤ isum l ∧ isum l ≤ b * l.length := by
  intro l
  induction l with
  | nil => intro _; simp [isum]
  | cons x l ih =>
    intro h
    have h1 := h x (by simp)
    have h2 := ih (fun y hy => h y (by simp [hy]))
    simp only [isum, List.length_cons]
    rw [show ((l.length + 1 : Nat) : Int) = (l.length : Int) + 1 by omega, Int.mul_add]; omega
def okW (l : List Int) : Bool := l.all fun x => decide (0 ≤ x ∧ x ≤ 20)
def voteB (l : List Int) (q : Int) : Bool := decide (1 ≤ l.length ∧ l.length ≤ 8) && (okW l && decide (1 ≤ q ∧ q ≤ isum l))
def Vot (l : List Int) (q : Int) : Prop := (1 ≤ l.length ∧ l.length ≤ 8) ∧ (∀ x ∈ l, 0 ≤ x ∧ x ≤ 20) ∧ 1 ≤ q ∧ q ≤ isum l
theorem voteB_iff (l : List Int) (q : Int) : voteB l q = true ↔ Vot l q := by
  simp [voteB, okW, Vot]
theorem Vot.at_ {l : List Int} {q : Int} (h : Vot l q) (k : Nat) : 0 ≤ l.getD k 0 ∧ l.getD k 0 ≤ 20 := by
  by_cases hk : k < l.length
  · rw [List.getD_eq_getElem?_getD, List.getElem?_eq_getElem hk]; exact h.2.1 _ (List.getElem_mem hk)
  · rw [List.getD_eq_getElem?_getD, List.getElem?_eq_none (by omega)]; decide
theorem Vot.sum {l : List Int} {q : Int} (h : Vot l q) : 0 ≤ isum l ∧ isum l ≤ 160 := by
  have := isum_le 20 l h.2.1; have := h.1; omega
def wterm (l : List Int) (c i : Nat) : Int := l.getD i 0 * (bit c i : Int)
def wsum (l : List Int) (c : Nat) : Int := sumN (wterm l c) 0 l.length
def winB (l : List Int) (q : Int) (c : Nat) : Bool := decide (wsum l c ≥ q)
theorem Vot.wterm {l : List Int} {q : Int} (h : Vot l q) (c i : Nat) : 0 ≤ wterm l c i ∧ wterm l c i ≤ 20 := by
  unfold Base.wterm
  have a := h.at_ i; have b := bit_lt c i
  obtain e | e : bit c i = 0 ∨ bit c i = 1 := by omega
  · rw [e]; simp
  · rw [e]; omega
theorem Vot.wsum {l : List Int} {q : Int} (h : Vot l q) (c : Nat) : 0 ≤ wsum l c ∧ wsum l c ≤ 160 := by
  have := sumN_le (Base.wterm l c) 20 (h.wterm c) l.length 0; have := h.1; unfold Base.wsum; omega
theorem andnot_all : ∀ n : Fin 9, ∀ c : Fin 256, c.val < 2 ^ n.val → Go.bits .andNot .i64 (((2 ^ n.val : Nat) : Int) - 1) (c.val : Int) = ((2 ^ n.val - 1 - c.val : Nat) : Int) := by decide +kernel
theorem andnot (n c : Nat) (hn : n ≤ 8) (hc : c < 2 ^ n) : Go.bits .andNot .i64 (((2 ^ n : Nat) : Int) - 1) (c : Int) = ((2 ^ n - 1 - c : Nat) : Int) := by
  have : (2 : Nat) ^ n ≤ 2 ^ 8 := Nat.pow_le_pow_right (by decide) hn
  exact andnot_all ⟨n, by omega⟩ ⟨c, by omega⟩ hc
theorem pow8 (n : Nat) (h : n ≤ 8) : 1 ≤ 2 ^ n ∧ 2 ^ n ≤ 256 := ⟨Nat.two_pow_pos n, Nat.pow_le_pow_right (n := 2) (by decide) h⟩
theorem rdOf_map (f : Nat → Bool) (n i : Nat) (h : i < n) : rdOf false ((List.range n).map f) (i : Int) = f i := by
  simp [rdOf, List.getD_eq_getElem?_getD, List.getElem?_map, List.getElem?_range h]
def strongB (l : List Int) (q : Int) : Bool × Bool := if voteB l q = true then ((List.range (2 ^ l.length)).all fun c => winB l q c || winB l q (2 ^ l.length - 1 - c), true) else (false, false)
def properB (l : List Int) (q : Int) : Bool × Bool := if voteB l q = true then ((List.range (2 ^ l.length)).all fun c => !(winB l q c && winB l q (2 ^ l.length - 1 - c)), true) else (false, false)
def dualV (l : List Int) (q : Int) : List Int × Int × Bool := if voteB l q = true then (l, isum l + 1 - q, true) else ([], 0, false)
theorem pow_lt (i n : Nat) (h : i < n) : 2 ^ i < 2 ^ n := Nat.pow_lt_pow_right (by decide) h
def riseB : List Int → Bool
  | [] => true
  | [_] => true
  | x :: y :: l => decide (x < y) && riseB (y :: l)
def inB (lo hi : Int) (l : List Int) : Bool := l.all fun x => decide (lo ≤ x ∧ x ≤ hi)
theorem riseB_step (l : List Int) (i : Nat) (h : i + 1 < l.length) : riseB (l.drop i) = (decide (l.getD i 0 < l.getD (i + 1) 0) && riseB (l.drop (i + 1))) := by
  rw [List.drop_eq_getElem_cons (show i < l.length by omega), List.drop_eq_getElem_cons h]
  simp only [riseB, List.getD_eq_getElem?_getD, List.getElem?_eq_getElem (show i < l.length by omega), List.getElem?_eq_getElem h, Option.getD_some]
theorem riseB_end (l : List Int) (i : Nat) (h : l.length ≤ i + 1) : riseB (l.drop i) = true := by
  have hl : (l.drop i).length ≤ 1 := by simp; omega
  match e : l.drop i, hl with
  | [], _ => rfl
  | [x], _ => rfl
theorem riseB_tail {x : Int} {l : List Int} (h : riseB (x :: l) = true) : riseB l = true := by
  cases l with
  | nil => rfl
  | cons y l => simp only [riseB, Bool.and_eq_true] at h; exact h.2
theorem riseB_lt : ∀ (l : List Int) (x : Int), riseB (x :: l) = true → ∀ y ∈ l, x < y := by
  intro l
  induction l with
  | nil => intro x _ y hy; cases hy
  | cons z l ih =>
    intro x h y hy
    simp only [riseB, Bool.and_eq_true, decide_eq_true_eq] at h
    rcases List.mem_cons.1 hy with rfl | hy
    · exact h.1
    · exact Int.lt_trans h.1 (ih z h.2 y hy)
def setB (n : Int) (l : List Int) : Bool := inB 0 (n - 1) l && riseB l
def codeOf : List Int → Nat
  | [] => 0
  | x :: l => 2 ^ x.toNat + codeOf l
theorem code_lt (n : Nat) : ∀ (l : List Int) (c : Nat), riseB l = true → (∀ x ∈ l, 0 ≤ x ∧ x < n ∧ c < 2 ^ x.toNat) → c < 2 ^ n → c + codeOf l < 2 ^ n := by
  intro l
  induction l with
  | nil => intro c _ _ hc; simpa [codeOf] using hc
  | cons x l ih =>
    intro c hr hx hc
    have h1 := hx x (by simp)
    have key : c + 2 ^ x.toNat < 2 ^ (x.toNat + 1) := by rw [Nat.pow_succ]; omega
    have := ih (c + 2 ^ x.toNat) (riseB_tail hr) (fun y hy => by
      have h2 := hx y (by simp [hy])
      have h3 := riseB_lt l x hr y hy
      exact ⟨h2.1, h2.2.1, Nat.lt_of_lt_of_le key (Nat.pow_le_pow_right (by decide) (by omega))⟩)
      (Nat.lt_of_lt_of_le key (Nat.pow_le_pow_right (by decide) (by omega)))
    simp only [codeOf]; omega
theorem or_low (c x : Nat) (h : c < 2 ^ x) : c ||| 2 ^ x = c + 2 ^ x := bit_or c x (by unfold bit; rw [Nat.div_eq_of_lt h])
def winsWith (l : List Int) (q : Int) (s : List Int) : Bool × Bool := if voteB l q = true ∧ setB l.length s = true then (winB l q (codeOf s), true) else (false, false)
def rdl (l : List (List Int)) (i : Nat) : List Int := l.getD i []
def cmpv : List Int → List Int → Int
  | x :: a, y :: b => if x < y then -1 else if x > y then 1 else cmpv a b
  | [], [] => 0
  | [], _ :: _ => -1
  | _ :: _, [] => 1
def dot : List Int → List Int → Int
  | x :: a, y :: b => x * y + dot a b
  | _, _ => 0
theorem sumN_congr' (f g : Nat → Int) : ∀ d i, (∀ k, i ≤ k → k < i + d → f k = g k) → sumN f i d = sumN g i d := by
  intro d
  induction d with
  | zero => intro i _; rfl
  | succ d ih => intro i h; simp only [sumN]; rw [h i (by omega) (by omega), ih (i + 1) (fun k h1 h2 => h k (by omega) (by omega))]
theorem isum_map (f : Nat → Int) : ∀ d i, isum ((List.range' i d).map f) = sumN f i d := by
  intro d
  induction d with
  | zero => intro i; rfl
  | succ d ih => intro i; simp only [List.range'_succ, List.map_cons, isum, sumN]; rw [ih]
theorem map_set (f : Nat → Int) (n i : Nat) (v : Int) : ((List.range n).map f).set i v = (List.range n).map fun j => if j = i then v else f j := by
  apply List.ext_getElem?
  intro j
  by_cases hj : j < n
  · by_cases e : i = j
    · subst e; simp [List.getElem?_set, hj]
    · have e' : ¬ j = i := fun h => e h.symm
      simp [List.getElem?_set, e, e', hj]
  · simp [List.getElem?_set, hj]
def sw (l : List Int) (q : Int) (i c : Nat) : Bool := decide (bit c i = 0) && (!winB l q c && winB l q (c + 2 ^ i))
theorem sumN_add (f g : Nat → Int) : ∀ d i, sumN (fun c => f c + g c) i d = sumN f i d + sumN g i d := by
  intro d
  induction d with
  | zero => intro i; rfl
  | succ d ih => intro i; simp only [sumN]; rw [ih]; omega
def told (l : List Int) (q : Int) : List Int := (List.range (2 ^ l.length)).map fun c => if winB l q c = true then 1 else 0
def far (p : List (List Int)) : Nat → Int
  | 0 => 0
  | n + 1 => if far p n > wrap64 (1 + dot (rdl p n) (rdl p n)) then far p n else wrap64 (1 + dot (rdl p n) (rdl p n))
end Go.Proofs.YtkgekmpnbhomgaaDoor.Base
