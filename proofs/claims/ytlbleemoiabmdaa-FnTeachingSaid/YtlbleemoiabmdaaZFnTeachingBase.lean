-- Own cut of words that the kit's print.sh has printed, and of own lemmas.
import Derived.Test.YtlbleemoiabmdaaZFnTeachingWMore
namespace Go.Proofs.Ytlbleemoiabmdaa.Base
open Go Go.RowKit Go.Proofs.YtlbleemoiabmdaaW.PrintWords Go.Proofs.YtlbleemoiabmdaaW.PrintLast Go.Proofs.YtlbleemoiabmdaaW.PrintMore
set_option linter.unusedVariables false
set_option linter.unusedSimpArgs false
theorem evp {α : Type} {c : Prop} [Decidable c] {A B : Nat → Option α} {r : α} (h : c) (e : Ev A r) : Ev (fun k => if c then A k else B k) r :=
  Ev.congr (fun k => if_pos h) e
theorem evn {α : Type} {c : Prop} [Decidable c] {A B : Nat → Option α} {r : α} (h : ¬ c) (e : Ev B r) : Ev (fun k => if c then A k else B k) r :=
  Ev.congr (fun k => if_neg h) e
theorem evb {α β : Type} {g : Nat → Option α} {f : Nat → α → Option β} {a : α} {r : β} (h : Ev g a) (k : Ev (fun n => f n a) r) : Ev (fun n => (g n).bind (f n)) r := Ev.bind h k
theorem evc {α : Type} {g : Option α} {r : α} (h : g = some r) : Ev (fun _ => g) r := ⟨0, fun _ _ => h⟩
theorem evs {α : Type} {r r' : α} (h : r = r') : Ev (fun _ => some r) r' := h ▸ Ev.now r
theorem evr {α : Type} {g : Nat → Option α} {r r' : α} (h : Ev g r) (e : r = r') : Ev g r' := e ▸ h
theorem w64 {x : Int} (h0 : -9223372036854775808 ≤ x) (h1 : x < 9223372036854775808) : wrap64 x = x := by unfold wrap64; omega
theorem w64s (i : Nat) (h : i < 9223372036854775807) : wrap64 ((i : Int) + 1) = ((i + 1 : Nat) : Int) := by unfold wrap64; omega
theorem rd_nat (l : List Int) (i : Nat) : rd l (i : Int) = l.getD i 0 := by simp [rd]
theorem shl1 (n : Nat) (h : n ≤ 62) : shl .i64 1 (n : Int) = ((2 ^ n : Nat) : Int) := by
  unfold shl
  have e : min (n : Int).toNat (IntKind.bits .i64) = n := by simp [IntKind.bits]; omega
  have hp : (2 : Nat) ^ n ≤ 2 ^ 62 := Nat.pow_le_pow_right (by decide) h
  rw [e, IntKind.wrap_i64]
  have : ((2 : Int) ^ n) = ((2 ^ n : Nat) : Int) := by simp
  rw [Int.one_mul, this]
  generalize 2 ^ n = q at *
  omega
theorem shrn (x n : Nat) (h : n ≤ 64) : shr .i64 (x : Int) (n : Int) = ((x / 2 ^ n : Nat) : Int) := by
  unfold shr
  have e : min (n : Int).toNat (IntKind.bits .i64) = n := by simp [IntKind.bits]; omega
  rw [e]; simp
theorem wr63 (n : Int) (h₀ : 0 ≤ n) (h₁ : n < 2 ^ 63) : IntKind.i64.wrap n = n := by rw [IntKind.wrap_i64]; omega
theorem and_nat (a b : Nat) (ha : a < 2 ^ 63) (hb : b < 2 ^ 63) : Go.bits .and .i64 (a : Int) (b : Int) = ((a &&& b : Nat) : Int) := (bits_nat .i64 63 (by decide) wr63 a b ha hb).1
theorem and1 (a : Nat) (ha : a < 2 ^ 63) : Go.bits .and .i64 (a : Int) 1 = ((a % 2 : Nat) : Int) := by
  have := and_nat a 1 ha (by decide)
  rw [Nat.and_one_is_mod] at this; exact this
def bit (k i : Nat) : Nat := k / 2 ^ i % 2
theorem digit (k i : Nat) (hk : k < 2 ^ 63) (hi : i ≤ 64) : Go.bits .and .i64 (shr .i64 (k : Int) (i : Int)) 1 = ((bit k i : Nat) : Int) := by
  rw [shrn k i hi, and1 _ (Nat.lt_of_le_of_lt (Nat.div_le_self _ _) hk)]; rfl
def Tab (m : Nat) (l : List Int) : Prop := m ≤ 4 ∧ l.length = 2 ^ m ∧ ∀ x ∈ l, 0 ≤ x ∧ x ≤ 1
theorem Tab.len {m : Nat} {l : List Int} (h : Tab m l) : l.length ≤ 16 := by
  rw [h.2.1]; exact Nat.pow_le_pow_right (by decide) h.1
theorem Tab.at_ {m : Nat} {l : List Int} (h : Tab m l) (k : Nat) : 0 ≤ l.getD k 0 ∧ l.getD k 0 ≤ 1 := by
  by_cases hk : k < l.length
  · rw [List.getD_eq_getElem?_getD, List.getElem?_eq_getElem hk]; exact h.2.2 _ (List.getElem_mem hk)
  · rw [List.getD_eq_getElem?_getD, List.getElem?_eq_none (by omega)]; decide
def tcond (l : List Int) (a b c d : Nat) : Bool := decide (l.getD a 0 + l.getD b 0 = 2) && (decide (l.getD c 0 + l.getD d 0 = 0) && (decide (a &&& b = c &&& d) && decide (a ||| b = c ||| d)))
def s3 (l : List Int) (a b c : Nat) : Nat → Nat → Option (List Int) → Option (List Int)
  | _, 0, r => r
  | d, n + 1, r => if tcond l a b c d = true then some [(a : Int), (b : Int), (c : Int), (d : Int)] else s3 l a b c (d + 1) n r
def s2 (l : List Int) (a b : Nat) : Nat → Nat → Option (List Int) → Option (List Int)
  | _, 0, r => r
  | c, n + 1, r => s3 l a b c c (l.length - c) (s2 l a b (c + 1) n r)
def s1 (l : List Int) (a : Nat) : Nat → Nat → Option (List Int) → Option (List Int)
  | _, 0, r => r
  | b, n + 1, r => s2 l a b 0 l.length (s1 l a (b + 1) n r)
def s0 (l : List Int) : Nat → Nat → Option (List Int)
  | _, 0 => none
  | a, n + 1 => s1 l a a (l.length - a) (s0 l (a + 1) n)
def isum : List Int → Int
  | [] => 0
  | x :: l => x + isum l
def Vot (l : List Int) (q : Int) : Prop := (1 ≤ l.length ∧ l.length ≤ 8) ∧ (∀ x ∈ l, 0 ≤ x ∧ x ≤ 20) ∧ 1 ≤ q ∧ q ≤ isum l
theorem Vot.at_ {l : List Int} {q : Int} (h : Vot l q) (k : Nat) : 0 ≤ l.getD k 0 ∧ l.getD k 0 ≤ 20 := by
  by_cases hk : k < l.length
  · rw [List.getD_eq_getElem?_getD, List.getElem?_eq_getElem hk]; exact h.2.1 _ (List.getElem_mem hk)
  · rw [List.getD_eq_getElem?_getD, List.getElem?_eq_none (by omega)]; decide
def riseB : List Int → Bool
  | [] => true
  | [_] => true
  | x :: y :: l => decide (x < y) && riseB (y :: l)
def inB (lo hi : Int) (l : List Int) : Bool := l.all fun x => decide (lo ≤ x ∧ x ≤ hi)
theorem riseB_step (l : List Int) (i : Nat) (h : i + 1 < l.length) : riseB (l.drop i) = (decide (l.getD i 0 < l.getD (i + 1) 0) && riseB (l.drop (i + 1))) := by
  rw [List.drop_eq_getElem_cons (show i < l.length by omega), List.drop_eq_getElem_cons h]
  simp only [riseB, List.getD_eq_getElem?_getD, List.getElem?_eq_getElem (show i < l.length by omega), List.getElem?_eq_getElem h, Option.getD_some]
theorem riseB_end (l : List Int) (i : Nat) (h : l.length ≤ i + 1) : riseB (l.drop i) = true := by
  have hl : (l.drop i).length ≤ 1 := by simp; omega
  match e : l.drop i, hl with
  | [], _ => rfl
  | [x], _ => rfl
theorem riseB_tail {x : Int} {l : List Int} (h : riseB (x :: l) = true) : riseB l = true := by
  cases l with
  | nil => rfl
  | cons y l => simp only [riseB, Bool.and_eq_true] at h; exact h.2
theorem riseB_lt : ∀ (l : List Int) (x : Int), riseB (x :: l) = true → ∀ y ∈ l, x < y := by
  intro l
  induction l with
  | nil => intro x _ y hy; cases hy
  | cons z l ih =>
    intro x h y hy
    simp only [riseB, Bool.and_eq_true, decide_eq_true_eq] at h
    rcases List.mem_cons.1 hy with rfl | hy
    · exact h.1
    · exact Int.lt_trans h.1 (ih z h.2 y hy)
def setB (n : Int) (l : List Int) : Bool := inB 0 (n - 1) l && riseB l
def rdl (l : List (List Int)) (i : Nat) : List Int := l.getD i []
theorem rdl_mem (l : List (List Int)) (i : Nat) (h : i < l.length) : rdl l i ∈ l := by
  unfold rdl; rw [List.getD_eq_getElem?_getD, List.getElem?_eq_getElem h]; exact List.getElem_mem h
def labB (l : List Int) : Bool := l.all fun x => decide (x = 1 ∨ x = -1)
def lexB : List Int → List Int → Bool
  | x :: a, y :: b => if x = y then lexB a b else decide (x < y)
  | _, _ => false
def cmpv : List Int → List Int → Int
  | x :: a, y :: b => if x < y then -1 else if x > y then 1 else cmpv a b
  | [], [] => 0
  | [], _ :: _ => -1
  | _ :: _, [] => 1
theorem cmp_lex : ∀ (a b : List Int), a.length = b.length → (cmpv a b ≥ 0 ↔ lexB a b = false) := by
  intro a
  induction a with
  | nil =>
    intro b h
    cases b with
    | nil => simp [cmpv, lexB]
    | cons y b => simp at h
  | cons x a ih =>
    intro b h
    cases b with
    | nil => simp at h
    | cons y b =>
      simp only [cmpv, lexB]
      by_cases e : x < y
      · rw [if_pos e, if_neg (show ¬ x = y by omega), decide_eq_true e]; simp
      · rw [if_neg e]
        by_cases e' : x > y
        · rw [if_pos e', if_neg (show ¬ x = y by omega), decide_eq_false e]; simp
        · rw [if_neg e', if_pos (show x = y by omega)]; exact ih b (by simpa using h)
def rowok (l : List (List Int)) (i : Nat) : Bool := decide ((rdl l i).length ≤ 8) && (decide ((rdl l i).length = (rdl l 0).length) && (labB (rdl l i) && (decide (i = 0) || lexB (rdl l (i - 1)) (rdl l i))))
def classB (l : List (List Int)) : Bool := decide (1 ≤ l.length ∧ l.length ≤ 256) && (List.range l.length).all (rowok l)
def dot : List Int → List Int → Int
  | x :: a, y :: b => x * y + dot a b
  | _, _ => 0
def far (p : List (List Int)) : Nat → Int
  | 0 => 0
  | n + 1 => if far p n > wrap64 (1 + dot (rdl p n) (rdl p n)) then far p n else wrap64 (1 + dot (rdl p n) (rdl p n))
end Go.Proofs.Ytlbleemoiabmdaa.Base
