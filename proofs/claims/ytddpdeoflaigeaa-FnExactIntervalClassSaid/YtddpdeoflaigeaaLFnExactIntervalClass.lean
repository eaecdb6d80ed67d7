/- Own lemmas: what the printed functions of one law come to. -/
import Derived.Test.YtddpdeoflaigeaaMFnExactIntervalClassx3
import Derived.Test.YtddpdeoflaigeaaBase
namespace Go.Proofs.Ytddpdeoflaigeaa.LFnExactIntervalClass
open Go Go.RowKit Go.Proofs.Ytddpdeoflaigeaa.Base Go.Proofs.Ytddpdeoflaigeaa.PFnExactIntervalClass Go.Proofs.YtddpdeoflaigeaaW.PrintWords Go.Proofs.YtddpdeoflaigeaaW.PrintLast Go.Proofs.YtddpdeoflaigeaaW.PrintMore
set_option linter.unusedVariables false
set_option linter.unusedSimpArgs false
set_option maxRecDepth 4000

/-! ### laws_eqIntS -/
theorem eqIntS_l0 (a b : List Int) (hl : a.length = b.length) (hx : a.length < 4611686018427387904) : ∀ (d i : Nat), i + d = a.length →
    Ev (fun k => laws_eqIntS.l0 k a b (i : Int)) (decide (a.drop i = b.drop i)) := by
  intro d
  induction d with
  | zero =>
    intro i hi
    refine Ev.step (fun k => laws_eqIntS.l0.eq_2 ..) (evn (by omega) (evs ?_))
    simp [List.drop_of_length_le (show a.length ≤ i by omega), List.drop_of_length_le (show b.length ≤ i by omega)]
  | succ d ih =>
    intro i hi
    refine Ev.step (fun k => laws_eqIntS.l0.eq_2 ..) (evp (by omega) (evp (by omega) (evp (by omega) ?_)))
    rw [w64s i (by omega), rd_nat, rd_nat]
    have ea := List.drop_eq_getElem_cons (show i < a.length by omega)
    have eb := List.drop_eq_getElem_cons (show i < b.length by omega)
    simp only [List.getD_eq_getElem?_getD, List.getElem?_eq_getElem (show i < a.length by omega), List.getElem?_eq_getElem (show i < b.length by omega), Option.getD_some]
    by_cases e : a[i] = b[i]
    · refine evp e (evr (ih (i + 1) (by omega)) ?_)
      rw [ea, eb, e]; simp only [List.cons.injEq, true_and]
    · refine evn e (evs ?_)
      rw [ea, eb]; simp only [List.cons.injEq, e, false_and, decide_false]
theorem eqIntS (a b : List Int) (hx : a.length < 4611686018427387904) : Ev (fun k => laws_eqIntS.f k a b) (decide (a = b)) := by
  unfold laws_eqIntS.f
  by_cases h : a.length = b.length
  · refine evp (by omega) (evr (eqIntS_l0 a b h hx a.length 0 (by omega)) (by simp))
  · refine evn (by omega) (evs ?_)
    have : a ≠ b := fun e => h (by rw [e])
    simp [this]

/-! ### laws_markIntS -/
theorem markIntS_l0 (d : Nat) : ∀ (x0 : List Int) (m : Int) (i : Nat), i + d = x0.length → x0.length < 4611686018427387904 → 0 ≤ m → m + d < 4611686018427387904 →
    Ev (fun k => laws_markIntS.l0 k x0 m (i : Int)) (m + d, x0.take i ++ (List.range d).map fun j : Nat => m + (j : Int)) := by
  induction d with
  | zero =>
    intro x0 m i hi hx h0 hm
    refine Ev.step (fun k => laws_markIntS.l0.eq_2 ..) (evn (by omega) (evs ?_))
    simp [List.take_of_length_le (show x0.length ≤ i by omega)]
  | succ d ih =>
    intro x0 m i hi hx h0 hm
    refine Ev.step (fun k => laws_markIntS.l0.eq_2 ..) (evp (by omega) (evp (by omega) ?_))
    rw [w64s i (by omega), w64 (x := m + 1) (by omega) (by omega)]
    refine evr (ih _ _ (i + 1) (by simp; omega) (by simpa using hx) (by omega) (by omega)) ?_
    rw [Int.toNat_natCast, set_take _ _ _ (by omega), List.append_assoc, List.range_succ_eq_map]
    simp only [List.map_cons, List.map_map, Prod.mk.injEq]
    refine ⟨by push_cast; omega, ?_⟩
    congr 1
    simp only [List.cons_append, List.nil_append, List.cons.injEq]
    refine ⟨by simp, List.map_congr_left fun j _ => by simp; omega⟩
theorem markIntS (l : List Int) (m : Int) (h0 : 0 ≤ m) (h : m + l.length < 4611686018427387904) : Ev (fun k => laws_markIntS.f k l m) (m + l.length, marks l m) := by
  unfold laws_markIntS.f
  exact evr (markIntS_l0 l.length l m 0 (by omega) (by omega) h0 h) (by simp [marks])

/-! ### laws_heldIntS -/
theorem heldIntS_l0 (l : List Int) (m : Int) (h0 : 0 ≤ m) (hm : m + l.length < 4611686018427387904) (hv : ∀ i, i < l.length → l.getD i 0 = m + i) : ∀ (d i : Nat), i + d = l.length →
    Ev (fun k => laws_heldIntS.l0 k l (m + (i : Int)) (i : Int)) (m + l.length) := by
  intro d
  induction d with
  | zero =>
    intro i hi
    refine Ev.step (fun k => laws_heldIntS.l0.eq_2 ..) (evn (by omega) (evs ?_))
    omega
  | succ d ih =>
    intro i hi
    refine Ev.step (fun k => laws_heldIntS.l0.eq_2 ..) (evp (by omega) (evp (by omega) ?_))
    rw [w64s i (by omega), w64 (x := m + i + 1) (by omega) (by omega), rd_nat]
    refine evp (hv i (by omega)) ?_
    have := ih (i + 1) (by omega)
    rw [show m + ((i + 1 : Nat) : Int) = m + i + 1 by omega] at this
    exact this
theorem heldIntS (l : List Int) (m : Int) (h0 : 0 ≤ m) (hm : m + l.length < 4611686018427387904) : Ev (fun k => laws_heldIntS.f k (marks l m) m) (m + l.length) := by
  unfold laws_heldIntS.f
  have h := heldIntS_l0 (marks l m) m h0 (by rw [marks_length]; exact hm) (fun i hi => marks_at l m i (by rwa [marks_length] at hi)) l.length 0 (by rw [marks_length]; omega)
  rw [marks_length] at h
  simpa using h

/-! ### spec_l1In -/
theorem l1In (a b c : Int) : spec_l1In.f a b c = some (decide (b ≤ a ∧ a ≤ c)) := by
  unfold spec_l1In.f; split <;> simp_all <;> omega

/-! ### impl_within -/
theorem within (a b c : Int) : impl_within.f a b c = some (decide (b ≤ a ∧ a ≤ c)) := by
  unfold impl_within.f; split <;> simp_all <;> omega

/-! ### laws_eqIntSS laws_eqIntS -/
theorem eqIntSS_l0 (a b : List (List Int)) (hl : a.length = b.length) (hx : a.length ≤ 1048576) (hr : ∀ r ∈ a, (r.length : Int) ≤ 1048576) : ∀ (d i : Nat), i + d = a.length →
    Ev (fun k => laws_eqIntSS.l0 k a b (i : Int)) (decide (a.drop i = b.drop i)) := by
  intro d
  induction d with
  | zero =>
    intro i hi
    refine Ev.step (fun k => laws_eqIntSS.l0.eq_2 ..) (evn (by omega) (evs ?_))
    simp [List.drop_of_length_le (show a.length ≤ i by omega), List.drop_of_length_le (show b.length ≤ i by omega)]
  | succ d ih =>
    intro i hi
    have := hr _ (rdl_mem a i (by omega))
    refine Ev.step (fun k => laws_eqIntSS.l0.eq_2 ..) (evp (by omega) (evp (by omega) (evp (by omega) ?_)))
    rw [w64s i (by omega), show rd_L1 a (i : Int) = rdl a i by simp [rd_L1, rdl], show rd_L1 b (i : Int) = rdl b i by simp [rd_L1, rdl]]
    refine evb (eqIntS _ _ (by omega)) ?_
    rw [rdl_drop a i (by omega), rdl_drop b i (by omega)]
    by_cases e : rdl a i = rdl b i
    · refine evp (by simpa using e) (evr (ih (i + 1) (by omega)) ?_)
      rw [e]; simp only [List.cons.injEq, true_and]
    · refine evn (by simpa using e) (evs ?_)
      simp only [List.cons.injEq, e, false_and, decide_false]
theorem eqIntSS (a b : List (List Int)) (hx : a.length ≤ 1048576) (hr : ∀ r ∈ a, (r.length : Int) ≤ 1048576) : Ev (fun k => laws_eqIntSS.f k a b) (decide (a = b)) := by
  unfold laws_eqIntSS.f
  by_cases h : a.length = b.length
  · refine evp (by omega) (evr (eqIntSS_l0 a b h hx hr a.length 0 (by omega)) (by simp))
  · refine evn (by omega) (evs ?_)
    have : a ≠ b := fun e => h (by rw [e])
    simp [this]

/-! ### laws_markIntSS laws_markIntS laws_heldIntSS laws_heldIntS -/
def totS : List (List Int) → Int
  | [] => 0
  | r :: l => r.length + totS l
def marksS : List (List Int) → Int → List (List Int)
  | [], _ => []
  | r :: l, a => marks r a :: marksS l (a + r.length)
theorem totS_nonneg : ∀ l, 0 ≤ totS l
  | [] => Int.le_refl _
  | r :: l => by have := totS_nonneg l; simp only [totS]; omega
theorem totS_le : ∀ l, (∀ r ∈ l, (r.length : Int) ≤ 1048576) → totS l ≤ l.length * 1048576
  | [], _ => by simp [totS]
  | r :: l, h => by
    have h1 := totS_le l (fun x hx => h x (by simp [hx]))
    have h2 := h r (by simp)
    simp only [totS, List.length_cons]
    rw [show ((l.length + 1 : Nat) : Int) = (l.length : Int) + 1 by omega, Int.add_mul]; omega
theorem marksS_length : ∀ l a, (marksS l a).length = l.length
  | [], _ => rfl
  | r :: l, a => by simp only [marksS, List.length_cons, marksS_length l]
theorem markRowsS : ∀ (l : List (List Int)) (a : Int), 0 ≤ a → a + totS l < 4611686018427387904 → Ev (fun k => laws_markIntSS.g k l a) (a + totS l, marksS l a) := by
  intro l
  induction l with
  | nil => intro a h0 _; exact evs (by simp [totS, marksS])
  | cons r l ih =>
    intro a h0 hb
    have hn := totS_nonneg l
    simp only [totS] at hb ⊢
    refine evr (evb (markIntS r a h0 (by omega)) (evb (ih (a + r.length) (by omega) (by omega)) (evs rfl))) ?_
    simp only [marksS, Prod.mk.injEq]
    exact ⟨by omega, trivial⟩
theorem markIntSS (l : List (List Int)) (a : Int) (h0 : 0 ≤ a) (hl : l.length ≤ 1048576) (h : a + totS l < 4611686018427387904) : Ev (fun k => laws_markIntSS.f k l a) (a + totS l, marksS l a) := by
  unfold laws_markIntSS.f
  exact evp (by omega) (markRowsS l a h0 h)
theorem heldRows : ∀ (l pre : List (List Int)) (a : Int), 0 ≤ a → pre.length + l.length ≤ 1048576 → a + totS l < 4611686018427387904 →
    Ev (fun k => laws_heldIntSS.l0 k (pre ++ marksS l a) a (pre.length : Int)) (a + totS l) := by
  intro l
  induction l with
  | nil =>
    intro pre a h0 hl hb
    exact Ev.step (fun k => laws_heldIntSS.l0.eq_2 ..) (evn (by simp [marksS]) (evs (by simp [totS])))
  | cons r l ih =>
    intro pre a h0 hl hb
    have hn := totS_nonneg l
    simp only [totS, List.length_cons] at hb hl ⊢
    have e : pre ++ marksS (r :: l) a = (pre ++ [marks r a]) ++ marksS l (a + r.length) := by simp [marksS]
    refine Ev.step (fun k => laws_heldIntSS.l0.eq_2 ..) (evp (by simp [marksS]; omega) (evp (by omega) ?_))
    have er : rd_L1 (pre ++ marksS (r :: l) a) (pre.length : Int) = marks r a := by simp [rd_L1, marksS]
    rw [er]
    refine evb (heldIntS r a h0 (by omega)) (evn (by omega) ?_)
    have h1 := ih (pre ++ [marks r a]) (a + r.length) (by omega) (by simp; omega) (by omega)
    rw [w64s pre.length (by omega), e]
    rw [List.length_append, List.length_singleton] at h1
    exact evr h1 (by omega)
theorem heldIntSS (l : List (List Int)) (a : Int) (h0 : 0 ≤ a) (hl : l.length ≤ 1048576) (h : a + totS l < 4611686018427387904) : Ev (fun k => laws_heldIntSS.f k (marksS l a) a) (a + totS l) := by
  unfold laws_heldIntSS.f
  have := heldRows l [] a h0 (by simpa using hl) h
  simpa using this

/-! ### spec_l7Lists spec_l7Interval impl_IntervalClass_1 impl_IntervalClass -/
theorem rdL_i (l : List (List Int)) (i : Nat) : rd_L1 l (i : Int) = rdl l i := by simp [rd_L1, rdl]
/-- How often a label 1 comes behind none. -/
def tcount (r : List Int) : Nat → Nat
  | 0 => 0
  | j + 1 => if r.getD j 0 = 1 ∧ (j = 0 ∨ r.getD (j - 1) 0 = -1) then tcount r j + 1 else tcount r j
theorem tcount_le (r : List Int) : ∀ j, tcount r j ≤ j := by
  intro j
  induction j with
  | zero => exact Nat.le_refl _
  | succ j ih => simp only [tcount]; split <;> omega
def ivB (r : List Int) : Bool := decide (((tcount r r.length : Nat) : Int) ≤ 1)
theorem sInt_l0 (r : List Int) (hl : r.length ≤ 100) : ∀ d j, j + d = r.length → Ev (fun k => spec_l7Interval.l0 k r ((tcount r j : Nat) : Int) (j : Int)) (ivB r) := by
  intro d
  induction d with
  | zero =>
    intro j hj
    obtain rfl : j = r.length := by omega
    exact Ev.step (fun k => spec_l7Interval.l0.eq_2 ..) (evn (by omega) (evs rfl))
  | succ d ih =>
    intro j hj
    have hnx := ih (j + 1) (by omega)
    have ht := tcount_le r j
    simp only [tcount] at hnx
    refine Ev.step (fun k => spec_l7Interval.l0.eq_2 ..) (evp (by omega) (evp (by omega) ?_))
    rw [rd_nat]
    by_cases e : r.getD j 0 = 1
    · refine evp e ?_
      by_cases e0 : j = 0
      · rw [if_pos ⟨e, .inl e0⟩] at hnx
        refine evp (by omega) ?_
        rw [w64s (tcount r j) (by omega), w64s j (by omega)]
        exact hnx
      · have hj1 : wrap64 ((j : Int) - 1) = ((j - 1 : Nat) : Int) := by rw [w64 (by omega) (by omega)]; omega
        refine evn (by omega) ?_
        rw [hj1]
        refine evp (by omega) (evp (by omega) ?_)
        rw [rd_nat]
        by_cases e1 : r.getD (j - 1) 0 = -1
        · rw [if_pos ⟨e, .inr e1⟩] at hnx
          refine evp e1 ?_
          rw [w64s (tcount r j) (by omega), w64s j (by omega)]
          exact hnx
        · rw [if_neg (fun h => h.2.elim e0 e1)] at hnx
          refine evn e1 ?_
          rw [w64s j (by omega)]
          exact hnx
    · rw [if_neg (fun h => e h.1)] at hnx
      refine evn e ?_
      rw [w64s j (by omega)]
      exact hnx
theorem sInt (r : List Int) (hl : r.length ≤ 100) : Ev (fun k => spec_l7Interval.f k r) (ivB r) := by
  unfold spec_l7Interval.f
  exact sInt_l0 r hl r.length 0 (by omega)
theorem iInt_l0 (r : List Int) (hl : r.length ≤ 100) : ∀ d j, j + d = r.length → Ev (fun k => impl_IntervalClass_1.l0 k r ((tcount r j : Nat) : Int) (r.length : Int) (j : Int)) (ivB r) := by
  intro d
  induction d with
  | zero =>
    intro j hj
    obtain rfl : j = r.length := by omega
    exact Ev.step (fun k => impl_IntervalClass_1.l0.eq_2 ..) (evn (by omega) (evs rfl))
  | succ d ih =>
    intro j hj
    have hnx := ih (j + 1) (by omega)
    have ht := tcount_le r j
    simp only [tcount] at hnx
    refine Ev.step (fun k => impl_IntervalClass_1.l0.eq_2 ..) (evp (by omega) (evp (by omega) (evp (by omega) ?_)))
    rw [rd_nat]
    by_cases e : r.getD j 0 = 1
    · refine evp e ?_
      by_cases e0 : j = 0
      · rw [if_pos ⟨e, .inl e0⟩] at hnx
        refine evp (by omega) ?_
        rw [w64s (tcount r j) (by omega), w64s j (by omega)]
        exact hnx
      · have hj1 : wrap64 ((j : Int) - 1) = ((j - 1 : Nat) : Int) := by rw [w64 (by omega) (by omega)]; omega
        refine evn (by omega) ?_
        rw [hj1]
        refine evp (by omega) (evp (by omega) ?_)
        rw [rd_nat]
        by_cases e1 : r.getD (j - 1) 0 = -1
        · rw [if_pos ⟨e, .inr e1⟩] at hnx
          refine evp e1 ?_
          rw [w64s (tcount r j) (by omega), w64s j (by omega)]
          exact hnx
        · rw [if_neg (fun h => h.2.elim e0 e1)] at hnx
          refine evn e1 ?_
          rw [w64s j (by omega)]
          exact hnx
    · rw [if_neg (fun h => e h.1)] at hnx
      refine evn e ?_
      rw [w64s j (by omega)]
      exact hnx
theorem iInt (r : List Int) (hl : r.length ≤ 100) : Ev (fun k => impl_IntervalClass_1.f k r) (ivB r) := by
  unfold impl_IntervalClass_1.f
  exact iInt_l0 r hl r.length 0 (by omega)
theorem labelsOf_len (m s : Nat) : (labelsOf m s).length = m := by simp [labelsOf]
theorem pow_8 (m : Nat) (h : m ≤ 8) : 1 ≤ 2 ^ m ∧ 2 ^ m ≤ 256 := ⟨Nat.two_pow_pos m, Nat.pow_le_pow_right (n := 2) (by decide) h⟩
theorem sLists_l1 (m : Nat) (hm : m ≤ 8) (out : List (List Int)) (hol : out.length ≤ 256) (s : Nat) (hs : s < 256) (R : List (List Int))
    (hK : Ev (fun k => spec_l7Lists.l0 k (m : Int) (out ++ [labelsOf m s]) ((s + 1 : Nat) : Int)) R) : ∀ d i, i + d = m → Ev (fun k => spec_l7Lists.l1 k (m : Int) out (s : Int) ((List.range i).map fun i : Nat => 2 * ((s / 2 ^ (m - 1 - i) % 2 : Nat) : Int) - 1) (i : Int)) R := by
  intro d
  induction d with
  | zero =>
    intro i hi
    obtain rfl : i = m := by omega
    refine Ev.step (fun k => spec_l7Lists.l1.eq_2 ..) (evn (by omega) (evp (by omega) ?_))
    rw [w64s s (by omega)]
    exact hK
  | succ d ih =>
    intro i hi
    have hnx := ih (i + 1) (by omega)
    have e1 : wrap64 (wrap64 ((m : Int) - 1) - (i : Int)) = ((m - 1 - i : Nat) : Int) := by
      rw [w64 (x := (m : Int) - 1) (by omega) (by omega), w64 (by omega) (by omega)]; omega
    refine Ev.step (fun k => spec_l7Lists.l1.eq_2 ..) (evp (by omega) ?_)
    rw [e1]
    refine evp (by omega) (evp (by simp; omega) ?_)
    have hb := bit_lt s (m - 1 - i)
    rw [digit s (m - 1 - i) (by omega) (by omega), labels_wrap _ hb, w64s i (by omega)]
    have := labelsOf_take m s i (by omega)
    rw [← this] at hnx
    exact hnx
theorem sLists_l0 (m : Nat) (hm : m ≤ 8) : ∀ d s, s + d = 2 ^ m → Ev (fun k => spec_l7Lists.l0 k (m : Int) ((List.range s).map (labelsOf m)) (s : Int)) ((List.range (2 ^ m)).map (labelsOf m)) := by
  have hp := pow_8 m hm
  intro d
  induction d with
  | zero =>
    intro s hs
    obtain rfl : s = 2 ^ m := by omega
    exact Ev.step (fun k => spec_l7Lists.l0.eq_2 ..) (evp (by omega) (evn (by rw [shl1 m (by omega)]; omega) (evs rfl)))
  | succ d ih =>
    intro s hs
    have hnx := ih (s + 1) (by omega)
    refine Ev.step (fun k => spec_l7Lists.l0.eq_2 ..) (evp (by omega) (evp (by rw [shl1 m (by omega)]; omega) ?_))
    refine sLists_l1 m hm _ (by simp; omega) s (by omega) _ ?_ m 0 (by omega)
    rw [List.range_succ, List.map_append] at hnx
    exact hnx
theorem sLists (m : Nat) (hm : m ≤ 8) : Ev (fun k => spec_l7Lists.f k (m : Int)) ((List.range (2 ^ m)).map (labelsOf m)) := by
  unfold spec_l7Lists.f
  exact sLists_l0 m hm (2 ^ m) 0 (by omega)

/-! ### spec_IntervalClass impl_IntervalClass spec_l7Lists spec_l7Interval impl_IntervalClass_1 -/
def intV (n : Int) : List (List Int) × Bool := if 0 ≤ n ∧ n ≤ 8 then (((List.range (2 ^ n.toNat)).map (labelsOf n.toNat)).filter ivB, true) else ([], false)
theorem intV_len (n : Int) : (intV n).1.length ≤ 256 ∧ ∀ r ∈ (intV n).1, r.length ≤ 8 := by
  unfold intV
  by_cases c : 0 ≤ n ∧ n ≤ 8
  · rw [if_pos c]
    have hp := pow_8 n.toNat (by omega)
    refine ⟨Nat.le_trans (List.length_filter_le _ _) (by rw [List.length_map, List.length_range]; exact hp.2), fun r hr => ?_⟩
    obtain ⟨s, _, rfl⟩ := List.mem_map.1 (List.mem_filter.1 hr).1
    rw [labelsOf_len]; omega
  · rw [if_neg c]
    exact ⟨by simp, fun r hr => by cases hr⟩
theorem sIC_l0 (all : List (List Int)) (hall : all.length ≤ 256) (hr : ∀ r ∈ all, r.length ≤ 8) : ∀ d i (out : List (List Int)), i + d = all.length → out.length ≤ i → Ev (fun k => spec_IntervalClass.l0 k out all (i : Int)) (out ++ (all.drop i).filter ivB, true) := by
  intro d
  induction d with
  | zero =>
    intro i out hi _
    refine Ev.step (fun k => spec_IntervalClass.l0.eq_2 ..) (evn (by omega) (evs ?_))
    rw [List.drop_of_length_le (by omega)]; simp
  | succ d ih =>
    intro i out hi ho
    have hil : i < all.length := by omega
    have e : all.drop i = rdl all i :: all.drop (i + 1) := rdl_drop all i hil
    have hm := hr _ (rdl_mem all i hil)
    refine Ev.step (fun k => spec_IntervalClass.l0.eq_2 ..) (evp (by omega) (evp (by omega) ?_))
    rw [show rd_L1 all (i : Int) = rdl all i from rdL_i all i]
    refine evb (sInt (rdl all i) (by omega)) ?_
    rw [e, w64s i (by omega)]
    by_cases c : ivB (rdl all i) = true
    · refine evp c (evp (by omega) ?_)
      have h1 := ih (i + 1) (out ++ [rdl all i]) (by omega) (by rw [List.length_append, List.length_singleton]; omega)
      rw [List.append_assoc] at h1
      rw [List.filter_cons, if_pos c]
      exact h1
    · refine evn c ?_
      have h1 := ih (i + 1) out (by omega) (by omega)
      rw [List.filter_cons, if_neg c]
      exact h1
theorem sIntervalClass (n : Int) : Ev (fun k => spec_IntervalClass.f k n) (intV n) := by
  unfold spec_IntervalClass.f intV
  rw [l1In]; simp only [Option.bind_some]
  by_cases c : 0 ≤ n ∧ n ≤ 8
  · rw [if_pos c]
    obtain ⟨m, rfl⟩ := Int.eq_ofNat_of_zero_le c.1
    have hm : m ≤ 8 := by omega
    have hp := pow_8 m hm
    rw [Int.toNat_natCast]
    refine evp (decide_eq_true c) (evb (sLists m hm) ?_)
    have := sIC_l0 ((List.range (2 ^ m)).map (labelsOf m)) (by rw [List.length_map, List.length_range]; exact hp.2) (fun r hr => by
      obtain ⟨s, _, rfl⟩ := List.mem_map.1 hr
      rw [labelsOf_len]; exact hm) ((List.range (2 ^ m)).map (labelsOf m)).length 0 [] (by omega) (by simp)
    exact this
  · rw [if_neg c]
    exact evn (by rw [decide_eq_false c]; simp) (evs rfl)
theorem iIntervalClass (n : Int) : Ev (fun k => impl_IntervalClass.f k n) (intV n) := by
  unfold impl_IntervalClass.f intV
  rw [within]; simp only [Option.bind_some]
  by_cases c : 0 ≤ n ∧ n ≤ 8
  · rw [if_pos c]
    have hall : ∀ L : List Nat, ∃ K, ∀ k, K ≤ k → ∀ s ∈ L, impl_IntervalClass_1.f k (labelsOf n.toNat s) = some (ivB (labelsOf n.toNat s)) := by
      intro L
      induction L with
      | nil => exact ⟨0, fun k _ s hs => by cases hs⟩
      | cons x L ih =>
        obtain ⟨K1, h1⟩ := ih
        obtain ⟨K2, h2⟩ := iInt (labelsOf n.toNat x) (by rw [labelsOf_len]; omega)
        refine ⟨max K1 K2, fun k hk s hs => ?_⟩
        rcases List.mem_cons.1 hs with rfl | hs
        · exact h2 k (by omega)
        · exact h1 k (by omega) s hs
    obtain ⟨K, hK⟩ := hall (List.range (2 ^ n.toNat))
    refine evp (decide_eq_true c) ⟨K, fun k hk => ?_⟩
    have hk' := hK k hk
    simp only []
    rw [if_pos ⟨c, fun s hs => by rw [hk' s hs]; rfl⟩]
    congr 2
    apply List.filter_congr
    intro r hr
    obtain ⟨s, hs, rfl⟩ := List.mem_map.1 hr
    rw [hk' s hs]; rfl
  · rw [if_neg c]
    exact evn (by rw [decide_eq_false c]; simp) (evs rfl)

/-! ### laws_FnExactIntervalClass -/
theorem law (n : Int) : Ev (fun k => laws_FnExactIntervalClass.f k n) true := by
  unfold laws_FnExactIntervalClass.f
  have hs := sIntervalClass n
  have hi := iIntervalClass n
  obtain ⟨hb1, hb2⟩ := intV_len n
  generalize intV n = R at *
  have ht := totS_le R.1 (fun r hr => by have := hb2 r hr; omega)
  have hn := totS_nonneg R.1
  refine evb hs (evb hi (evp rfl (evb (eqIntSS R.1 R.1 (by omega) (fun r hr => by have := hb2 r hr; omega)) (evp (by simp) (evb (markIntSS R.1 1 (by omega) (by omega) (by omega)) (evb (heldIntSS R.1 1 (by omega) (by omega) (by omega)) (evp ⟨rfl, by omega⟩ (evs rfl))))))))

end Go.Proofs.Ytddpdeoflaigeaa.LFnExactIntervalClass
