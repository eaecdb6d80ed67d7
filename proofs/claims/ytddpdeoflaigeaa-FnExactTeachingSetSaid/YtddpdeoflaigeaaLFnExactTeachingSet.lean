/- Own lemmas: what the printed functions of one law come to. -/
import Derived.Test.YtddpdeoflaigeaaMFnExactTeachingSetx9
import Derived.Test.YtddpdeoflaigeaaBase
namespace Go.Proofs.Ytddpdeoflaigeaa.LFnExactTeachingSet
open Go Go.RowKit Go.Proofs.Ytddpdeoflaigeaa.Base Go.Proofs.Ytddpdeoflaigeaa.PFnExactTeachingSet Go.Proofs.YtddpdeoflaigeaaW.PrintWords Go.Proofs.YtddpdeoflaigeaaW.PrintLast Go.Proofs.YtddpdeoflaigeaaW.PrintMore
set_option linter.unusedVariables false
set_option linter.unusedSimpArgs false
set_option maxRecDepth 4000

/-! ### laws_toIntS -/
theorem toIntS_l0 (x0 : List Int) (hx : x0.length < 4611686018427387904) : ∀ (d i : Nat) (x3 : List Int), i + d = x0.length → x3.length = x0.length →
    Ev (fun k => laws_toIntS.l0 k x0 x3 (i : Int)) (x3.take i ++ x0.drop i) := by
  intro d
  induction d with
  | zero =>
    intro i x3 hi hl
    refine Ev.step (fun k => laws_toIntS.l0.eq_2 ..) (evn (by omega) (evs ?_))
    simp [List.take_of_length_le (show x3.length ≤ i by omega), List.drop_of_length_le (show x0.length ≤ i by omega)]
  | succ d ih =>
    intro i x3 hi hl
    refine Ev.step (fun k => laws_toIntS.l0.eq_2 ..) (evp (by omega) (evp (by omega) (evp (by omega) ?_)))
    rw [w64s i (by omega), rd_nat]
    refine evr (ih (i + 1) _ (by omega) (by simpa using hl)) ?_
    rw [Int.toNat_natCast, set_take _ _ _ (by omega), List.drop_eq_getElem_cons (show i < x0.length by omega), List.append_assoc]
    simp [List.getD_eq_getElem?_getD, List.getElem?_eq_getElem (show i < x0.length by omega)]
theorem toIntS (l : List Int) (h : l.length ≤ 35184372088832) : Ev (fun k => laws_toIntS.f k l) l := by
  unfold laws_toIntS.f
  refine evp (by omega) (evp (by simpa using h) ?_)
  refine evr (toIntS_l0 l (by omega) l.length 0 _ (by omega) (by simp)) (by simp)

/-! ### laws_eqIntS -/
theorem eqIntS_l0 (a b : List Int) (hl : a.length = b.length) (hx : a.length < 4611686018427387904) : ∀ (d i : Nat), i + d = a.length →
    Ev (fun k => laws_eqIntS.l0 k a b (i : Int)) (decide (a.drop i = b.drop i)) := by
  intro d
  induction d with
  | zero =>
    intro i hi
    refine Ev.step (fun k => laws_eqIntS.l0.eq_2 ..) (evn (by omega) (evs ?_))
    simp [List.drop_of_length_le (show a.length ≤ i by omega), List.drop_of_length_le (show b.length ≤ i by omega)]
  | succ d ih =>
    intro i hi
    refine Ev.step (fun k => laws_eqIntS.l0.eq_2 ..) (evp (by omega) (evp (by omega) (evp (by omega) ?_)))
    rw [w64s i (by omega), rd_nat, rd_nat]
    have ea := List.drop_eq_getElem_cons (show i < a.length by omega)
    have eb := List.drop_eq_getElem_cons (show i < b.length by omega)
    simp only [List.getD_eq_getElem?_getD, List.getElem?_eq_getElem (show i < a.length by omega), List.getElem?_eq_getElem (show i < b.length by omega), Option.getD_some]
    by_cases e : a[i] = b[i]
    · refine evp e (evr (ih (i + 1) (by omega)) ?_)
      rw [ea, eb, e]; simp only [List.cons.injEq, true_and]
    · refine evn e (evs ?_)
      rw [ea, eb]; simp only [List.cons.injEq, e, false_and, decide_false]
theorem eqIntS (a b : List Int) (hx : a.length < 4611686018427387904) : Ev (fun k => laws_eqIntS.f k a b) (decide (a = b)) := by
  unfold laws_eqIntS.f
  by_cases h : a.length = b.length
  · refine evp (by omega) (evr (eqIntS_l0 a b h hx a.length 0 (by omega)) (by simp))
  · refine evn (by omega) (evs ?_)
    have : a ≠ b := fun e => h (by rw [e])
    simp [this]

/-! ### laws_markIntS -/
theorem markIntS_l0 (d : Nat) : ∀ (x0 : List Int) (m : Int) (i : Nat), i + d = x0.length → x0.length < 4611686018427387904 → 0 ≤ m → m + d < 4611686018427387904 →
    Ev (fun k => laws_markIntS.l0 k x0 m (i : Int)) (m + d, x0.take i ++ (List.range d).map fun j : Nat => m + (j : Int)) := by
  induction d with
  | zero =>
    intro x0 m i hi hx h0 hm
    refine Ev.step (fun k => laws_markIntS.l0.eq_2 ..) (evn (by omega) (evs ?_))
    simp [List.take_of_length_le (show x0.length ≤ i by omega)]
  | succ d ih =>
    intro x0 m i hi hx h0 hm
    refine Ev.step (fun k => laws_markIntS.l0.eq_2 ..) (evp (by omega) (evp (by omega) ?_))
    rw [w64s i (by omega), w64 (x := m + 1) (by omega) (by omega)]
    refine evr (ih _ _ (i + 1) (by simp; omega) (by simpa using hx) (by omega) (by omega)) ?_
    rw [Int.toNat_natCast, set_take _ _ _ (by omega), List.append_assoc, List.range_succ_eq_map]
    simp only [List.map_cons, List.map_map, Prod.mk.injEq]
    refine ⟨by push_cast; omega, ?_⟩
    congr 1
    simp only [List.cons_append, List.nil_append, List.cons.injEq]
    refine ⟨by simp, List.map_congr_left fun j _ => by simp; omega⟩
theorem markIntS (l : List Int) (m : Int) (h0 : 0 ≤ m) (h : m + l.length < 4611686018427387904) : Ev (fun k => laws_markIntS.f k l m) (m + l.length, marks l m) := by
  unfold laws_markIntS.f
  exact evr (markIntS_l0 l.length l m 0 (by omega) (by omega) h0 h) (by simp [marks])

/-! ### laws_heldIntS -/
theorem heldIntS_l0 (l : List Int) (m : Int) (h0 : 0 ≤ m) (hm : m + l.length < 4611686018427387904) (hv : ∀ i, i < l.length → l.getD i 0 = m + i) : ∀ (d i : Nat), i + d = l.length →
    Ev (fun k => laws_heldIntS.l0 k l (m + (i : Int)) (i : Int)) (m + l.length) := by
  intro d
  induction d with
  | zero =>
    intro i hi
    refine Ev.step (fun k => laws_heldIntS.l0.eq_2 ..) (evn (by omega) (evs ?_))
    omega
  | succ d ih =>
    intro i hi
    refine Ev.step (fun k => laws_heldIntS.l0.eq_2 ..) (evp (by omega) (evp (by omega) ?_))
    rw [w64s i (by omega), w64 (x := m + i + 1) (by omega) (by omega), rd_nat]
    refine evp (hv i (by omega)) ?_
    have := ih (i + 1) (by omega)
    rw [show m + ((i + 1 : Nat) : Int) = m + i + 1 by omega] at this
    exact this
theorem heldIntS (l : List Int) (m : Int) (h0 : 0 ≤ m) (hm : m + l.length < 4611686018427387904) : Ev (fun k => laws_heldIntS.f k (marks l m) m) (m + l.length) := by
  unfold laws_heldIntS.f
  have h := heldIntS_l0 (marks l m) m h0 (by rw [marks_length]; exact hm) (fun i hi => marks_at l m i (by rwa [marks_length] at hi)) l.length 0 (by rw [marks_length]; omega)
  rw [marks_length] at h
  simpa using h

/-! ### spec_l1In -/
theorem l1In (a b c : Int) : spec_l1In.f a b c = some (decide (b ≤ a ∧ a ≤ c)) := by
  unfold spec_l1In.f; split <;> simp_all <;> omega

/-! ### impl_within -/
theorem within (a b c : Int) : impl_within.f a b c = some (decide (b ≤ a ∧ a ≤ c)) := by
  unfold impl_within.f; split <;> simp_all <;> omega

/-! ### laws_szIntS -/
theorem szIntS (l : List Int) (m : Int) (h0 : 0 ≤ m) (hm : m ≤ 1048576) (hl : l.length ≤ maxLen) : laws_szIntS.f l m = some (if (l.length : Int) ≤ m then m - l.length else -1) := by
  unfold maxLen at hl
  unfold laws_szIntS.f
  rw [w64 (x := m - (l.length : Int)) (by omega) (by omega)]
  by_cases h : (l.length : Int) ≤ m
  · rw [if_neg (by omega), if_pos h]
  · rw [if_pos (by omega), if_neg h]

/-! ### impl_copied -/
theorem copied (l : List Int) (h : l.length < 17592186044416) : impl_copied.f l = some l := by
  unfold impl_copied.f
  simp only [Option.bind_some]
  rw [if_pos (by simpa using h)]; rfl

/-! ### laws_szIntSS laws_szIntS -/
theorem rdL_nat (l : List (List Int)) (i : Nat) : rd_L1 l (i : Int) = rdl l i := by simp [rd_L1, rdl]
theorem szIntSS_l0 (l : List (List Int)) (hl : l.length ≤ 1048576) (hr : ∀ r ∈ l, r.length ≤ maxLen) : ∀ (d i : Nat) (m : Int), i + d = l.length → 0 ≤ m → m ≤ 1048576 →
    Ev (fun k => laws_szIntSS.l0 k l m (i : Int)) (rowsz (l.drop i) m) := by
  intro d
  induction d with
  | zero =>
    intro i m hi h0 hm
    exact Ev.step (fun k => laws_szIntSS.l0.eq_2 ..) (evn (by omega) (evs (by rw [List.drop_of_length_le (show l.length ≤ i by omega)]; rfl)))
  | succ d ih =>
    intro i m hi h0 hm
    refine Ev.step (fun k => laws_szIntSS.l0.eq_2 ..) (evp (by omega) (evp (by omega) ?_))
    rw [rdL_nat, szIntS _ m h0 hm (hr _ (rdl_mem l i (by omega))), w64s i (by omega), rdl_drop l i (by omega)]
    simp only [Option.bind_some, rowsz]
    by_cases e : ((rdl l i).length : Int) ≤ m
    · rw [if_pos e, if_pos e]
      exact evn (by omega) (ih (i + 1) _ (by omega) (by omega) (by omega))
    · rw [if_neg e, if_neg e]
      exact evp (by omega) (evs rfl)
theorem szIntSS (l : List (List Int)) (m : Int) (h0 : 0 ≤ m) (hm : m ≤ 1048576) (hl : l.length ≤ maxLen) (hr : ∀ r ∈ l, r.length ≤ maxLen) : Ev (fun k => laws_szIntSS.f k l m) (szv l m) := by
  unfold maxLen at hl
  unfold laws_szIntSS.f szv
  rw [w64 (x := m - (l.length : Int)) (by omega) (by omega)]
  by_cases e : (l.length : Int) ≤ m
  · rw [if_pos e]
    exact evn (by omega) (evr (szIntSS_l0 l (by omega) hr l.length 0 _ (by omega) (by omega) (by omega)) (by simp))
  · rw [if_neg e]; exact evp (by omega) (evs rfl)

/-! ### laws_toIntSS laws_toIntS laws_szIntSS -/
theorem toIntSS_l0 (x0 : List (List Int)) (hx : x0.length ≤ 1048576) (hr : ∀ r ∈ x0, (r.length : Int) ≤ 1048576) : ∀ (d i : Nat) (x3 : List (List Int)), i + d = x0.length → x3.length = x0.length →
    Ev (fun k => laws_toIntSS.l0 k x0 x3 (i : Int)) (x3.take i ++ x0.drop i) := by
  intro d
  induction d with
  | zero =>
    intro i x3 hi hl
    refine Ev.step (fun k => laws_toIntSS.l0.eq_2 ..) (evn (by omega) (evs ?_))
    simp [List.take_of_length_le (show x3.length ≤ i by omega), List.drop_of_length_le (show x0.length ≤ i by omega)]
  | succ d ih =>
    intro i x3 hi hl
    have := hr _ (rdl_mem x0 i (by omega))
    refine Ev.step (fun k => laws_toIntSS.l0.eq_2 ..) (evp (by omega) (evp (by omega) ?_))
    rw [w64s i (by omega), rdL_nat]
    refine evb (toIntS _ (by omega)) (evp (by omega) ?_)
    refine evr (ih (i + 1) _ (by omega) (by simpa using hl)) ?_
    rw [Int.toNat_natCast, setl_take _ _ _ (by omega), rdl_drop x0 i (by omega), List.append_assoc]; rfl
theorem toIntSS (l : List (List Int)) (h : l.length ≤ 1048576) (hr : ∀ r ∈ l, (r.length : Int) ≤ 1048576) : Ev (fun k => laws_toIntSS.f k l) l := by
  unfold laws_toIntSS.f
  refine evp (by omega) (evp (by omega) ?_)
  refine evr (toIntSS_l0 l (by omega) hr l.length 0 _ (by omega) (by simp)) (by simp)

/-! ### laws_eqIntSS laws_eqIntS laws_szIntSS -/
theorem eqIntSS_l0 (a b : List (List Int)) (hl : a.length = b.length) (hx : a.length ≤ 1048576) (hr : ∀ r ∈ a, (r.length : Int) ≤ 1048576) : ∀ (d i : Nat), i + d = a.length →
    Ev (fun k => laws_eqIntSS.l0 k a b (i : Int)) (decide (a.drop i = b.drop i)) := by
  intro d
  induction d with
  | zero =>
    intro i hi
    refine Ev.step (fun k => laws_eqIntSS.l0.eq_2 ..) (evn (by omega) (evs ?_))
    simp [List.drop_of_length_le (show a.length ≤ i by omega), List.drop_of_length_le (show b.length ≤ i by omega)]
  | succ d ih =>
    intro i hi
    have := hr _ (rdl_mem a i (by omega))
    refine Ev.step (fun k => laws_eqIntSS.l0.eq_2 ..) (evp (by omega) (evp (by omega) (evp (by omega) ?_)))
    rw [w64s i (by omega), rdL_nat, rdL_nat]
    refine evb (eqIntS _ _ (by omega)) ?_
    rw [rdl_drop a i (by omega), rdl_drop b i (by omega)]
    by_cases e : rdl a i = rdl b i
    · refine evp (by simpa using e) (evr (ih (i + 1) (by omega)) ?_)
      rw [e]; simp only [List.cons.injEq, true_and]
    · refine evn (by simpa using e) (evs ?_)
      simp only [List.cons.injEq, e, false_and, decide_false]
theorem eqIntSS (a b : List (List Int)) (hx : a.length ≤ 1048576) (hr : ∀ r ∈ a, (r.length : Int) ≤ 1048576) : Ev (fun k => laws_eqIntSS.f k a b) (decide (a = b)) := by
  unfold laws_eqIntSS.f
  by_cases h : a.length = b.length
  · refine evp (by omega) (evr (eqIntSS_l0 a b h hx hr a.length 0 (by omega)) (by simp))
  · refine evn (by omega) (evs ?_)
    have : a ≠ b := fun e => h (by rw [e])
    simp [this]

/-! ### spec_l2Labels -/
theorem l2Labels_l0 (l : List Int) (hx : l.length < 4611686018427387904) : ∀ (d i : Nat), i + d = l.length →
    Ev (fun k => spec_l2Labels.l0 k l (i : Int)) (labB (l.drop i)) := by
  intro d
  induction d with
  | zero =>
    intro i hi
    exact Ev.step (fun k => spec_l2Labels.l0.eq_2 ..) (evn (by omega) (evs (by rw [List.drop_of_length_le (show l.length ≤ i by omega)]; rfl)))
  | succ d ih =>
    intro i hi
    refine Ev.step (fun k => spec_l2Labels.l0.eq_2 ..) (evp (by omega) (evp (by omega) ?_))
    rw [w64s i (by omega), rd_nat, List.drop_eq_getElem_cons (show i < l.length by omega)]
    simp only [List.getD_eq_getElem?_getD, List.getElem?_eq_getElem (show i < l.length by omega), Option.getD_some, labB, List.all_cons]
    by_cases e : l[i] = 1
    · exact evp e (evr (ih (i + 1) (by omega)) (by rw [decide_eq_true (.inl e)]; rfl))
    · refine evn e ?_
      by_cases e' : l[i] = -1
      · exact evp e' (evr (ih (i + 1) (by omega)) (by rw [decide_eq_true (.inr e')]; rfl))
      · exact evn e' (evs (by rw [decide_eq_false (fun h => h.elim e e')]; rfl))
theorem l2Labels (l : List Int) (hx : l.length < 4611686018427387904) : Ev (fun k => spec_l2Labels.f k l) (labB l) := by
  unfold spec_l2Labels.f
  exact l2Labels_l0 l hx l.length 0 (by omega)

/-! ### impl_isLabel -/
theorem isLabel (x : Int) : impl_isLabel.f x = some (decide (x = 1 ∨ x = -1)) := by
  unfold impl_isLabel.f
  by_cases e : x = 1
  · rw [if_pos e, decide_eq_true (.inl e)]
  · rw [if_neg e]; congr 1; rw [Bool.eq_iff_iff]; simp [e]

/-! ### impl_areLabels -/
theorem areLabels_l0 (l : List Int) (hx : l.length < 4611686018427387904) : ∀ (d i : Nat), i + d = l.length →
    Ev (fun k => impl_areLabels.l0 k l (l.length : Int) (i : Int)) (labB (l.drop i)) := by
  intro d
  induction d with
  | zero =>
    intro i hi
    exact Ev.step (fun k => impl_areLabels.l0.eq_2 ..) (evn (by omega) (evs (by rw [List.drop_of_length_le (show l.length ≤ i by omega)]; rfl)))
  | succ d ih =>
    intro i hi
    refine Ev.step (fun k => impl_areLabels.l0.eq_2 ..) (evp (by omega) (evp (by omega) (evp (by omega) ?_)))
    rw [w64s i (by omega), rd_nat, isLabel, List.drop_eq_getElem_cons (show i < l.length by omega)]
    simp only [List.getD_eq_getElem?_getD, List.getElem?_eq_getElem (show i < l.length by omega), Option.getD_some, Option.bind_some, labB, List.all_cons]
    by_cases e : l[i] = 1 ∨ l[i] = -1
    · exact evp (by simpa using e) (evr (ih (i + 1) (by omega)) (by rw [decide_eq_true e]; rfl))
    · exact evn (by simpa using e) (evs (by rw [decide_eq_false e]; rfl))
theorem areLabels (l : List Int) (hx : l.length < 4611686018427387904) : Ev (fun k => impl_areLabels.f k l) (labB l) := by
  unfold impl_areLabels.f
  exact areLabels_l0 l hx l.length 0 (by omega)

/-! ### spec_l7Before -/
theorem l7Before_l0 (a b : List Int) (hl : a.length = b.length) (hx : a.length < 4611686018427387904) : ∀ (d i : Nat), i + d = a.length →
    Ev (fun k => spec_l7Before.l0 k a b (i : Int)) (lexB (a.drop i) (b.drop i)) := by
  intro d
  induction d with
  | zero =>
    intro i hi
    exact Ev.step (fun k => spec_l7Before.l0.eq_2 ..) (evn (by omega) (evs (by rw [List.drop_of_length_le (show a.length ≤ i by omega)]; rfl)))
  | succ d ih =>
    intro i hi
    refine Ev.step (fun k => spec_l7Before.l0.eq_2 ..) (evp (by omega) (evp (by omega) (evp (by omega) ?_)))
    rw [w64s i (by omega), rd_nat, rd_nat, List.drop_eq_getElem_cons (show i < a.length by omega), List.drop_eq_getElem_cons (show i < b.length by omega)]
    simp only [List.getD_eq_getElem?_getD, List.getElem?_eq_getElem (show i < a.length by omega), List.getElem?_eq_getElem (show i < b.length by omega), Option.getD_some, lexB]
    by_cases e : a[i] = b[i]
    · exact evp e (evr (ih (i + 1) (by omega)) (by rw [if_pos e]))
    · exact evn e (evs (by rw [if_neg e]))
theorem l7Before (a b : List Int) (hl : a.length = b.length) (hx : a.length < 4611686018427387904) : Ev (fun k => spec_l7Before.f k a b) (lexB a b) := by
  unfold spec_l7Before.f
  exact l7Before_l0 a b hl hx a.length 0 (by omega)

/-! ### cmp_Compare_int -/
theorem compareInt (a b : Int) : cmp_Compare_int.f a b = some (if a < b then -1 else if a > b then 1 else 0) := by
  unfold cmp_Compare_int.f cmp_isNaN_int.f
  simp only [bne_self_eq_false, Option.bind_some, Bool.false_eq_true, if_false]
  split
  · rfl
  · split <;> rfl

/-! ### slices_Compare_int_int cmp_Compare_int -/
theorem compareL_l0 (a b : List Int) (hx : a.length < 4611686018427387904) : ∀ (d i : Nat), i + d = a.length → i ≤ b.length →
    Ev (fun k => slices_Compare_int_int.l0 k a b a (a.length : Int) (i : Int)) (cmpv (a.drop i) (b.drop i)) := by
  intro d
  induction d with
  | zero =>
    intro i hi hb
    refine Ev.step (fun k => slices_Compare_int_int.l0.eq_2 ..) (evn (by omega) ?_)
    rw [List.drop_of_length_le (show a.length ≤ i by omega)]
    by_cases e : a.length < b.length
    · refine evp (by omega) (evs ?_)
      rw [List.drop_eq_getElem_cons (show i < b.length by omega)]; rfl
    · refine evn (by omega) (evs ?_)
      rw [List.drop_of_length_le (show b.length ≤ i by omega)]; rfl
  | succ d ih =>
    intro i hi hb
    refine Ev.step (fun k => slices_Compare_int_int.l0.eq_2 ..) (evp (by omega) (evp (by omega) (evp (by omega) ?_)))
    rw [List.drop_eq_getElem_cons (show i < a.length by omega)]
    by_cases e : i ≥ b.length
    · refine evp (by omega) (evs ?_)
      rw [List.drop_of_length_le (show b.length ≤ i by omega)]; rfl
    · refine evn (by omega) (evp (by omega) ?_)
      rw [rd_nat, rd_nat, compareInt, w64s i (by omega), List.drop_eq_getElem_cons (show i < b.length by omega)]
      simp only [List.getD_eq_getElem?_getD, List.getElem?_eq_getElem (show i < a.length by omega), List.getElem?_eq_getElem (show i < b.length by omega), Option.getD_some, Option.bind_some, cmpv]
      by_cases e1 : a[i] < b[i]
      · rw [if_pos e1]; exact evn (by decide) (evs (by rw [if_pos e1]))
      · rw [if_neg e1]
        by_cases e2 : a[i] > b[i]
        · rw [if_pos e2]; exact evn (by decide) (evs (by rw [if_neg e1, if_pos e2]))
        · rw [if_neg e2]; exact evp rfl (evr (ih (i + 1) (by omega) (by omega)) (by rw [if_neg e1, if_neg e2]))
theorem compareL (a b : List Int) (hx : a.length < 4611686018427387904) : Ev (fun k => slices_Compare_int_int.f k a b) (cmpv a b) := by
  unfold slices_Compare_int_int.f
  exact compareL_l0 a b hx a.length 0 (by omega) (by omega)

/-! ### spec_l7Class -/
theorem rdL_nat' (l : List (List Int)) (i : Nat) : rd_L1 l (i : Int) = rdl l i := by simp [rd_L1, rdl]
theorem l7Class_l0 (l : List (List Int)) (hx : l.length ≤ 1048576) (hr : ∀ r ∈ l, (r.length : Int) ≤ 1048576) : ∀ (d i : Nat), i + d = l.length → (0 < i → (rdl l (i - 1)).length = (rdl l 0).length) →
    Ev (fun k => spec_l7Class.l0 k l (i : Int)) ((List.range' i d).all (rowok l) && decide (1 ≤ l.length ∧ l.length ≤ 256)) := by
  intro d
  induction d with
  | zero =>
    intro i hi _
    refine Ev.step (fun k => spec_l7Class.l0.eq_2 ..) (evn (by omega) (evb (evc (l1In ..)) (evs ?_)))
    rw [show (List.range' i 0).all (rowok l) = true by simp, Bool.true_and]
    exact decide_eq_decide.2 (by omega)
  | succ d ih =>
    intro i hi hp
    have hri := hr _ (rdl_mem l i (by omega))
    have no : rowok l i = false → ((List.range' i (d + 1)).all (rowok l) && decide (1 ≤ l.length ∧ l.length ≤ 256)) = false := by
      intro e; rw [List.range'_succ, List.all_cons, e]; rfl
    refine Ev.step (fun k => spec_l7Class.l0.eq_2 ..) (evp (by omega) (evp (by omega) ?_))
    rw [rdL_nat', show rd_L1 l 0 = rdl l 0 from rdL_nat' l 0]
    by_cases e1 : (rdl l i).length ≤ 8
    · refine evn (by omega) (evp (by omega) ?_)
      by_cases e2 : (rdl l i).length = (rdl l 0).length
      · refine evp (by omega) (evb (l2Labels _ (by omega)) (Ev.step (fun k => spec_l7Class.j1.eq_2 ..) ?_))
        by_cases e3 : labB (rdl l i) = true
        · refine evn (by simp [e3]) ?_
          rw [w64s i (by omega)]
          by_cases e0 : 0 < i
          · refine evp (by omega) ?_
            have hpi := hp e0
            have hrp := hr _ (rdl_mem l (i - 1) (by omega))
            rw [w64 (x := (i : Int) - 1) (by omega) (by omega), show (i : Int) - 1 = ((i - 1 : Nat) : Int) by omega, rdL_nat', rdL_nat']
            refine evp (by omega) (evp (by omega) (evp (by omega) (evp (by omega) (evb (l7Before _ _ (by omega) (by omega)) ?_))))
            by_cases e4 : lexB (rdl l (i - 1)) (rdl l i) = true
            · refine evp e4 (evr (ih (i + 1) (by omega) (fun _ => e2)) ?_)
              rw [List.range'_succ, List.all_cons, show rowok l i = true by unfold rowok; rw [decide_eq_true e1, decide_eq_true e2, e3, e4]; simp]; rfl
            · refine evn e4 (evs (no ?_).symm)
              unfold rowok; rw [Bool.eq_false_iff.2 e4, decide_eq_false (show ¬ i = 0 by omega)]; simp
          · obtain rfl : i = 0 := by omega
            refine evn (by omega) (evr (ih 1 (by omega) (fun _ => rfl)) ?_)
            rw [List.range'_succ, List.all_cons, show rowok l 0 = true by unfold rowok; rw [decide_eq_true e1, decide_eq_true e2, e3]; simp]; rfl
        · refine evp (by simp [e3]) (evs (no ?_).symm)
          unfold rowok; rw [Bool.eq_false_iff.2 e3]; simp
      · refine evn (by omega) (Ev.step (fun k => spec_l7Class.j1.eq_2 ..) (evp rfl (evs (no ?_).symm)))
        unfold rowok; rw [decide_eq_false e2]; simp
    · refine evp (by omega) (Ev.step (fun k => spec_l7Class.j1.eq_2 ..) (evp rfl (evs (no ?_).symm)))
      unfold rowok; rw [decide_eq_false e1]; simp
theorem l7Class (l : List (List Int)) (hx : l.length ≤ 1048576) (hr : ∀ r ∈ l, (r.length : Int) ≤ 1048576) : Ev (fun k => spec_l7Class.f k l) (classB l) := by
  unfold spec_l7Class.f classB
  refine evr (l7Class_l0 l hx hr l.length 0 (by omega) (fun h => by omega)) ?_
  rw [List.range_eq_range', Bool.and_comm]

/-! ### impl_IsClass -/
theorem rdL_nat'' (l : List (List Int)) (i : Nat) : rd_L1 l (i : Int) = rdl l i := by simp [rd_L1, rdl]
theorem iClass_l0 (l : List (List Int)) (hx : l.length ≤ 256) (hr : ∀ r ∈ l, (r.length : Int) ≤ 1048576) (h8 : (rdl l 0).length ≤ 8) : ∀ (d i : Nat), i + d = l.length → (0 < i → (rdl l (i - 1)).length = (rdl l 0).length) →
    Ev (fun k => impl_IsClass.l0 k l l (l.length : Int) (i : Int)) ((List.range' i d).all (rowok l)) := by
  intro d
  induction d with
  | zero =>
    intro i hi _
    exact Ev.step (fun k => impl_IsClass.l0.eq_2 ..) (evn (by omega) (evs (by simp)))
  | succ d ih =>
    intro i hi hp
    have hri := hr _ (rdl_mem l i (by omega))
    have no : rowok l i = false → (List.range' i (d + 1)).all (rowok l) = false := by
      intro e; rw [List.range'_succ, List.all_cons, e]; rfl
    refine Ev.step (fun k => impl_IsClass.l0.eq_2 ..) (evp (by omega) (evp (by omega) (evp (by omega) (evp (by omega) ?_))))
    rw [rdL_nat'', show rd_L1 l 0 = rdl l 0 from rdL_nat'' l 0]
    by_cases e2 : (rdl l i).length = (rdl l 0).length
    · refine evp (by omega) (evb (areLabels _ (by omega)) ?_)
      by_cases e3 : labB (rdl l i) = true
      · refine evp e3 ?_
        rw [w64s i (by omega)]
        by_cases e0 : 0 < i
        · refine evp (by omega) ?_
          have hpi := hp e0
          have hrp := hr _ (rdl_mem l (i - 1) (by omega))
          rw [w64 (x := (i : Int) - 1) (by omega) (by omega), show (i : Int) - 1 = ((i - 1 : Nat) : Int) by omega, rdL_nat'']
          refine evp (by omega) (evp (by omega) (evb (compareL _ _ (by omega)) ?_))
          have hc := cmp_lex (rdl l (i - 1)) (rdl l i) (by omega)
          by_cases e4 : lexB (rdl l (i - 1)) (rdl l i) = true
          · refine evn (fun h => by rw [hc.1 h] at e4; cases e4) (evr (ih (i + 1) (by omega) (fun _ => e2)) ?_)
            rw [List.range'_succ, List.all_cons, show rowok l i = true by unfold rowok; rw [decide_eq_true (show (rdl l i).length ≤ 8 by omega), decide_eq_true e2, e3, e4]; simp]; rfl
          · refine evp (hc.2 (Bool.eq_false_iff.2 e4)) (evs (no ?_).symm)
            unfold rowok; rw [Bool.eq_false_iff.2 e4, decide_eq_false (show ¬ i = 0 by omega)]; simp
        · obtain rfl : i = 0 := by omega
          refine evn (by omega) (evr (ih 1 (by omega) (fun _ => rfl)) ?_)
          rw [List.range'_succ, List.all_cons, show rowok l 0 = true by unfold rowok; rw [decide_eq_true h8, decide_eq_true e2, e3]; simp]; rfl
      · refine evn e3 (evs (no ?_).symm)
        unfold rowok; rw [Bool.eq_false_iff.2 e3]; simp
    · refine evn (by omega) (evs (no ?_).symm)
      unfold rowok; rw [decide_eq_false e2]; simp
theorem iIsClass (l : List (List Int)) (hx : l.length ≤ 1048576) (hr : ∀ r ∈ l, (r.length : Int) ≤ 1048576) : Ev (fun k => impl_IsClass.f k l) (classB l) := by
  unfold impl_IsClass.f classB
  rw [within]; simp only [Option.bind_some]
  by_cases e : 1 ≤ l.length ∧ l.length ≤ 256
  · refine evp (by simp; omega) (evp (by omega) (Ev.step (fun k => impl_IsClass.j0.eq_2 ..) ?_))
    rw [show rd_L1 l 0 = rdl l 0 from rdL_nat'' l 0, decide_eq_true e, Bool.true_and]
    by_cases h8 : (rdl l 0).length ≤ 8
    · refine evn (by simp; omega) (evr (iClass_l0 l e.2 hr h8 l.length 0 (by omega) (fun h => by omega)) ?_)
      rw [List.range_eq_range']
    · refine evp (by simp; omega) (evs ?_)
      obtain ⟨n, hn⟩ : ∃ n, l.length = n + 1 := ⟨l.length - 1, by omega⟩
      rw [hn, List.range_eq_range', List.range'_succ, List.all_cons, show rowok l 0 = false by unfold rowok; rw [decide_eq_false h8]; rfl]; rfl
  · exact evn (by simp; omega) (Ev.step (fun k => impl_IsClass.j0.eq_2 ..) (evp rfl (evs (by rw [decide_eq_false e]; rfl))))

/-! ### laws_markIntSS laws_markIntS -/
theorem markRows : ∀ (l : List (List Int)) (a : Int), 0 ≤ a → (∀ r ∈ l, (r.length : Int) ≤ 1048576) → a + l.length * 1048576 < 4611686018427387904 →
    ∃ v, Ev (fun k => laws_markIntSS.g k l a) v ∧ a ≤ v ∧ v ≤ a + l.length * 1048576 := by
  intro l
  induction l with
  | nil => intro a h0 _ _; exact ⟨a, evs rfl, by omega, by simp⟩
  | cons r l ih =>
    intro a h0 hr hb
    have h1 := hr r (by simp)
    rw [List.length_cons, show ((l.length + 1 : Nat) : Int) = (l.length : Int) + 1 by omega, Int.add_mul] at hb
    obtain ⟨v, e, v0, v1⟩ := ih (a + r.length) (by omega) (fun x hx => hr x (by simp [hx])) (by omega)
    refine ⟨v, evb (markIntS r a (by omega) (by omega)) e, by omega, ?_⟩
    rw [List.length_cons, show ((l.length + 1 : Nat) : Int) = (l.length : Int) + 1 by omega, Int.add_mul]; omega
theorem markIntSS (l : List (List Int)) (a : Int) (h0 : 0 ≤ a) (ha : a ≤ 1048576) (hl : l.length ≤ 1048576) (hr : ∀ r ∈ l, (r.length : Int) ≤ 1048576) : ∃ v, Ev (fun k => laws_markIntSS.f k l a) v ∧ a ≤ v ∧ v ≤ a + 1048576 * 1048576 := by
  obtain ⟨v, e, v0, v1⟩ := markRows l a h0 hr (by omega)
  refine ⟨v, ?_, v0, by omega⟩
  unfold laws_markIntSS.f
  exact evp (by omega) e

/-! ### spec_l7At -/
def atV (h s : List Int) : List Int := s.map fun i => h.getD i.toNat 0
theorem l7At_l0 (h s : List Int) (hs : s.length ≤ 1048576) (hb : ∀ x ∈ s, 0 ≤ x ∧ x < h.length) : ∀ (d i : Nat) (out : List Int), i + d = s.length → out.length = i → Ev (fun k => spec_l7At.l0 k h s out (i : Int)) (out ++ atV h (s.drop i)) := by
  intro d
  induction d with
  | zero =>
    intro i out hi ho
    refine Ev.step (fun k => spec_l7At.l0.eq_2 ..) (evn (by omega) (evs ?_))
    rw [List.drop_of_length_le (by omega)]; simp [atV]
  | succ d ih =>
    intro i out hi ho
    have e : s.drop i = s.getD i 0 :: s.drop (i + 1) := by
      rw [List.drop_eq_getElem_cons (by omega)]; simp [List.getD_eq_getElem?_getD, List.getElem?_eq_getElem (show i < s.length by omega)]
    have hx := hb (s.getD i 0) (by rw [List.getD_eq_getElem?_getD, List.getElem?_eq_getElem (by omega)]; exact List.getElem_mem _)
    refine Ev.step (fun k => spec_l7At.l0.eq_2 ..) (evp (by omega) (evp (by omega) ?_))
    rw [rd_nat s i, w64s i (by omega)]
    refine evp hx.1 (evp hx.2 (evp (by omega) (evr (ih (i + 1) _ (by omega) (by simp; omega)) ?_)))
    rw [e]; simp [atV, rd]
theorem l7At (h s : List Int) (hs : s.length ≤ 1048576) (hb : ∀ x ∈ s, 0 ≤ x ∧ x < h.length) : Ev (fun k => spec_l7At.f k h s) (atV h s) := by
  unfold spec_l7At.f
  exact l7At_l0 h s hs hb s.length 0 [] (by omega) rfl
theorem atV_len (h s : List Int) : (atV h s).length = s.length := by simp [atV]

/-! ### impl_at spec_l7At -/
theorem iAt_l0 (h s : List Int) (hs : s.length ≤ 1048576) (hb : ∀ x ∈ s, 0 ≤ x ∧ x < h.length) : ∀ (d i : Nat) (out : List Int), i + d = s.length → out.length = i → Ev (fun k => impl_at.l0 k h out s (s.length : Int) (i : Int)) (out ++ atV h (s.drop i)) := by
  intro d
  induction d with
  | zero =>
    intro i out hi ho
    refine Ev.step (fun k => impl_at.l0.eq_2 ..) (evn (by omega) (evs ?_))
    rw [List.drop_of_length_le (by omega)]; simp [atV]
  | succ d ih =>
    intro i out hi ho
    have e : s.drop i = s.getD i 0 :: s.drop (i + 1) := by
      rw [List.drop_eq_getElem_cons (by omega)]; simp [List.getD_eq_getElem?_getD, List.getElem?_eq_getElem (show i < s.length by omega)]
    have hx := hb (s.getD i 0) (by rw [List.getD_eq_getElem?_getD, List.getElem?_eq_getElem (by omega)]; exact List.getElem_mem _)
    refine Ev.step (fun k => impl_at.l0.eq_2 ..) (evp (by omega) (evp (by omega) (evp (by omega) ?_)))
    rw [rd_nat s i, w64s i (by omega)]
    refine evp hx.1 (evp hx.2 (evp (by omega) (evr (ih (i + 1) _ (by omega) (by simp; omega)) ?_)))
    rw [e]; simp [atV, rd]
theorem iAt (h s : List Int) (hs : s.length ≤ 1048576) (hb : ∀ x ∈ s, 0 ≤ x ∧ x < h.length) : Ev (fun k => impl_at.f k h s) (atV h s) := by
  unfold impl_at.f
  exact iAt_l0 h s hs hb s.length 0 [] (by omega) rfl

/-! ### spec_l1Same -/
theorem l1Same_l0 (a b : List Int) (hl : a.length = b.length) (hx : a.length ≤ 1048576) : ∀ (d i : Nat), i + d = a.length → Ev (fun k => spec_l1Same.l0 k a b (i : Int)) (decide (a.drop i = b.drop i)) := by
  intro d
  induction d with
  | zero =>
    intro i hi
    refine Ev.step (fun k => spec_l1Same.l0.eq_2 ..) (evn (by omega) (evs ?_))
    rw [List.drop_of_length_le (by omega), List.drop_of_length_le (by omega)]; simp
  | succ d ih =>
    intro i hi
    have e1 : a.drop i = a.getD i 0 :: a.drop (i + 1) := by
      rw [List.drop_eq_getElem_cons (by omega)]; simp [List.getD_eq_getElem?_getD, List.getElem?_eq_getElem (show i < a.length by omega)]
    have e2 : b.drop i = b.getD i 0 :: b.drop (i + 1) := by
      rw [List.drop_eq_getElem_cons (by omega)]; simp [List.getD_eq_getElem?_getD, List.getElem?_eq_getElem (show i < b.length by omega)]
    refine Ev.step (fun k => spec_l1Same.l0.eq_2 ..) (evp (by omega) (evp (by omega) (evp (by omega) ?_)))
    rw [rd_nat, rd_nat, w64s i (by omega), e1, e2]
    by_cases c : a.getD i 0 = b.getD i 0
    · refine evp c (evr (ih (i + 1) (by omega)) ?_)
      rw [c]; simp only [List.cons.injEq, true_and]
    · exact evn c (evs (by simp only [List.cons.injEq, c, false_and, decide_false]))
theorem l1Same (a b : List Int) (hx : a.length ≤ 1048576) : Ev (fun k => spec_l1Same.f k a b) (decide (a = b)) := by
  unfold spec_l1Same.f
  by_cases h : a.length = b.length
  · exact evp (by omega) (evr (l1Same_l0 a b h hx a.length 0 (by omega)) (by simp))
  · exact evn (by omega) (evs (decide_eq_false (fun e => h (by rw [e]))).symm)

/-! ### slices_Equal_int_int -/
theorem sEqual_l0 (a b : List Int) (hl : a.length = b.length) (hx : a.length ≤ 1048576) : ∀ (d i : Nat), i + d = a.length → Ev (fun k => slices_Equal_int_int.l0 k a b (a.length : Int) (i : Int)) (decide (a.drop i = b.drop i)) := by
  intro d
  induction d with
  | zero =>
    intro i hi
    refine Ev.step (fun k => slices_Equal_int_int.l0.eq_2 ..) (evn (by omega) (evs ?_))
    rw [List.drop_of_length_le (by omega), List.drop_of_length_le (by omega)]; simp
  | succ d ih =>
    intro i hi
    have e1 : a.drop i = a.getD i 0 :: a.drop (i + 1) := by
      rw [List.drop_eq_getElem_cons (by omega)]; simp [List.getD_eq_getElem?_getD, List.getElem?_eq_getElem (show i < a.length by omega)]
    have e2 : b.drop i = b.getD i 0 :: b.drop (i + 1) := by
      rw [List.drop_eq_getElem_cons (by omega)]; simp [List.getD_eq_getElem?_getD, List.getElem?_eq_getElem (show i < b.length by omega)]
    refine Ev.step (fun k => slices_Equal_int_int.l0.eq_2 ..) (evp (by omega) (evp (by omega) (evp (by omega) (evp (by omega) ?_))))
    rw [rd_nat, rd_nat, w64s i (by omega), e1, e2]
    by_cases c : a.getD i 0 = b.getD i 0
    · refine evp c (evr (ih (i + 1) (by omega)) ?_)
      rw [c]; simp only [List.cons.injEq, true_and]
    · exact evn c (evs (by simp only [List.cons.injEq, c, false_and, decide_false]))
theorem sEqual (a b : List Int) (hx : a.length ≤ 1048576) : Ev (fun k => slices_Equal_int_int.f k a b) (decide (a = b)) := by
  unfold slices_Equal_int_int.f
  by_cases h : a.length = b.length
  · exact evp (by omega) (evr (sEqual_l0 a b h hx a.length 0 (by omega)) (by simp))
  · exact evn (by omega) (evs (decide_eq_false (fun e => h (by rw [e]))).symm)

/-! ### spec_l7Version spec_l7At spec_l1Same spec_l7Class -/
def vers1 (c : List (List Int)) (s y : List Int) (i : Nat) : Bool := decide (atV (rdl c i) s = y)
def versV (c : List (List Int)) (s y : List Int) (n : Nat) : List Int := ((List.range n).filter (vers1 c s y)).map fun i : Nat => (i : Int)
theorem versV_len (c : List (List Int)) (s y : List Int) (n : Nat) : (versV c s y n).length ≤ n := by
  unfold versV; rw [List.length_map]; exact Nat.le_trans (List.length_filter_le _ _) (by simp)
theorem versV_succ (c : List (List Int)) (s y : List Int) (n : Nat) : versV c s y (n + 1) = if vers1 c s y n = true then versV c s y n ++ [(n : Int)] else versV c s y n := by
  unfold versV
  rw [List.range_succ, List.filter_append, List.map_append]
  by_cases e : vers1 c s y n = true
  · rw [if_pos e]; simp [e]
  · rw [if_neg e]; simp [e]
theorem l7Version_l0 (c : List (List Int)) (s y : List Int) (hc : c.length ≤ 1048576) (hs : s.length ≤ 1048576) (hb : ∀ i, i < c.length → ∀ x ∈ s, 0 ≤ x ∧ x < (rdl c i).length) : ∀ (d i : Nat), i + d = c.length → Ev (fun k => spec_l7Version.l0 k c s y (versV c s y i) (i : Int)) (versV c s y c.length) := by
  intro d
  induction d with
  | zero =>
    intro i hi
    refine Ev.step (fun k => spec_l7Version.l0.eq_2 ..) (evn (by omega) (evs ?_))
    rw [show i = c.length by omega]
  | succ d ih =>
    intro i hi
    have hlen := versV_len c s y i
    have h := ih (i + 1) (by omega)
    rw [versV_succ] at h
    refine Ev.step (fun k => spec_l7Version.l0.eq_2 ..) (evp (by omega) (evp (by omega) ?_))
    rw [rdL_nat', w64s i (by omega)]
    refine evb (l7At _ s hs (hb i (by omega))) (evb (l1Same _ y (by rw [atV_len]; exact hs)) ?_)
    by_cases e : vers1 c s y i = true
    · rw [if_pos e] at h
      exact evp e (evp (by omega) h)
    · rw [if_neg e] at h
      exact evn e h
theorem l7Version (c : List (List Int)) (s y : List Int) (hc : c.length ≤ 1048576) (hs : s.length ≤ 1048576) (hb : ∀ i, i < c.length → ∀ x ∈ s, 0 ≤ x ∧ x < (rdl c i).length) : Ev (fun k => spec_l7Version.f k c s y) (versV c s y c.length) := by
  unfold spec_l7Version.f
  exact l7Version_l0 c s y hc hs hb c.length 0 (by omega)
theorem classB_at {c : List (List Int)} (h : classB c = true) : (1 ≤ c.length ∧ c.length ≤ 256) ∧ ∀ i, i < c.length → (rdl c i).length = (rdl c 0).length ∧ (rdl c i).length ≤ 8 := by
  unfold classB at h
  simp only [Bool.and_eq_true, decide_eq_true_eq, List.all_eq_true, List.mem_range] at h
  refine ⟨h.1, fun i hi => ?_⟩
  have := h.2 i hi
  unfold rowok at this
  simp only [Bool.and_eq_true, decide_eq_true_eq] at this
  exact ⟨this.2.1, this.1⟩
theorem setB_in {n : Int} {s : List Int} (h : setB n s = true) : ∀ x ∈ s, 0 ≤ x ∧ x < n := by
  unfold setB inB at h
  simp only [Bool.and_eq_true, List.all_eq_true, decide_eq_true_eq] at h
  intro x hx
  have := h.1 x hx
  omega

/-! ### impl_version impl_at slices_Equal_int_int spec_l7Version -/
theorem iVersion_l0 (c : List (List Int)) (s y : List Int) (hc : c.length ≤ 1048576) (hs : s.length ≤ 1048576) (hb : ∀ i, i < c.length → ∀ x ∈ s, 0 ≤ x ∧ x < (rdl c i).length) : ∀ (d i : Nat), i + d = c.length → Ev (fun k => impl_version.l0 k s y (versV c s y i) c (c.length : Int) (i : Int)) (versV c s y c.length) := by
  intro d
  induction d with
  | zero =>
    intro i hi
    refine Ev.step (fun k => impl_version.l0.eq_2 ..) (evn (by omega) (evs ?_))
    rw [show i = c.length by omega]
  | succ d ih =>
    intro i hi
    have hlen := versV_len c s y i
    have h := ih (i + 1) (by omega)
    rw [versV_succ] at h
    refine Ev.step (fun k => impl_version.l0.eq_2 ..) (evp (by omega) (evp (by omega) (evp (by omega) ?_)))
    rw [rdL_nat', w64s i (by omega)]
    refine evb (iAt _ s hs (hb i (by omega))) (evb (sEqual _ y (by rw [atV_len]; exact hs)) ?_)
    by_cases e : vers1 c s y i = true
    · rw [if_pos e] at h
      exact evp e (evp (by omega) h)
    · rw [if_neg e] at h
      exact evn e h
theorem iVersion (c : List (List Int)) (s y : List Int) (hc : c.length ≤ 1048576) (hs : s.length ≤ 1048576) (hb : ∀ i, i < c.length → ∀ x ∈ s, 0 ≤ x ∧ x < (rdl c i).length) : Ev (fun k => impl_version.f k c s y) (versV c s y c.length) := by
  unfold impl_version.f
  exact iVersion_l0 c s y hc hs hb c.length 0 (by omega)

/-! ### spec_l7Sets -/
def csetd (m c : Nat) : Nat → List Int
  | 0 => []
  | d + 1 => if bit c d = 0 then ((m - 1 - d : Nat) : Int) :: csetd m c d else csetd m c d
theorem csetd_len (m c : Nat) : ∀ d, (csetd m c d).length ≤ d := by
  intro d
  induction d with
  | zero => simp [csetd]
  | succ d ih =>
    simp only [csetd]
    split
    · rw [List.length_cons]; omega
    · omega
def allS (m : Nat) : Nat → List (List Int)
  | 0 => [[]]
  | d + 1 => (allS m d).map (fun s => ((m - 1 - d : Nat) : Int) :: s) ++ allS m d
theorem bit_low (c d j : Nat) (h : j < d) : bit (2 ^ d + c) j = bit c j := by
  unfold bit
  have e : 2 ^ d = 2 ^ j * (2 * 2 ^ (d - j - 1)) := by
    rw [← Nat.pow_succ', ← Nat.pow_add]; congr 1; omega
  rw [e, Nat.mul_add_div (Nat.pow_pos (by decide))]
  omega
theorem csetd_low (m c d : Nat) : ∀ e, e ≤ d → csetd m (2 ^ d + c) e = csetd m c e := by
  intro e
  induction e with
  | zero => intro _; rfl
  | succ e ih =>
    intro h
    simp only [csetd]
    rw [bit_low c d e (by omega), ih (by omega)]
theorem codes_all (m : Nat) : ∀ d, (List.range (2 ^ d)).map (fun c => csetd m c d) = allS m d := by
  intro d
  induction d with
  | zero => simp [csetd, allS]
  | succ d ih =>
    rw [show 2 ^ (d + 1) = 2 ^ d + 2 ^ d by rw [Nat.pow_succ]; omega, List.range_add, List.map_append, List.map_map]
    simp only [allS]
    rw [← ih, List.map_map]
    congr 1
    · refine List.map_congr_left fun c hc => ?_
      have hc := List.mem_range.1 hc
      simp only [csetd, Function.comp]
      rw [if_pos (by unfold bit; rw [Nat.div_eq_of_lt hc])]
    · refine List.map_congr_left fun c hc => ?_
      have hc := List.mem_range.1 hc
      simp only [csetd, Function.comp]
      rw [if_neg, csetd_low m c d d (Nat.le_refl _)]
      unfold bit
      rw [show 2 ^ d + c = 2 ^ d * 1 + c by omega, Nat.mul_add_div (Nat.pow_pos (by decide)), Nat.div_eq_of_lt hc]
      decide
theorem all_cmbs (m : Nat) : ∀ d, d ≤ m → ∀ r, (allS m d).filter (fun s => decide (s.length = r)) = cmbs m r (m - d) := by
  intro d
  induction d with
  | zero =>
    intro _ r
    cases r with
    | zero => rfl
    | succ r => rw [cmbs_end m r (m - 0) (by omega)]; rfl
  | succ d ih =>
    intro h r
    simp only [allS]
    rw [List.filter_append, List.filter_map, ih (by omega)]
    cases r with
    | zero =>
      have e : (allS m d).filter ((fun s : List Int => decide (s.length = 0)) ∘ fun s => ((m - 1 - d : Nat) : Int) :: s) = [] := by
        rw [List.filter_eq_nil_iff]; intro s _; simp
      rw [e]; rfl
    | succ r =>
      have e : (allS m d).filter ((fun s : List Int => decide (s.length = r + 1)) ∘ fun s => ((m - 1 - d : Nat) : Int) :: s) = (allS m d).filter (fun s => decide (s.length = r)) := by
        congr 1; funext s; simp
      rw [e, ih (by omega), cmbs_step m r (m - (d + 1)) (by omega), show m - (d + 1) + 1 = m - d by omega, show m - 1 - d = m - (d + 1) by omega]
theorem codes_cmbs (m r : Nat) : ((List.range (2 ^ m)).map (fun c => csetd m c m)).filter (fun s => decide (s.length = r)) = cmbs m r 0 := by
  rw [codes_all, all_cmbs m m (Nat.le_refl _), Nat.sub_self]
theorem l7Sets_l2 (m c r : Nat) (hm : m ≤ 8) (hc : c < 2 ^ m) (x3 : List (List Int)) (hx : x3.length ≤ 1000000) (R : List (List Int)) (h1 : (csetd m c m).length = r → Ev (fun k => spec_l7Sets.l1 k (m : Int) (x3 ++ [csetd m c m]) (r : Int) ((c + 1 : Nat) : Int)) R)
    (h2 : (csetd m c m).length ≠ r → Ev (fun k => spec_l7Sets.l1 k (m : Int) x3 (r : Int) ((c + 1 : Nat) : Int)) R) :
    ∀ (d : Nat) (out : List Int), d ≤ m → out.length ≤ 100 → out ++ csetd m c d = csetd m c m → Ev (fun k => spec_l7Sets.l2 k (m : Int) x3 (r : Int) (c : Int) out ((m - d : Nat) : Int)) R := by
  have h256 : (2 : Nat) ^ m ≤ 2 ^ 8 := Nat.pow_le_pow_right (by decide) hm
  intro d
  induction d with
  | zero =>
    intro out _ _ e
    rw [show csetd m c 0 = [] from rfl, List.append_nil] at e
    subst e
    refine Ev.step (fun k => spec_l7Sets.l2.eq_2 ..) (evn (by omega) ?_)
    rw [w64s c (by omega)]
    by_cases g : (csetd m c m).length = r
    · exact evp (by omega) (evp (by omega) (h1 g))
    · exact evn (by omega) (h2 g)
  | succ d ih =>
    intro out hd ho e
    have hlen := csetd_len m c m
    have hlen2 : out.length + (csetd m c (d + 1)).length ≤ 8 := by rw [← List.length_append, e]; omega
    refine Ev.step (fun k => spec_l7Sets.l2.eq_2 ..) (evp (by omega) ?_)
    rw [show wrap64 (wrap64 ((m : Int) - 1) - ((m - (d + 1) : Nat) : Int)) = (d : Int) by unfold wrap64; omega, digit c d (by omega) (by omega), w64s _ (by omega), show m - (d + 1) + 1 = m - d by omega]
    refine evp (by omega) ?_
    simp only [csetd] at e hlen2
    by_cases g : bit c d = 0
    · rw [if_pos g] at e
      refine evp (by omega) (evp (by omega) (ih _ (by omega) (by simp; omega) ?_))
      rw [← e, show m - (d + 1) = m - 1 - d by omega]; simp
    · rw [if_neg g] at e
      exact evn (by omega) (ih _ (by omega) ho e)
theorem l7Sets_l1 (m r : Nat) (hm : m ≤ 8) (R : List (List Int)) : ∀ (e c : Nat) (x3 : List (List Int)), c + e = 2 ^ m → x3.length + e ≤ 1000000 →
    Ev (fun k => spec_l7Sets.l0 k (m : Int) (x3 ++ ((List.range' c e).map (fun c => csetd m c m)).filter (fun s => decide (s.length = r))) ((r + 1 : Nat) : Int)) R → r ≤ 8 → Ev (fun k => spec_l7Sets.l1 k (m : Int) x3 (r : Int) (c : Int)) R := by
  have h256 : (2 : Nat) ^ m ≤ 2 ^ 8 := Nat.pow_le_pow_right (by decide) hm
  intro e
  induction e with
  | zero =>
    intro c x3 hc hx h hr
    refine Ev.step (fun k => spec_l7Sets.l1.eq_2 ..) (evp (by omega) ?_)
    rw [shl1 m (by omega), w64s r (by omega)]
    refine evn (by omega) ?_
    simpa using h
  | succ e ih =>
    intro c x3 hc hx h hr
    refine Ev.step (fun k => spec_l7Sets.l1.eq_2 ..) (evp (by omega) ?_)
    rw [shl1 m (by omega)]
    refine evp (by omega) ?_
    rw [List.range'_succ, List.map_cons, List.filter_cons] at h
    refine evr (l7Sets_l2 m c r hm (by omega) x3 (by omega) R (fun g => ?_) (fun g => ?_) m [] (Nat.le_refl _) (by simp) rfl |> fun z => by rw [Nat.sub_self] at z; exact z) rfl
    · rw [if_pos (decide_eq_true g)] at h
      refine ih (c + 1) _ (by omega) (by simp; omega) ?_ hr
      rw [List.append_assoc]; exact h
    · rw [if_neg (by simpa using g)] at h
      exact ih (c + 1) _ (by omega) (by omega) h hr
theorem cmbs_count (m r : Nat) : (cmbs m r 0).length ≤ 2 ^ m := by
  rw [← codes_cmbs]
  exact Nat.le_trans (List.length_filter_le _ _) (by simp)
theorem l7Sets_l0 (m : Nat) (hm : m ≤ 8) : ∀ (f r : Nat) (x3 : List (List Int)), r + f = m + 1 → x3.length + f * 256 ≤ 100000 →
    Ev (fun k => spec_l7Sets.l0 k (m : Int) x3 (r : Int)) (x3 ++ (List.range' r f).flatMap fun r => cmbs m r 0) := by
  have h256 : (2 : Nat) ^ m ≤ 2 ^ 8 := Nat.pow_le_pow_right (by decide) hm
  intro f
  induction f with
  | zero =>
    intro r x3 hr hx
    refine Ev.step (fun k => spec_l7Sets.l0.eq_2 ..) (evn (by omega) (evs ?_))
    simp
  | succ f ih =>
    intro r x3 hr hx
    refine Ev.step (fun k => spec_l7Sets.l0.eq_2 ..) (evp (by omega) ?_)
    have hc := cmbs_count m r
    refine l7Sets_l1 m r hm _ (2 ^ m) 0 x3 (by omega) (by omega) ?_ (by omega)
    rw [← List.range_eq_range', codes_cmbs]
    refine evr (ih (r + 1) _ (by omega) (by simp; omega)) ?_
    rw [List.range'_succ, List.flatMap_cons, List.append_assoc]
theorem l7Sets (m : Nat) (hm : m ≤ 8) : Ev (fun k => spec_l7Sets.f k (m : Int)) (impl_teaching.sets m) := by
  unfold spec_l7Sets.f
  refine evr (l7Sets_l0 m hm (m + 1) 0 [] (by omega) (by simp; omega)) ?_
  rw [List.nil_append, ← List.range_eq_range']; rfl

/-! ### spec_l7Teach spec_l7Sets spec_l7At spec_l7Version spec_l7Class -/
def tver (c : List (List Int)) (i : Nat) (s : List Int) : List Int := versV c s (atV (rdl c i) s) c.length
def tok (c : List (List Int)) (i : Nat) (s : List Int) : Bool := decide ((tver c i s).length = 1)
theorem lex_trans : ∀ a b c : List Int, lexB a b = true → lexB b c = true → lexB a c = true := by
  intro a
  induction a with
  | nil => intro b c h; cases b <;> simp [lexB] at h
  | cons x a ih =>
    intro b c h1 h2
    cases b with
    | nil => simp [lexB] at h1
    | cons y b =>
      cases c with
      | nil => simp [lexB] at h2
      | cons z c =>
        simp only [lexB] at h1 h2 ⊢
        by_cases e1 : x = y
        · rw [if_pos e1] at h1
          by_cases e2 : y = z
          · rw [if_pos e2] at h2
            rw [if_pos (by omega)]; exact ih b c h1 h2
          · rw [if_neg e2] at h2
            have := of_decide_eq_true h2
            rw [if_neg (by omega)]; exact decide_eq_true (by omega)
        · rw [if_neg e1] at h1
          have h3 := of_decide_eq_true h1
          by_cases e2 : y = z
          · rw [if_neg (by omega)]; exact decide_eq_true (by omega)
          · rw [if_neg e2] at h2
            have := of_decide_eq_true h2
            rw [if_neg (by omega)]; exact decide_eq_true (by omega)
theorem lex_irr : ∀ a : List Int, lexB a a = false := by
  intro a
  induction a with
  | nil => rfl
  | cons x a ih => simp [lexB, ih]
theorem classB_rise {c : List (List Int)} (h : classB c = true) : ∀ d i, i + d + 1 < c.length → lexB (rdl c i) (rdl c (i + d + 1)) = true := by
  unfold classB at h
  simp only [Bool.and_eq_true, List.all_eq_true, List.mem_range] at h
  have h1 : ∀ j, j + 1 < c.length → lexB (rdl c j) (rdl c (j + 1)) = true := fun j hj => by
    have h2 := h.2 (j + 1) hj
    unfold rowok at h2
    simp only [Bool.and_eq_true, Bool.or_eq_true, decide_eq_true_eq] at h2
    rcases h2.2.2.2 with h3 | h3
    · omega
    · exact h3
  intro d
  induction d with
  | zero => intro i hi; exact h1 i (by omega)
  | succ d ih => intro i hi; exact lex_trans _ _ _ (ih i (by omega)) (h1 (i + d + 1) (by omega))
theorem classB_inj {c : List (List Int)} (h : classB c = true) {i j : Nat} (hi : i < c.length) (hj : j < c.length) (e : rdl c i = rdl c j) : i = j := by
  rcases Nat.lt_trichotomy i j with g | g | g
  · have := classB_rise h (j - i - 1) i (by omega)
    rw [show i + (j - i - 1) + 1 = j by omega, e, lex_irr] at this
    cases this
  · exact g
  · have := classB_rise h (i - j - 1) j (by omega)
    rw [show j + (i - j - 1) + 1 = i by omega, e, lex_irr] at this
    cases this
theorem cmbs_in (n : Nat) : ∀ r i, ∀ s ∈ cmbs n r i, ∀ x ∈ s, 0 ≤ x ∧ x < n := by
  intro r
  induction r with
  | zero => intro i s hs x hx; simp [cmbs] at hs; subst hs; simp at hx
  | succ r ih =>
    intro i s hs x hx
    simp only [cmbs, List.mem_flatMap, List.mem_map, List.mem_range'_1] at hs
    obtain ⟨j, hj, d, hd, rfl⟩ := hs
    rcases List.mem_cons.1 hx with rfl | hx
    · omega
    · exact ih _ d hd x hx
theorem sets_in {m : Nat} {s : List Int} (h : s ∈ impl_teaching.sets m) : s.length ≤ m ∧ ∀ x ∈ s, 0 ≤ x ∧ x < m := by
  obtain ⟨r, hr, hs⟩ := List.mem_flatMap.1 h
  have h1 := cmbs_len m r 0 s hs
  have := List.mem_range.1 hr
  exact ⟨by omega, cmbs_in m r 0 s hs⟩
theorem cmbs_full (n : Nat) : ∀ d, d ≤ n → ((List.range' (n - d) d).map fun j : Nat => (j : Int)) ∈ cmbs n d (n - d) := by
  intro d
  induction d with
  | zero => intro _; simp [cmbs]
  | succ d ih =>
    intro h
    rw [cmbs_step n d (n - (d + 1)) (by omega), List.range'_succ, List.map_cons, show n - (d + 1) + 1 = n - d by omega]
    exact List.mem_append_left _ (List.mem_map.2 ⟨_, ih (by omega), rfl⟩)
theorem atV_full (h : List Int) : atV h ((List.range' 0 h.length).map fun j : Nat => (j : Int)) = h := by
  unfold atV
  rw [List.map_map]
  apply List.ext_getElem
  · simp
  · intro j h1 h2
    simp [List.getD_eq_getElem?_getD, List.getElem?_eq_getElem h2]
theorem ver_mem (c : List (List Int)) (i : Nat) (s : List Int) (hi : i < c.length) : (i : Int) ∈ tver c i s := by
  unfold tver versV
  exact List.mem_map.2 ⟨i, List.mem_filter.2 ⟨List.mem_range.2 hi, by simp [vers1]⟩, rfl⟩
theorem ver_pos (c : List (List Int)) (i : Nat) (s : List Int) (hi : i < c.length) : 1 ≤ (tver c i s).length := List.length_pos_of_mem (ver_mem c i s hi)
theorem full_ok {c : List (List Int)} (h : classB c = true) (i : Nat) (hi : i < c.length) : ∃ s ∈ impl_teaching.sets (rdl c 0).length, tok c i s = true := by
  have h1 := classB_at h
  refine ⟨(List.range' 0 (rdl c 0).length).map fun j : Nat => (j : Int), List.mem_flatMap.2 ⟨(rdl c 0).length, List.mem_range.2 (by omega), by simpa using cmbs_full (rdl c 0).length (rdl c 0).length (Nat.le_refl _)⟩, ?_⟩
  have e : ∀ j, j < c.length → atV (rdl c j) ((List.range' 0 (rdl c 0).length).map fun j : Nat => (j : Int)) = rdl c j := fun j hj => by
    rw [← (h1.2 j hj).1]; exact atV_full _
  unfold tok tver versV
  rw [List.length_map, e i hi]
  have e2 : (List.range c.length).filter (vers1 c ((List.range' 0 (rdl c 0).length).map fun j : Nat => (j : Int)) (rdl c i)) = (List.range c.length).filter (fun j => j == i) := by
    refine List.filter_congr fun j hj => ?_
    have hj := List.mem_range.1 hj
    unfold vers1
    rw [e j hj]
    by_cases g : j = i
    · subst g; simp
    · rw [decide_eq_false (fun e3 => g (classB_inj h hj hi e3))]
      exact (beq_eq_false_iff_ne.2 g).symm
  rw [e2, ← List.countP_eq_length_filter]
  have h3 : (List.range c.length).countP (fun j => j == i) = 1 := by
    show (List.range c.length).count i = 1
    rw [List.count_range, if_pos hi]
  rw [h3]; rfl
def teachV (c : List (List Int)) (i : Nat) : List Int := ((impl_teaching.sets (rdl c 0).length).find? (tok c i)).getD []
theorem teach_in {c : List (List Int)} (h : classB c = true) (i : Nat) (hi : i < c.length) : teachV c i ∈ impl_teaching.sets (rdl c 0).length := by
  obtain ⟨s, hs, ht⟩ := full_ok h i hi
  unfold teachV
  cases e : (impl_teaching.sets (rdl c 0).length).find? (tok c i) with
  | none => exact absurd (List.find?_eq_none.1 e s hs) (by simp [ht])
  | some z => exact List.mem_of_find?_eq_some e
theorem teach_len {c : List (List Int)} (h : classB c = true) (i : Nat) (hi : i < c.length) : (teachV c i).length ≤ 8 := by
  have h1 := sets_in (teach_in h i hi)
  have h2 := (classB_at h).2 0 (by omega)
  omega
theorem l7Teach_l0 {c : List (List Int)} (hB : classB c = true) (i : Nat) (hi : i < c.length) : ∀ (L P : List (List Int)), impl_teaching.sets (rdl c 0).length = P ++ L → L.any (tok c i) = true → (impl_teaching.sets (rdl c 0).length).length ≤ 100000 →
    Ev (fun k => spec_l7Teach.l0 k c (i : Int) (impl_teaching.sets (rdl c 0).length) (P.length : Int)) ((L.find? (tok c i)).getD []) := by
  have h1 := classB_at hB
  intro L
  induction L with
  | nil => intro P _ h; simp at h
  | cons s L ih =>
    intro P e h hl
    have hle : P.length + (L.length + 1) ≤ 100000 := by rw [e] at hl; simpa using hl
    have hlen : (impl_teaching.sets (rdl c 0).length).length = P.length + (L.length + 1) := by rw [e]; simp
    have hs := sets_in (show s ∈ impl_teaching.sets (rdl c 0).length by rw [e]; simp)
    have hrd : rdl (impl_teaching.sets (rdl c 0).length) P.length = s := by rw [e]; simp [rdl]
    have hin : ∀ j, j < c.length → ∀ x ∈ s, 0 ≤ x ∧ x < (rdl c j).length := fun j hj x hx => by rw [(h1.2 j hj).1]; exact hs.2 x hx
    have hm := (h1.2 0 (by omega)).2
    refine Ev.step (fun k => spec_l7Teach.l0.eq_2 ..) (evp (by omega) (evp (by omega) (evp (by omega) (evp (by omega) ?_))))
    rw [rdL_nat', rdL_nat', hrd, w64s _ (by omega)]
    refine evb (l7At _ s (by omega) (hin i hi)) (evb (l7Version c s _ (by omega) (by omega) hin) ?_)
    have hp := ver_pos c i s hi
    have hx : versV c s (atV (rdl c i) s) c.length = tver c i s := rfl
    rw [hx]
    by_cases g : (tver c i s).length = 1
    · have gt : tok c i s = true := decide_eq_true g
      refine evn (by omega) (evs ?_)
      rw [List.find?_cons_of_pos (by exact gt)]; rfl
    · have gf : tok c i s = false := decide_eq_false g
      refine evp (by omega) ?_
      rw [List.find?_cons_of_neg (by rw [gf]; decide)]
      have h2 := ih (P ++ [s]) (by rw [e]; simp) (by simpa [gf] using h) hl
      rw [List.length_append] at h2
      exact h2
theorem sets_count (m : Nat) (hm : m ≤ 8) : (impl_teaching.sets m).length ≤ 100000 := by
  have h256 : (2 : Nat) ^ m ≤ 2 ^ 8 := Nat.pow_le_pow_right (by decide) hm
  have : ∀ n, n ≤ 9 → ((List.range n).flatMap fun r => cmbs m r 0).length ≤ n * 256 := by
    intro n
    induction n with
    | zero => intro _; simp
    | succ n ih =>
      intro hn
      have h1 := ih (by omega)
      have h2 := cmbs_count m n
      rw [List.range_succ, List.flatMap_append, List.length_append]
      simp only [List.flatMap_cons, List.flatMap_nil, List.append_nil]
      omega
  have := this (m + 1) (by omega)
  unfold impl_teaching.sets
  omega
theorem l7Teach {c : List (List Int)} (hB : classB c = true) (i : Nat) (hi : i < c.length) : Ev (fun k => spec_l7Teach.f k c (i : Int)) (teachV c i) := by
  have h1 := classB_at hB
  have hm := (h1.2 0 (by omega)).2
  unfold spec_l7Teach.f
  refine evp (by omega) ?_
  rw [show rd_L1 c 0 = rdl c 0 from rdL_nat' c 0]
  refine evb (l7Sets _ hm) ?_
  obtain ⟨s, hs, ht⟩ := full_ok hB i hi
  exact l7Teach_l0 hB i hi (impl_teaching.sets (rdl c 0).length) [] rfl (List.any_eq_true.2 ⟨s, hs, ht⟩) (sets_count _ hm)

/-! ### impl_teaching impl_at impl_version impl_copied spec_l7Teach -/
theorem iCopied (l : List Int) (h : l.length ≤ 1048576) : impl_copied.f l = some l := by
  unfold impl_copied.f
  simp only [Option.bind_some, List.nil_append, List.length_nil]
  rw [if_pos (by omega)]
theorem iOne {c : List (List Int)} (hB : classB c = true) (i : Nat) (hi : i < c.length) (s : List Int) (hs : s ∈ impl_teaching.sets (rdl c 0).length) : Ev (fun k => impl_teaching.one k c (i : Int) s) (s, tver c i s) := by
  have h1 := classB_at hB
  have h2 := sets_in hs
  have hm := (h1.2 0 (by omega)).2
  have hin : ∀ j, j < c.length → ∀ x ∈ s, 0 ≤ x ∧ x < (rdl c j).length := fun j hj x hx => by rw [(h1.2 j hj).1]; exact h2.2 x hx
  unfold impl_teaching.one
  rw [rdL_nat']
  refine evb (evc (iCopied s (by omega))) (evb (iAt _ s (by omega) (hin i hi)) (evb (iVersion c s _ (by omega) (by omega) hin) (evs rfl)))
theorem ev_all {α β : Type} (f : Nat → α → Option β) (g : α → β) : ∀ L : List α, (∀ s ∈ L, Ev (fun k => f k s) (g s)) → ∃ K, ∀ k, K ≤ k → ∀ s ∈ L, f k s = some (g s) := by
  intro L
  induction L with
  | nil => intro _; exact ⟨0, fun _ _ s hs => by simp at hs⟩
  | cons x L ih =>
    intro h
    obtain ⟨K1, h1⟩ := ih fun s hs => h s (by simp [hs])
    obtain ⟨K2, h2⟩ := h x (by simp)
    refine ⟨max K1 K2, fun k hk s hs => ?_⟩
    rcases List.mem_cons.1 hs with rfl | hs
    · exact h2 k (by omega)
    · exact h1 k (by omega) s hs
theorem upto_find (p : List Int → Bool) : ∀ L : List (List Int), L.any p = true → (uptoT p L).getLast? = L.find? p := by
  intro L
  induction L with
  | nil => intro h; simp at h
  | cons x L ih =>
    intro h
    simp only [uptoT]
    by_cases g : p x = true
    · rw [if_pos g, List.find?_cons_of_pos (by exact g)]; rfl
    · rw [if_neg g, List.find?_cons_of_neg (by exact g), ← ih (by simpa [g] using h)]
      have : uptoT p L ≠ [] := by
        intro e
        have h2 := ih (by simpa [g] using h)
        rw [e] at h2
        have h3 : L.any p = true := by simpa [g] using h
        obtain ⟨y, hy, hp⟩ := List.any_eq_true.1 h3
        exact absurd (List.find?_eq_none.1 h2.symm y hy) (by simp [hp])
      rw [List.getLast?_cons, List.getLast?_eq_some_getLast this]; rfl
theorem iTeach {c : List (List Int)} (hB : classB c = true) (i : Nat) (hi : i < c.length) : Ev (fun k => impl_teaching.f k c (i : Int)) (teachV c i) := by
  have h1 := classB_at hB
  have hm := (h1.2 0 (by omega)).2
  obtain ⟨K, hK⟩ := ev_all (fun k s => impl_teaching.one k c (i : Int) s) (fun s => (s, tver c i s)) (impl_teaching.sets (rdl c 0).length) fun s hs => iOne hB i hi s hs
  refine ⟨K, fun k hk => ?_⟩
  have hk := hK k hk
  unfold impl_teaching.f
  dsimp only
  rw [show rd_L1 c 0 = rdl c 0 from rdL_nat' c 0, if_pos ⟨by omega, by omega, by omega, fun s hs => by rw [hk s hs]; rfl⟩]
  have e1 : uptoT (impl_teaching.p k c (i : Int)) (impl_teaching.sets (rdl c 0).length) = uptoT (tok c i) (impl_teaching.sets (rdl c 0).length) := uptoT_congr _ _ _ fun s hs => by
    unfold impl_teaching.p tok
    rw [hk s hs]
    simp only [Option.map_some, Option.getD_some]
    by_cases g : (tver c i s).length = 1
    · rw [g]; rfl
    · rw [decide_eq_false g, beq_eq_false_iff_ne]; omega
  rw [e1]
  obtain ⟨s, hs, ht⟩ := full_ok hB i hi
  unfold impl_teaching.out
  rw [upto_find _ _ (List.any_eq_true.2 ⟨s, hs, ht⟩)]
  unfold teachV
  cases e : (impl_teaching.sets (rdl c 0).length).find? (tok c i) with
  | none => rfl
  | some z => rw [Option.bind_some, hk z (List.mem_of_find?_eq_some e)]; rfl

/-! ### spec_TeachingSet spec_l7Teach spec_l7Class -/
def teachSet (c : List (List Int)) (i : Int) : List Int × Bool := if classB c = true ∧ 0 ≤ i ∧ i < c.length then (teachV c i.toNat, true) else ([], false)
theorem teachSet_len (c : List (List Int)) (i : Int) : (teachSet c i).1.length ≤ 8 := by
  unfold teachSet
  split
  · rename_i e; exact teach_len e.1 _ (by omega)
  · simp
theorem sTeachSet (c : List (List Int)) (i : Int) (hx : c.length ≤ 1048576) (hr : ∀ r ∈ c, (r.length : Int) ≤ 1048576) : Ev (fun k => spec_TeachingSet.f k c i) (teachSet c i) := by
  unfold spec_TeachingSet.f teachSet
  refine evb (l7Class c hx hr) ?_
  by_cases e : classB c = true
  · refine evp e ?_
    have h1 := classB_at e
    rw [w64 (x := (c.length : Int) - 1) (by omega) (by omega)]
    refine evb (evc (l1In i 0 _)) ?_
    by_cases g : 0 ≤ i ∧ i < c.length
    · obtain ⟨n, rfl⟩ := Int.eq_ofNat_of_zero_le g.1
      refine evp (by rw [decide_eq_true_eq]; omega) (evb (l7Teach e n (by omega)) (evs ?_))
      rw [if_pos ⟨e, by omega, by omega⟩]; rfl
    · refine evn (by rw [decide_eq_true_eq]; omega) (evs ?_)
      rw [if_neg (fun h => g h.2)]
  · exact evn e (evs (by rw [if_neg (fun h => e h.1)]))

/-! ### impl_TeachingSet impl_teaching impl_IsClass spec_TeachingSet -/
theorem iTeachSet (c : List (List Int)) (i : Int) (hx : c.length ≤ 1048576) (hr : ∀ r ∈ c, (r.length : Int) ≤ 1048576) : Ev (fun k => impl_TeachingSet.f k c i) (teachSet c i) := by
  unfold impl_TeachingSet.f teachSet
  refine evb (iIsClass c hx hr) ?_
  by_cases e : classB c = true
  · refine evp e ?_
    have h1 := classB_at e
    rw [w64 (x := (c.length : Int) - 1) (by omega) (by omega)]
    refine evb (evc (within i 0 _)) ?_
    by_cases g : 0 ≤ i ∧ i < c.length
    · obtain ⟨n, rfl⟩ := Int.eq_ofNat_of_zero_le g.1
      refine evp (by rw [decide_eq_true_eq]; omega) (evb (iTeach e n (by omega)) (evs ?_))
      rw [if_pos ⟨e, by omega, by omega⟩]; rfl
    · refine evn (by rw [decide_eq_true_eq]; omega) (evs ?_)
      rw [if_neg (fun h => g h.2)]
  · exact evn e (evs (by rw [if_neg (fun h => e h.1)]))

/-! ### laws_FnExactTeachingSet -/
theorem law (c : List (List Int)) (i : Int) (hc : c.length ≤ maxLen) (hr : ∀ r ∈ c, r.length ≤ maxLen) : Ev (fun k => laws_FnExactTeachingSet.f k c i) true := by
  unfold laws_FnExactTeachingSet.f
  refine evb (szIntSS c 1048576 (by omega) (by omega) hc hr) ?_
  obtain ⟨h1, h2, h3⟩ := szv_ok c 1048576 (by omega)
  by_cases h : 0 ≤ szv c 1048576
  · obtain ⟨h4, h5⟩ := h3 h
    refine evn (by omega) ?_
    have hs := sTeachSet c i (by omega) h5
    have hi := iTeachSet c i (by omega) h5
    have hb := teachSet_len c i
    obtain ⟨mv, hm, hm0, hm1⟩ := markIntSS c 1 (by omega) (by omega) (by omega) h5
    generalize teachSet c i = R at *
    repeat (first
    | exact evs rfl
    | dsimp only
    | (with_reducible refine evb hs ?_)
    | (with_reducible refine evb hi ?_)
    | (with_reducible refine evb hm ?_)
    | ((with_reducible refine evb (toIntS _ ?_) ?_); (focus (first | omega | assumption)))
    | ((with_reducible refine evb (eqIntS _ _ ?_) ?_); (focus (first | omega | assumption)))
    | ((with_reducible refine evb (markIntS _ _ ?_ ?_) ?_); (focus (first | omega | assumption)); (focus (first | omega | assumption)))
    | ((with_reducible refine evb (heldIntS _ _ ?_ ?_) ?_); (focus (first | omega | assumption)); (focus (first | omega | assumption)))
    | ((with_reducible refine evb (toIntSS _ ?_ ?_) ?_); (focus (first | omega | assumption)); (focus (first | omega | assumption)))
    | ((with_reducible refine evb (eqIntSS _ _ ?_ ?_) ?_); (focus (first | omega | assumption)); (focus (first | omega | assumption)))
    | (refine evp ?_ ?_; focus (first | omega | (simp; done)))
    | (refine evn ?_ ?_; focus (first | omega | (simp; done)))
    | (with_reducible refine Ev.step (fun k => laws_FnExactTeachingSet.j0.eq_2 ..) ?_)
    | (with_reducible refine Ev.step (fun k => laws_FnExactTeachingSet.j1.eq_2 ..) ?_)
    | (with_reducible refine Ev.step (fun k => laws_FnExactTeachingSet.j2.eq_2 ..) ?_)
    )
  · exact evp (by omega) (evs rfl)

end Go.Proofs.Ytddpdeoflaigeaa.LFnExactTeachingSet
