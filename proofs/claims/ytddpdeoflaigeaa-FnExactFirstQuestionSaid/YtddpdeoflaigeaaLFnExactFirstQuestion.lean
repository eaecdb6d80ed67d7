/- Own lemmas: what the printed functions of one law come to. -/
import Derived.Test.YtddpdeoflaigeaaMFnExactFirstQuestionx10
import Derived.Test.YtddpdeoflaigeaaBase
namespace Go.Proofs.Ytddpdeoflaigeaa.LFnExactFirstQuestion
open Go Go.RowKit Go.Proofs.Ytddpdeoflaigeaa.Base Go.Proofs.Ytddpdeoflaigeaa.PFnExactFirstQuestion Go.Proofs.YtddpdeoflaigeaaW.PrintWords Go.Proofs.YtddpdeoflaigeaaW.PrintLast Go.Proofs.YtddpdeoflaigeaaW.PrintMore
set_option linter.unusedVariables false
set_option linter.unusedSimpArgs false
set_option maxRecDepth 4000

/-! ### laws_toIntS -/
theorem toIntS_l0 (x0 : List Int) (hx : x0.length < 4611686018427387904) : ∀ (d i : Nat) (x3 : List Int), i + d = x0.length → x3.length = x0.length →
    Ev (fun k => laws_toIntS.l0 k x0 x3 (i : Int)) (x3.take i ++ x0.drop i) := by
  intro d
  induction d with
  | zero =>
    intro i x3 hi hl
    refine Ev.step (fun k => laws_toIntS.l0.eq_2 ..) (evn (by omega) (evs ?_))
    simp [List.take_of_length_le (show x3.length ≤ i by omega), List.drop_of_length_le (show x0.length ≤ i by omega)]
  | succ d ih =>
    intro i x3 hi hl
    refine Ev.step (fun k => laws_toIntS.l0.eq_2 ..) (evp (by omega) (evp (by omega) (evp (by omega) ?_)))
    rw [w64s i (by omega), rd_nat]
    refine evr (ih (i + 1) _ (by omega) (by simpa using hl)) ?_
    rw [Int.toNat_natCast, set_take _ _ _ (by omega), List.drop_eq_getElem_cons (show i < x0.length by omega), List.append_assoc]
    simp [List.getD_eq_getElem?_getD, List.getElem?_eq_getElem (show i < x0.length by omega)]
theorem toIntS (l : List Int) (h : l.length ≤ 35184372088832) : Ev (fun k => laws_toIntS.f k l) l := by
  unfold laws_toIntS.f
  refine evp (by omega) (evp (by simpa using h) ?_)
  refine evr (toIntS_l0 l (by omega) l.length 0 _ (by omega) (by simp)) (by simp)

/-! ### laws_eqIntS -/
theorem eqIntS_l0 (a b : List Int) (hl : a.length = b.length) (hx : a.length < 4611686018427387904) : ∀ (d i : Nat), i + d = a.length →
    Ev (fun k => laws_eqIntS.l0 k a b (i : Int)) (decide (a.drop i = b.drop i)) := by
  intro d
  induction d with
  | zero =>
    intro i hi
    refine Ev.step (fun k => laws_eqIntS.l0.eq_2 ..) (evn (by omega) (evs ?_))
    simp [List.drop_of_length_le (show a.length ≤ i by omega), List.drop_of_length_le (show b.length ≤ i by omega)]
  | succ d ih =>
    intro i hi
    refine Ev.step (fun k => laws_eqIntS.l0.eq_2 ..) (evp (by omega) (evp (by omega) (evp (by omega) ?_)))
    rw [w64s i (by omega), rd_nat, rd_nat]
    have ea := List.drop_eq_getElem_cons (show i < a.length by omega)
    have eb := List.drop_eq_getElem_cons (show i < b.length by omega)
    simp only [List.getD_eq_getElem?_getD, List.getElem?_eq_getElem (show i < a.length by omega), List.getElem?_eq_getElem (show i < b.length by omega), Option.getD_some]
    by_cases e : a[i] = b[i]
    · refine evp e (evr (ih (i + 1) (by omega)) ?_)
      rw [ea, eb, e]; simp only [List.cons.injEq, true_and]
    · refine evn e (evs ?_)
      rw [ea, eb]; simp only [List.cons.injEq, e, false_and, decide_false]
theorem eqIntS (a b : List Int) (hx : a.length < 4611686018427387904) : Ev (fun k => laws_eqIntS.f k a b) (decide (a = b)) := by
  unfold laws_eqIntS.f
  by_cases h : a.length = b.length
  · refine evp (by omega) (evr (eqIntS_l0 a b h hx a.length 0 (by omega)) (by simp))
  · refine evn (by omega) (evs ?_)
    have : a ≠ b := fun e => h (by rw [e])
    simp [this]

/-! ### spec_l1In -/
theorem l1In (a b c : Int) : spec_l1In.f a b c = some (decide (b ≤ a ∧ a ≤ c)) := by
  unfold spec_l1In.f; split <;> simp_all <;> omega

/-! ### impl_within -/
theorem within (a b c : Int) : impl_within.f a b c = some (decide (b ≤ a ∧ a ≤ c)) := by
  unfold impl_within.f; split <;> simp_all <;> omega

/-! ### laws_szIntS -/
theorem szIntS (l : List Int) (m : Int) (h0 : 0 ≤ m) (hm : m ≤ 1048576) (hl : l.length ≤ maxLen) : laws_szIntS.f l m = some (if (l.length : Int) ≤ m then m - l.length else -1) := by
  unfold maxLen at hl
  unfold laws_szIntS.f
  rw [w64 (x := m - (l.length : Int)) (by omega) (by omega)]
  by_cases h : (l.length : Int) ≤ m
  · rw [if_neg (by omega), if_pos h]
  · rw [if_pos (by omega), if_neg h]

/-! ### laws_szIntSS laws_szIntS -/
theorem rdL_nat (l : List (List Int)) (i : Nat) : rd_L1 l (i : Int) = rdl l i := by simp [rd_L1, rdl]
theorem szIntSS_l0 (l : List (List Int)) (hl : l.length ≤ 1048576) (hr : ∀ r ∈ l, r.length ≤ maxLen) : ∀ (d i : Nat) (m : Int), i + d = l.length → 0 ≤ m → m ≤ 1048576 →
    Ev (fun k => laws_szIntSS.l0 k l m (i : Int)) (rowsz (l.drop i) m) := by
  intro d
  induction d with
  | zero =>
    intro i m hi h0 hm
    exact Ev.step (fun k => laws_szIntSS.l0.eq_2 ..) (evn (by omega) (evs (by rw [List.drop_of_length_le (show l.length ≤ i by omega)]; rfl)))
  | succ d ih =>
    intro i m hi h0 hm
    refine Ev.step (fun k => laws_szIntSS.l0.eq_2 ..) (evp (by omega) (evp (by omega) ?_))
    rw [rdL_nat, szIntS _ m h0 hm (hr _ (rdl_mem l i (by omega))), w64s i (by omega), rdl_drop l i (by omega)]
    simp only [Option.bind_some, rowsz]
    by_cases e : ((rdl l i).length : Int) ≤ m
    · rw [if_pos e, if_pos e]
      exact evn (by omega) (ih (i + 1) _ (by omega) (by omega) (by omega))
    · rw [if_neg e, if_neg e]
      exact evp (by omega) (evs rfl)
theorem szIntSS (l : List (List Int)) (m : Int) (h0 : 0 ≤ m) (hm : m ≤ 1048576) (hl : l.length ≤ maxLen) (hr : ∀ r ∈ l, r.length ≤ maxLen) : Ev (fun k => laws_szIntSS.f k l m) (szv l m) := by
  unfold maxLen at hl
  unfold laws_szIntSS.f szv
  rw [w64 (x := m - (l.length : Int)) (by omega) (by omega)]
  by_cases e : (l.length : Int) ≤ m
  · rw [if_pos e]
    exact evn (by omega) (evr (szIntSS_l0 l (by omega) hr l.length 0 _ (by omega) (by omega) (by omega)) (by simp))
  · rw [if_neg e]; exact evp (by omega) (evs rfl)

/-! ### laws_toIntSS laws_toIntS laws_szIntSS -/
theorem toIntSS_l0 (x0 : List (List Int)) (hx : x0.length ≤ 1048576) (hr : ∀ r ∈ x0, (r.length : Int) ≤ 1048576) : ∀ (d i : Nat) (x3 : List (List Int)), i + d = x0.length → x3.length = x0.length →
    Ev (fun k => laws_toIntSS.l0 k x0 x3 (i : Int)) (x3.take i ++ x0.drop i) := by
  intro d
  induction d with
  | zero =>
    intro i x3 hi hl
    refine Ev.step (fun k => laws_toIntSS.l0.eq_2 ..) (evn (by omega) (evs ?_))
    simp [List.take_of_length_le (show x3.length ≤ i by omega), List.drop_of_length_le (show x0.length ≤ i by omega)]
  | succ d ih =>
    intro i x3 hi hl
    have := hr _ (rdl_mem x0 i (by omega))
    refine Ev.step (fun k => laws_toIntSS.l0.eq_2 ..) (evp (by omega) (evp (by omega) ?_))
    rw [w64s i (by omega), rdL_nat]
    refine evb (toIntS _ (by omega)) (evp (by omega) ?_)
    refine evr (ih (i + 1) _ (by omega) (by simpa using hl)) ?_
    rw [Int.toNat_natCast, setl_take _ _ _ (by omega), rdl_drop x0 i (by omega), List.append_assoc]; rfl
theorem toIntSS (l : List (List Int)) (h : l.length ≤ 1048576) (hr : ∀ r ∈ l, (r.length : Int) ≤ 1048576) : Ev (fun k => laws_toIntSS.f k l) l := by
  unfold laws_toIntSS.f
  refine evp (by omega) (evp (by omega) ?_)
  refine evr (toIntSS_l0 l (by omega) hr l.length 0 _ (by omega) (by simp)) (by simp)

/-! ### laws_eqIntSS laws_eqIntS laws_szIntSS -/
theorem eqIntSS_l0 (a b : List (List Int)) (hl : a.length = b.length) (hx : a.length ≤ 1048576) (hr : ∀ r ∈ a, (r.length : Int) ≤ 1048576) : ∀ (d i : Nat), i + d = a.length →
    Ev (fun k => laws_eqIntSS.l0 k a b (i : Int)) (decide (a.drop i = b.drop i)) := by
  intro d
  induction d with
  | zero =>
    intro i hi
    refine Ev.step (fun k => laws_eqIntSS.l0.eq_2 ..) (evn (by omega) (evs ?_))
    simp [List.drop_of_length_le (show a.length ≤ i by omega), List.drop_of_length_le (show b.length ≤ i by omega)]
  | succ d ih =>
    intro i hi
    have := hr _ (rdl_mem a i (by omega))
    refine Ev.step (fun k => laws_eqIntSS.l0.eq_2 ..) (evp (by omega) (evp (by omega) (evp (by omega) ?_)))
    rw [w64s i (by omega), rdL_nat, rdL_nat]
    refine evb (eqIntS _ _ (by omega)) ?_
    rw [rdl_drop a i (by omega), rdl_drop b i (by omega)]
    by_cases e : rdl a i = rdl b i
    · refine evp (by simpa using e) (evr (ih (i + 1) (by omega)) ?_)
      rw [e]; simp only [List.cons.injEq, true_and]
    · refine evn (by simpa using e) (evs ?_)
      simp only [List.cons.injEq, e, false_and, decide_false]
theorem eqIntSS (a b : List (List Int)) (hx : a.length ≤ 1048576) (hr : ∀ r ∈ a, (r.length : Int) ≤ 1048576) : Ev (fun k => laws_eqIntSS.f k a b) (decide (a = b)) := by
  unfold laws_eqIntSS.f
  by_cases h : a.length = b.length
  · refine evp (by omega) (evr (eqIntSS_l0 a b h hx hr a.length 0 (by omega)) (by simp))
  · refine evn (by omega) (evs ?_)
    have : a ≠ b := fun e => h (by rw [e])
    simp [this]

/-! ### spec_l2Labels -/
theorem l2Labels_l0 (l : List Int) (hx : l.length < 4611686018427387904) : ∀ (d i : Nat), i + d = l.length →
    Ev (fun k => spec_l2Labels.l0 k l (i : Int)) (labB (l.drop i)) := by
  intro d
  induction d with
  | zero =>
    intro i hi
    exact Ev.step (fun k => spec_l2Labels.l0.eq_2 ..) (evn (by omega) (evs (by rw [List.drop_of_length_le (show l.length ≤ i by omega)]; rfl)))
  | succ d ih =>
    intro i hi
    refine Ev.step (fun k => spec_l2Labels.l0.eq_2 ..) (evp (by omega) (evp (by omega) ?_))
    rw [w64s i (by omega), rd_nat, List.drop_eq_getElem_cons (show i < l.length by omega)]
    simp only [List.getD_eq_getElem?_getD, List.getElem?_eq_getElem (show i < l.length by omega), Option.getD_some, labB, List.all_cons]
    by_cases e : l[i] = 1
    · exact evp e (evr (ih (i + 1) (by omega)) (by rw [decide_eq_true (.inl e)]; rfl))
    · refine evn e ?_
      by_cases e' : l[i] = -1
      · exact evp e' (evr (ih (i + 1) (by omega)) (by rw [decide_eq_true (.inr e')]; rfl))
      · exact evn e' (evs (by rw [decide_eq_false (fun h => h.elim e e')]; rfl))
theorem l2Labels (l : List Int) (hx : l.length < 4611686018427387904) : Ev (fun k => spec_l2Labels.f k l) (labB l) := by
  unfold spec_l2Labels.f
  exact l2Labels_l0 l hx l.length 0 (by omega)

/-! ### impl_isLabel -/
theorem isLabel (x : Int) : impl_isLabel.f x = some (decide (x = 1 ∨ x = -1)) := by
  unfold impl_isLabel.f
  by_cases e : x = 1
  · rw [if_pos e, decide_eq_true (.inl e)]
  · rw [if_neg e]; congr 1; rw [Bool.eq_iff_iff]; simp [e]

/-! ### impl_areLabels -/
theorem areLabels_l0 (l : List Int) (hx : l.length < 4611686018427387904) : ∀ (d i : Nat), i + d = l.length →
    Ev (fun k => impl_areLabels.l0 k l (l.length : Int) (i : Int)) (labB (l.drop i)) := by
  intro d
  induction d with
  | zero =>
    intro i hi
    exact Ev.step (fun k => impl_areLabels.l0.eq_2 ..) (evn (by omega) (evs (by rw [List.drop_of_length_le (show l.length ≤ i by omega)]; rfl)))
  | succ d ih =>
    intro i hi
    refine Ev.step (fun k => impl_areLabels.l0.eq_2 ..) (evp (by omega) (evp (by omega) (evp (by omega) ?_)))
    rw [w64s i (by omega), rd_nat, isLabel, List.drop_eq_getElem_cons (show i < l.length by omega)]
    simp only [List.getD_eq_getElem?_getD, List.getElem?_eq_getElem (show i < l.length by omega), Option.getD_some, Option.bind_some, labB, List.all_cons]
    by_cases e : l[i] = 1 ∨ l[i] = -1
    · exact evp (by simpa using e) (evr (ih (i + 1) (by omega)) (by rw [decide_eq_true e]; rfl))
    · exact evn (by simpa using e) (evs (by rw [decide_eq_false e]; rfl))
theorem areLabels (l : List Int) (hx : l.length < 4611686018427387904) : Ev (fun k => impl_areLabels.f k l) (labB l) := by
  unfold impl_areLabels.f
  exact areLabels_l0 l hx l.length 0 (by omega)

/-! ### spec_l7Before -/
theorem l7Before_l0 (a b : List Int) (hl : a.length = b.length) (hx : a.length < 4611686018427387904) : ∀ (d i : Nat), i + d = a.length →
    Ev (fun k => spec_l7Before.l0 k a b (i : Int)) (lexB (a.drop i) (b.drop i)) := by
  intro d
  induction d with
  | zero =>
    intro i hi
    exact Ev.step (fun k => spec_l7Before.l0.eq_2 ..) (evn (by omega) (evs (by rw [List.drop_of_length_le (show a.length ≤ i by omega)]; rfl)))
  | succ d ih =>
    intro i hi
    refine Ev.step (fun k => spec_l7Before.l0.eq_2 ..) (evp (by omega) (evp (by omega) (evp (by omega) ?_)))
    rw [w64s i (by omega), rd_nat, rd_nat, List.drop_eq_getElem_cons (show i < a.length by omega), List.drop_eq_getElem_cons (show i < b.length by omega)]
    simp only [List.getD_eq_getElem?_getD, List.getElem?_eq_getElem (show i < a.length by omega), List.getElem?_eq_getElem (show i < b.length by omega), Option.getD_some, lexB]
    by_cases e : a[i] = b[i]
    · exact evp e (evr (ih (i + 1) (by omega)) (by rw [if_pos e]))
    · exact evn e (evs (by rw [if_neg e]))
theorem l7Before (a b : List Int) (hl : a.length = b.length) (hx : a.length < 4611686018427387904) : Ev (fun k => spec_l7Before.f k a b) (lexB a b) := by
  unfold spec_l7Before.f
  exact l7Before_l0 a b hl hx a.length 0 (by omega)

/-! ### cmp_Compare_int -/
theorem compareInt (a b : Int) : cmp_Compare_int.f a b = some (if a < b then -1 else if a > b then 1 else 0) := by
  unfold cmp_Compare_int.f cmp_isNaN_int.f
  simp only [bne_self_eq_false, Option.bind_some, Bool.false_eq_true, if_false]
  split
  · rfl
  · split <;> rfl

/-! ### slices_Compare_int_int cmp_Compare_int -/
theorem compareL_l0 (a b : List Int) (hx : a.length < 4611686018427387904) : ∀ (d i : Nat), i + d = a.length → i ≤ b.length →
    Ev (fun k => slices_Compare_int_int.l0 k a b a (a.length : Int) (i : Int)) (cmpv (a.drop i) (b.drop i)) := by
  intro d
  induction d with
  | zero =>
    intro i hi hb
    refine Ev.step (fun k => slices_Compare_int_int.l0.eq_2 ..) (evn (by omega) ?_)
    rw [List.drop_of_length_le (show a.length ≤ i by omega)]
    by_cases e : a.length < b.length
    · refine evp (by omega) (evs ?_)
      rw [List.drop_eq_getElem_cons (show i < b.length by omega)]; rfl
    · refine evn (by omega) (evs ?_)
      rw [List.drop_of_length_le (show b.length ≤ i by omega)]; rfl
  | succ d ih =>
    intro i hi hb
    refine Ev.step (fun k => slices_Compare_int_int.l0.eq_2 ..) (evp (by omega) (evp (by omega) (evp (by omega) ?_)))
    rw [List.drop_eq_getElem_cons (show i < a.length by omega)]
    by_cases e : i ≥ b.length
    · refine evp (by omega) (evs ?_)
      rw [List.drop_of_length_le (show b.length ≤ i by omega)]; rfl
    · refine evn (by omega) (evp (by omega) ?_)
      rw [rd_nat, rd_nat, compareInt, w64s i (by omega), List.drop_eq_getElem_cons (show i < b.length by omega)]
      simp only [List.getD_eq_getElem?_getD, List.getElem?_eq_getElem (show i < a.length by omega), List.getElem?_eq_getElem (show i < b.length by omega), Option.getD_some, Option.bind_some, cmpv]
      by_cases e1 : a[i] < b[i]
      · rw [if_pos e1]; exact evn (by decide) (evs (by rw [if_pos e1]))
      · rw [if_neg e1]
        by_cases e2 : a[i] > b[i]
        · rw [if_pos e2]; exact evn (by decide) (evs (by rw [if_neg e1, if_pos e2]))
        · rw [if_neg e2]; exact evp rfl (evr (ih (i + 1) (by omega) (by omega)) (by rw [if_neg e1, if_neg e2]))
theorem compareL (a b : List Int) (hx : a.length < 4611686018427387904) : Ev (fun k => slices_Compare_int_int.f k a b) (cmpv a b) := by
  unfold slices_Compare_int_int.f
  exact compareL_l0 a b hx a.length 0 (by omega) (by omega)

/-! ### spec_l7Class -/
theorem rdL_nat' (l : List (List Int)) (i : Nat) : rd_L1 l (i : Int) = rdl l i := by simp [rd_L1, rdl]
theorem l7Class_l0 (l : List (List Int)) (hx : l.length ≤ 1048576) (hr : ∀ r ∈ l, (r.length : Int) ≤ 1048576) : ∀ (d i : Nat), i + d = l.length → (0 < i → (rdl l (i - 1)).length = (rdl l 0).length) →
    Ev (fun k => spec_l7Class.l0 k l (i : Int)) ((List.range' i d).all (rowok l) && decide (1 ≤ l.length ∧ l.length ≤ 256)) := by
  intro d
  induction d with
  | zero =>
    intro i hi _
    refine Ev.step (fun k => spec_l7Class.l0.eq_2 ..) (evn (by omega) (evb (evc (l1In ..)) (evs ?_)))
    rw [show (List.range' i 0).all (rowok l) = true by simp, Bool.true_and]
    exact decide_eq_decide.2 (by omega)
  | succ d ih =>
    intro i hi hp
    have hri := hr _ (rdl_mem l i (by omega))
    have no : rowok l i = false → ((List.range' i (d + 1)).all (rowok l) && decide (1 ≤ l.length ∧ l.length ≤ 256)) = false := by
      intro e; rw [List.range'_succ, List.all_cons, e]; rfl
    refine Ev.step (fun k => spec_l7Class.l0.eq_2 ..) (evp (by omega) (evp (by omega) ?_))
    rw [rdL_nat', show rd_L1 l 0 = rdl l 0 from rdL_nat' l 0]
    by_cases e1 : (rdl l i).length ≤ 8
    · refine evn (by omega) (evp (by omega) ?_)
      by_cases e2 : (rdl l i).length = (rdl l 0).length
      · refine evp (by omega) (evb (l2Labels _ (by omega)) (Ev.step (fun k => spec_l7Class.j1.eq_2 ..) ?_))
        by_cases e3 : labB (rdl l i) = true
        · refine evn (by simp [e3]) ?_
          rw [w64s i (by omega)]
          by_cases e0 : 0 < i
          · refine evp (by omega) ?_
            have hpi := hp e0
            have hrp := hr _ (rdl_mem l (i - 1) (by omega))
            rw [w64 (x := (i : Int) - 1) (by omega) (by omega), show (i : Int) - 1 = ((i - 1 : Nat) : Int) by omega, rdL_nat', rdL_nat']
            refine evp (by omega) (evp (by omega) (evp (by omega) (evp (by omega) (evb (l7Before _ _ (by omega) (by omega)) ?_))))
            by_cases e4 : lexB (rdl l (i - 1)) (rdl l i) = true
            · refine evp e4 (evr (ih (i + 1) (by omega) (fun _ => e2)) ?_)
              rw [List.range'_succ, List.all_cons, show rowok l i = true by unfold rowok; rw [decide_eq_true e1, decide_eq_true e2, e3, e4]; simp]; rfl
            · refine evn e4 (evs (no ?_).symm)
              unfold rowok; rw [Bool.eq_false_iff.2 e4, decide_eq_false (show ¬ i = 0 by omega)]; simp
          · obtain rfl : i = 0 := by omega
            refine evn (by omega) (evr (ih 1 (by omega) (fun _ => rfl)) ?_)
            rw [List.range'_succ, List.all_cons, show rowok l 0 = true by unfold rowok; rw [decide_eq_true e1, decide_eq_true e2, e3]; simp]; rfl
        · refine evp (by simp [e3]) (evs (no ?_).symm)
          unfold rowok; rw [Bool.eq_false_iff.2 e3]; simp
      · refine evn (by omega) (Ev.step (fun k => spec_l7Class.j1.eq_2 ..) (evp rfl (evs (no ?_).symm)))
        unfold rowok; rw [decide_eq_false e2]; simp
    · refine evp (by omega) (Ev.step (fun k => spec_l7Class.j1.eq_2 ..) (evp rfl (evs (no ?_).symm)))
      unfold rowok; rw [decide_eq_false e1]; simp
theorem l7Class (l : List (List Int)) (hx : l.length ≤ 1048576) (hr : ∀ r ∈ l, (r.length : Int) ≤ 1048576) : Ev (fun k => spec_l7Class.f k l) (classB l) := by
  unfold spec_l7Class.f classB
  refine evr (l7Class_l0 l hx hr l.length 0 (by omega) (fun h => by omega)) ?_
  rw [List.range_eq_range', Bool.and_comm]

/-! ### impl_IsClass -/
theorem rdL_nat'' (l : List (List Int)) (i : Nat) : rd_L1 l (i : Int) = rdl l i := by simp [rd_L1, rdl]
theorem iClass_l0 (l : List (List Int)) (hx : l.length ≤ 256) (hr : ∀ r ∈ l, (r.length : Int) ≤ 1048576) (h8 : (rdl l 0).length ≤ 8) : ∀ (d i : Nat), i + d = l.length → (0 < i → (rdl l (i - 1)).length = (rdl l 0).length) →
    Ev (fun k => impl_IsClass.l0 k l l (l.length : Int) (i : Int)) ((List.range' i d).all (rowok l)) := by
  intro d
  induction d with
  | zero =>
    intro i hi _
    exact Ev.step (fun k => impl_IsClass.l0.eq_2 ..) (evn (by omega) (evs (by simp)))
  | succ d ih =>
    intro i hi hp
    have hri := hr _ (rdl_mem l i (by omega))
    have no : rowok l i = false → (List.range' i (d + 1)).all (rowok l) = false := by
      intro e; rw [List.range'_succ, List.all_cons, e]; rfl
    refine Ev.step (fun k => impl_IsClass.l0.eq_2 ..) (evp (by omega) (evp (by omega) (evp (by omega) (evp (by omega) ?_))))
    rw [rdL_nat'', show rd_L1 l 0 = rdl l 0 from rdL_nat'' l 0]
    by_cases e2 : (rdl l i).length = (rdl l 0).length
    · refine evp (by omega) (evb (areLabels _ (by omega)) ?_)
      by_cases e3 : labB (rdl l i) = true
      · refine evp e3 ?_
        rw [w64s i (by omega)]
        by_cases e0 : 0 < i
        · refine evp (by omega) ?_
          have hpi := hp e0
          have hrp := hr _ (rdl_mem l (i - 1) (by omega))
          rw [w64 (x := (i : Int) - 1) (by omega) (by omega), show (i : Int) - 1 = ((i - 1 : Nat) : Int) by omega, rdL_nat'']
          refine evp (by omega) (evp (by omega) (evb (compareL _ _ (by omega)) ?_))
          have hc := cmp_lex (rdl l (i - 1)) (rdl l i) (by omega)
          by_cases e4 : lexB (rdl l (i - 1)) (rdl l i) = true
          · refine evn (fun h => by rw [hc.1 h] at e4; cases e4) (evr (ih (i + 1) (by omega) (fun _ => e2)) ?_)
            rw [List.range'_succ, List.all_cons, show rowok l i = true by unfold rowok; rw [decide_eq_true (show (rdl l i).length ≤ 8 by omega), decide_eq_true e2, e3, e4]; simp]; rfl
          · refine evp (hc.2 (Bool.eq_false_iff.2 e4)) (evs (no ?_).symm)
            unfold rowok; rw [Bool.eq_false_iff.2 e4, decide_eq_false (show ¬ i = 0 by omega)]; simp
        · obtain rfl : i = 0 := by omega
          refine evn (by omega) (evr (ih 1 (by omega) (fun _ => rfl)) ?_)
          rw [List.range'_succ, List.all_cons, show rowok l 0 = true by unfold rowok; rw [decide_eq_true h8, decide_eq_true e2, e3]; simp]; rfl
      · refine evn e3 (evs (no ?_).symm)
        unfold rowok; rw [Bool.eq_false_iff.2 e3]; simp
    · refine evn (by omega) (evs (no ?_).symm)
      unfold rowok; rw [decide_eq_false e2]; simp
theorem iIsClass (l : List (List Int)) (hx : l.length ≤ 1048576) (hr : ∀ r ∈ l, (r.length : Int) ≤ 1048576) : Ev (fun k => impl_IsClass.f k l) (classB l) := by
  unfold impl_IsClass.f classB
  rw [within]; simp only [Option.bind_some]
  by_cases e : 1 ≤ l.length ∧ l.length ≤ 256
  · refine evp (by simp; omega) (evp (by omega) (Ev.step (fun k => impl_IsClass.j0.eq_2 ..) ?_))
    rw [show rd_L1 l 0 = rdl l 0 from rdL_nat'' l 0, decide_eq_true e, Bool.true_and]
    by_cases h8 : (rdl l 0).length ≤ 8
    · refine evn (by simp; omega) (evr (iClass_l0 l e.2 hr h8 l.length 0 (by omega) (fun h => by omega)) ?_)
      rw [List.range_eq_range']
    · refine evp (by simp; omega) (evs ?_)
      obtain ⟨n, hn⟩ : ∃ n, l.length = n + 1 := ⟨l.length - 1, by omega⟩
      rw [hn, List.range_eq_range', List.range'_succ, List.all_cons, show rowok l 0 = false by unfold rowok; rw [decide_eq_false h8]; rfl]; rfl
  · exact evn (by simp; omega) (Ev.step (fun k => impl_IsClass.j0.eq_2 ..) (evp rfl (evs (by rw [decide_eq_false e]; rfl))))

/-! ### spec_l7Counts -/
/-- The digit of a number in the base 3. -/
def dg (c k : Nat) : Nat := c / 3 ^ k % 3
theorem dg_lt (c k : Nat) : dg c k < 3 := Nat.mod_lt _ (by decide)
theorem dg_put (c k d : Nat) (h : dg c k = 0) (hd : d < 3) (j : Nat) : dg (c + d * 3 ^ k) j = if j = k then d else dg c j := by
  unfold dg at *
  have h3 : ∀ n, 0 < 3 ^ n := fun n => Nat.pow_pos (by decide)
  rcases Nat.lt_trichotomy j k with hj | hj | hj
  · rw [if_neg (by omega)]
    obtain ⟨e, rfl⟩ : ∃ e, k = j + 1 + e := ⟨k - j - 1, by omega⟩
    have : d * 3 ^ (j + 1 + e) = 3 ^ j * (3 * (d * 3 ^ e)) := by
      rw [Nat.pow_add, Nat.pow_succ]; simp only [Nat.mul_comm, Nat.mul_left_comm, Nat.mul_assoc]
    rw [this, Nat.add_mul_div_left _ _ (h3 j), Nat.add_mul_mod_self_left]
  · subst hj
    rw [if_pos rfl, Nat.add_mul_div_right _ _ (h3 j)]
    omega
  · rw [if_neg (by omega)]
    obtain ⟨e, rfl⟩ : ∃ e, j = k + 1 + e := ⟨j - k - 1, by omega⟩
    have e1 : ∀ x, x / 3 ^ (k + 1 + e) = x / 3 ^ k / 3 / 3 ^ e := by
      intro x
      rw [Nat.div_div_eq_div_mul, Nat.div_div_eq_div_mul, Nat.pow_add, Nat.pow_succ, Nat.mul_assoc]
    rw [e1, e1, Nat.add_mul_div_right _ _ (h3 k)]
    congr 2
    omega
theorem dg_lt_pow (m c k d : Nat) (hc : c < 3 ^ m) (hk : k < m) (h : dg c k = 0) (hd : d < 3) : c + d * 3 ^ k < 3 ^ m := by
  unfold dg at h
  have h3 : ∀ n, 0 < 3 ^ n := fun n => Nat.pow_pos (by decide)
  obtain ⟨e, rfl⟩ : ∃ e, m = k + 1 + e := ⟨m - k - 1, by omega⟩
  have h1 := Nat.div_add_mod c (3 ^ k)
  have h2 := Nat.mod_lt c (h3 k)
  have h4 : c / 3 ^ k < 3 * 3 ^ e := by
    rw [Nat.div_lt_iff_lt_mul (h3 k)]
    rw [Nat.pow_add, Nat.pow_succ] at hc
    rw [Nat.mul_comm 3, Nat.mul_assoc, Nat.mul_comm 3, Nat.mul_comm (3 ^ e)]
    exact hc
  have h5 : c / 3 ^ k + d + 1 ≤ 3 * 3 ^ e := by omega
  have h6 : 3 ^ k * (c / 3 ^ k + d + 1) ≤ 3 ^ k * (3 * 3 ^ e) := Nat.mul_le_mul_left _ h5
  rw [Nat.mul_add, Nat.mul_add, Nat.mul_one] at h6
  have h7 : 3 ^ (k + 1 + e) = 3 ^ k * (3 * 3 ^ e) := by rw [Nat.pow_add, Nat.pow_succ, Nat.mul_assoc]
  rw [h7, Nat.mul_comm d]
  omega
/-- A row agrees with what is told. -/
def agr (m : Nat) (r : List Int) (c : Nat) : Bool := (List.range m).all fun k => dg c k == 0 || ((dg c k == 2) == (r.getD k 0 == 1))
theorem agr_iff (m : Nat) (r : List Int) (c : Nat) : agr m r c = true ↔ ∀ k, k < m → dg c k = 0 ∨ (dg c k = 2 ↔ r.getD k 0 = 1) := by
  unfold agr
  rw [List.all_eq_true]
  constructor
  · intro h k hk
    have := h k (List.mem_range.2 hk)
    rcases Bool.or_eq_true _ _ ▸ this with h1 | h1
    · exact .inl (by simpa using h1)
    · right; have h2 := eq_of_beq h1
      constructor
      · intro h3; rw [h3] at h2; simpa using h2.symm
      · intro h3; rw [h3] at h2; simpa using h2
  · intro h k hk
    rcases h k (List.mem_range.1 hk) with h1 | h1
    · simp [h1]
    · by_cases h2 : dg c k = 2
      · have e1 : (dg c k == 2) = true := beq_iff_eq.2 h2
        have e2 : (r.getD k 0 == 1) = true := beq_iff_eq.2 (h1.1 h2)
        rw [e1, e2]; simp
      · have h3 : ¬ (r.getD k 0 = 1) := fun h => h2 (h1.2 h)
        have e1 : (dg c k == 2) = false := beq_eq_false_iff_ne.2 h2
        have e2 : (r.getD k 0 == 1) = false := beq_eq_false_iff_ne.2 h3
        rw [e1, e2]; simp
theorem agr_put (m : Nat) (r : List Int) (c k d : Nat) (hk : k < m) (h : dg c k = 0) (hd : d < 3) (hd0 : d ≠ 0) : agr m r (c + d * 3 ^ k) = (agr m r c && ((d == 2) == (r.getD k 0 == 1))) := by
  apply Bool.eq_iff_iff.2
  rw [Bool.and_eq_true, agr_iff, agr_iff]
  have key : (((d == 2) == (r.getD k 0 == 1)) = true) ↔ (d = 2 ↔ r.getD k 0 = 1) := by
    generalize r.getD k 0 = x
    rw [beq_iff_eq, Bool.eq_iff_iff, beq_iff_eq, beq_iff_eq]
  rw [key]
  constructor
  · intro H
    refine ⟨fun j hj => ?_, ?_⟩
    · have := H j hj
      rw [dg_put c k d h hd] at this
      by_cases e : j = k
      · subst e; exact .inl h
      · rwa [if_neg e] at this
    · have := H k hk
      rw [dg_put c k d h hd, if_pos rfl] at this
      rcases this with h1 | h1
      · exact absurd h1 hd0
      · exact h1
  · rintro ⟨H1, H2⟩ j hj
    rw [dg_put c k d h hd]
    by_cases e : j = k
    · subst e; rw [if_pos rfl]; exact .inr H2
    · rw [if_neg e]; exact H1 j hj
/-- How many rows agree. -/
def cnt (m : Nat) (L : List (List Int)) (c : Nat) : Nat := L.countP fun r => agr m r c
theorem countP_split {α : Type} (p q : α → Bool) : ∀ l : List α, l.countP p = l.countP (fun x => p x && !q x) + l.countP (fun x => p x && q x) := by
  intro l
  induction l with
  | nil => rfl
  | cons x l ih =>
    simp only [List.countP_cons, ih]
    cases p x <;> cases q x <;> simp <;> omega
theorem cnt_split (m : Nat) (L : List (List Int)) (c k : Nat) (hk : k < m) (h : dg c k = 0) : cnt m L c = cnt m L (c + 3 ^ k) + cnt m L (c + 2 * 3 ^ k) := by
  unfold cnt
  rw [countP_split (fun r => agr m r c) (fun r => r.getD k 0 == 1) L]
  congr 1
  · apply congrArg (fun f => List.countP f L)
    funext r
    have := agr_put m r c k 1 hk h (by decide) (by decide)
    rw [Nat.one_mul] at this
    rw [this]; simp
  · apply congrArg (fun f => List.countP f L)
    funext r
    rw [agr_put m r c k 2 hk h (by decide) (by decide)]; simp
/-- How many places are not told of. -/
def zeros (m c : Nat) : Nat := (List.range m).countP fun k => dg c k == 0
theorem zeros_le (m c : Nat) : zeros m c ≤ m := by
  have := List.countP_le_length (p := fun k => dg c k == 0) (l := List.range m)
  rwa [List.length_range] at this
theorem zeros_put (m c k d : Nat) (hk : k < m) (h : dg c k = 0) (hd : d < 3) (hd0 : d ≠ 0) : zeros m c = zeros m (c + d * 3 ^ k) + 1 := by
  unfold zeros
  have e : ∀ n, (List.range n).countP (fun j => dg c j == 0) = (List.range n).countP (fun j => dg (c + d * 3 ^ k) j == 0) + if k < n then 1 else 0 := by
    intro n
    induction n with
    | zero => simp
    | succ n ih =>
      rw [List.range_succ, List.countP_append, List.countP_append, ih]
      simp only [List.countP_cons, List.countP_nil, dg_put c k d h hd]
      rcases Nat.lt_trichotomy n k with hn | hn | hn
      · rw [if_neg (show ¬ k < n by omega), if_neg (show ¬ n = k by omega), if_neg (show ¬ k < n + 1 by omega)]; omega
      · subst hn; rw [if_neg (show ¬ n < n by omega), if_pos rfl, if_pos (show n < n + 1 by omega), h]; simp [hd0]
      · rw [if_pos hn, if_neg (show ¬ n = k by omega), if_pos (show k < n + 1 by omega)]; omega
  rw [e m, if_pos hk]
/-- What a place adds to the best number. -/
def upd (ask : Bool) (best x y : Int) : Int := if ask = true then (if best < 0 ∨ 1 + max x y < best then 1 + max x y else best) else max best (1 + min x y)
def parts (m : Nat) (L : List (List Int)) (c k : Nat) : Bool := (dg c k == 0) && (decide (0 < cnt m L (c + 3 ^ k)) && decide (0 < cnt m L (c + 2 * 3 ^ k)))
theorem parts_iff (m : Nat) (L : List (List Int)) (c k : Nat) : parts m L c k = true ↔ dg c k = 0 ∧ 0 < cnt m L (c + 3 ^ k) ∧ 0 < cnt m L (c + 2 * 3 ^ k) := by
  unfold parts; simp
def num (m : Nat) (L : List (List Int)) (ask : Bool) (c : Nat) : Int :=
  if _h : c < 3 ^ m then
    if cnt m L c < 2 then 0 else
      (List.range m).foldl (fun best k => if parts m L c k = true then upd ask best (num m L ask (c + 3 ^ k)) (num m L ask (c + 2 * 3 ^ k)) else best) (-1)
  else 0
termination_by 3 ^ m - c
decreasing_by
  all_goals
    have := Nat.pow_pos (n := k) (show 0 < 3 by decide)
    omega
theorem num_big (m : Nat) (L : List (List Int)) (ask : Bool) (c : Nat) (h : c < 3 ^ m) (h2 : ¬ cnt m L c < 2) : num m L ask c = (List.range m).foldl (fun best k => if parts m L c k = true then upd ask best (num m L ask (c + 3 ^ k)) (num m L ask (c + 2 * 3 ^ k)) else best) (-1) := by
  rw [num, dif_pos h, if_neg h2]
theorem num_few (m : Nat) (L : List (List Int)) (ask : Bool) (c : Nat) (h2 : cnt m L c < 2) : num m L ask c = 0 := by
  rw [num]; split
  · rfl
  · rfl
/-- Two rows that are not alike differ at a place. -/
def Apart (m : Nat) (L : List (List Int)) : Prop := ∀ c, 2 ≤ cnt m L c → ∃ k, k < m ∧ parts m L c k = true
theorem fold_inv {α : Type} (P : Int → Prop) (f : Int → α → Int) (l : List α) (h : ∀ b, P b → ∀ x ∈ l, P (f b x)) : ∀ b, P b → P (l.foldl f b) := by
  induction l with
  | nil => intro b hb; exact hb
  | cons x l ih =>
    intro b hb
    exact ih (fun b hb y hy => h b hb y (List.mem_cons_of_mem _ hy)) _ (h b hb x List.mem_cons_self)
theorem fold_hit {α : Type} (P Q : Int → Prop) (f : Int → α → Int) (l : List α) (x : α) (hx : x ∈ l) (h : ∀ b, P b → ∀ y ∈ l, P (f b y)) (h1 : ∀ b, P b → Q (f b x)) (h2 : ∀ b, Q b → ∀ y ∈ l, Q (f b y)) : ∀ b, P b → Q (l.foldl f b) := by
  induction l with
  | nil => cases hx
  | cons y l ih =>
    intro b hb
    rcases List.mem_cons.1 hx with rfl | hx
    · exact fold_inv Q f l (fun b hb y hy => h2 b hb y (List.mem_cons_of_mem _ hy)) _ (h1 b hb)
    · exact ih hx (fun b hb y hy => h b hb y (List.mem_cons_of_mem _ hy)) (fun b hb y hy => h2 b hb y (List.mem_cons_of_mem _ hy)) _ (h b hb y List.mem_cons_self)
theorem num_bd (m : Nat) (L : List (List Int)) (ask : Bool) (hA : Apart m L) : ∀ (n c : Nat), 3 ^ m - c ≤ n → 0 ≤ num m L ask c ∧ num m L ask c ≤ zeros m c := by
  intro n
  induction n with
  | zero => intro c hc; rw [num, dif_neg (by omega)]; omega
  | succ n ih =>
    intro c hc
    by_cases h : c < 3 ^ m
    · by_cases h2 : cnt m L c < 2
      · rw [num_few _ _ _ _ h2]; omega
      · rw [num_big _ _ _ _ h h2]
        have step : ∀ k, k < m → parts m L c k = true → (0 ≤ num m L ask (c + 3 ^ k) ∧ num m L ask (c + 3 ^ k) + 1 ≤ zeros m c) ∧ (0 ≤ num m L ask (c + 2 * 3 ^ k) ∧ num m L ask (c + 2 * 3 ^ k) + 1 ≤ zeros m c) := by
          intro k hk hp
          obtain ⟨p1, p2, p3⟩ := (parts_iff ..).1 hp
          have h3 := Nat.pow_pos (n := k) (show 0 < 3 by decide)
          have e1 := ih (c + 3 ^ k) (by omega)
          have e2 := ih (c + 2 * 3 ^ k) (by omega)
          have z1 := zeros_put m c k 1 hk p1 (by decide) (by decide)
          have z2 := zeros_put m c k 2 hk p1 (by decide) (by decide)
          rw [Nat.one_mul] at z1
          omega
        obtain ⟨k, hk, hp⟩ := hA c (by omega)
        refine fold_hit (fun b => b ≤ zeros m c) (fun b => 0 ≤ b ∧ b ≤ zeros m c) _ _ k (List.mem_range.2 hk) ?_ ?_ ?_ _ (by omega)
        · intro b hb y hy
          have hy := List.mem_range.1 hy
          by_cases c1 : parts m L c y = true
          · have := step y hy c1
            rw [if_pos c1]; unfold upd; split
            · split <;> omega
            · omega
          · rw [if_neg c1]; exact hb
        · intro b hb
          have := step k hk hp
          rw [if_pos hp]; unfold upd; split
          · split <;> omega
          · omega
        · intro b hb y hy
          have hy := List.mem_range.1 hy
          by_cases c1 : parts m L c y = true
          · have := step y hy c1
            rw [if_pos c1]; unfold upd; split
            · split <;> omega
            · omega
          · rw [if_neg c1]; exact hb
    · rw [num, dif_neg h]; omega
/-- The program's way: from 0 on. -/
theorem num_most (m : Nat) (L : List (List Int)) (hA : Apart m L) (c : Nat) (h : c < 3 ^ m) : (List.range m).foldl (fun best k => if parts m L c k = true then max best (1 + min (num m L false (c + 3 ^ k)) (num m L false (c + 2 * 3 ^ k))) else best) 0 = num m L false c := by
  by_cases h2 : cnt m L c < 2
  · rw [num_few _ _ _ _ h2]
    refine fold_inv (fun b => b = 0) _ _ (fun b hb k hk => ?_) 0 rfl
    by_cases c1 : parts m L c k = true
    · obtain ⟨p1, p2, p3⟩ := (parts_iff ..).1 c1
      have := cnt_split m L c k (List.mem_range.1 hk) p1
      omega
    · rw [if_neg c1]; exact hb
  · rw [num_big _ _ _ _ h h2]
    obtain ⟨k, hk, hp⟩ := hA c (by omega)
    have key : ∀ (l : List Nat) (b : Int), l.foldl (fun best k => if parts m L c k = true then max best (1 + min (num m L false (c + 3 ^ k)) (num m L false (c + 2 * 3 ^ k))) else best) (max b 0) =
        max (l.foldl (fun best k => if parts m L c k = true then upd false best (num m L false (c + 3 ^ k)) (num m L false (c + 2 * 3 ^ k)) else best) b) 0 := by
      intro l
      induction l with
      | nil => intro b; rfl
      | cons x l ih =>
        intro b
        rw [List.foldl_cons, List.foldl_cons, ← ih]
        congr 1
        split
        · unfold upd; simp only [Bool.false_eq_true, if_false]; omega
        · rfl
    have := key (List.range m) (-1)
    rw [show max (-1 : Int) 0 = 0 by omega] at this
    rw [this, ← num_big _ _ _ _ h h2]
    have := num_bd m L false hA _ c (Nat.le_refl _)
    omega
theorem num_least (m : Nat) (L : List (List Int)) (hm : m ≤ 8) (hA : Apart m L) (c : Nat) (h : c < 3 ^ m) (h2 : ¬ cnt m L c < 2) : (List.range m).foldl (fun best k => if parts m L c k = true then min best (1 + max (num m L true (c + 3 ^ k)) (num m L true (c + 2 * 3 ^ k))) else best) 8 = num m L true c := by
  have hb := num_bd m L true hA _ c (Nat.le_refl _)
  have hz := zeros_le m c
  rw [num_big _ _ _ _ h h2] at hb ⊢
  have key : ∀ (l : List Nat) (b : Int), (∀ k ∈ l, k < m) → -1 ≤ b → l.foldl (fun best k => if parts m L c k = true then min best (1 + max (num m L true (c + 3 ^ k)) (num m L true (c + 2 * 3 ^ k))) else best) (if b < 0 then 8 else min b 8) =
      (let r := l.foldl (fun best k => if parts m L c k = true then upd true best (num m L true (c + 3 ^ k)) (num m L true (c + 2 * 3 ^ k)) else best) b; if r < 0 then 8 else min r 8) := by
    intro l
    induction l with
    | nil => intro b _ _; rfl
    | cons x l ih =>
      intro b hl hb
      rw [List.foldl_cons, List.foldl_cons]
      by_cases c1 : parts m L c x = true
      · obtain ⟨p1, p2, p3⟩ := (parts_iff ..).1 c1
        have hx := hl x List.mem_cons_self
        have e1 := num_bd m L true hA _ (c + 3 ^ x) (Nat.le_refl _)
        have e2 := num_bd m L true hA _ (c + 2 * 3 ^ x) (Nat.le_refl _)
        have z1 := zeros_put m c x 1 hx p1 (by decide) (by decide)
        have z2 := zeros_put m c x 2 hx p1 (by decide) (by decide)
        rw [Nat.one_mul] at z1
        rw [← ih _ (fun k hk => hl k (List.mem_cons_of_mem _ hk))]
        · congr 1
          rw [if_pos c1, if_pos c1]
          unfold upd
          simp only [if_true]
          generalize num m L true (c + 3 ^ x) = u at *
          generalize num m L true (c + 2 * 3 ^ x) = v at *
          by_cases c2 : b < 0
          · rw [if_pos c2, if_pos (show b < 0 ∨ 1 + max u v < b from .inl c2), if_neg (by omega)]; omega
          · rw [if_neg c2]
            by_cases c3 : 1 + max u v < b
            · rw [if_pos (show b < 0 ∨ 1 + max u v < b from .inr c3), if_neg (by omega)]; omega
            · rw [if_neg (show ¬ (b < 0 ∨ 1 + max u v < b) by omega), if_neg c2]; omega
        · rw [if_pos c1]; unfold upd; simp only [if_true]; split <;> omega
      · rw [if_neg c1, if_neg c1]
        exact ih b (fun k hk => hl k (List.mem_cons_of_mem _ hk)) hb
  have := key (List.range m) (-1) (fun k hk => List.mem_range.1 hk) (by omega)
  rw [if_pos (by omega)] at this
  rw [this]
  simp only
  rw [if_neg (by omega)]
  omega
/-- The number with given binary digits. -/
def bsum (f : Nat → Bool) : Nat → Nat
  | 0 => 0
  | n + 1 => bsum f n + if f n = true then 2 ^ n else 0
theorem bsum_lt (f : Nat → Bool) : ∀ n, bsum f n < 2 ^ n := by
  intro n
  induction n with
  | zero => simp [bsum]
  | succ n ih => simp only [bsum, Nat.pow_succ]; split <;> omega
theorem bsum_test (f : Nat → Bool) (j : Nat) : ∀ n, (bsum f n).testBit j = (decide (j < n) && f j) := by
  intro n
  induction n with
  | zero => simp [bsum]
  | succ n ih =>
    have hl := bsum_lt f n
    simp only [bsum]
    by_cases hf : f n = true
    · rw [if_pos hf, Nat.add_comm]
      rcases Nat.lt_trichotomy j n with hj | hj | hj
      · rw [Nat.testBit_two_pow_add_gt hj, ih]; simp [hj, show j < n + 1 by omega]
      · subst hj; rw [Nat.testBit_two_pow_add_eq, ih]; simp [hf]
      · rw [Nat.testBit_lt_two_pow (show 2 ^ n + bsum f n < 2 ^ j from Nat.lt_of_lt_of_le (show 2 ^ n + bsum f n < 2 ^ (n + 1) by rw [Nat.pow_succ]; omega) (Nat.pow_le_pow_right (by decide) hj))]
        simp [show ¬ j < n + 1 by omega]
    · rw [if_neg hf, Nat.add_zero, ih]
      by_cases hj : j = n
      · subst hj; simp [hf]
      · rw [show (decide (j < n + 1)) = decide (j < n) by apply decide_eq_decide.2; omega]
theorem bsum_or (f : Nat → Bool) (n i : Nat) (hi : i < n) : bsum f n ||| 2 ^ i = bsum (fun j => f j || decide (j = i)) n := by
  apply Nat.eq_of_testBit_eq
  intro j
  rw [Nat.testBit_or, bsum_test, bsum_test, Nat.testBit_two_pow]
  by_cases h : i = j
  · subst h; simp [hi]
  · simp [h, show ¬ j = i by omega]
theorem bsum_congr (f g : Nat → Bool) : ∀ n, (∀ k, k < n → f k = g k) → bsum f n = bsum g n := by
  intro n
  induction n with
  | zero => intro _; rfl
  | succ n ih => intro h; simp only [bsum]; rw [ih fun k hk => h k (by omega), h n (by omega)]
theorem bsum_and (f g h : Nat → Bool) (n : Nat) : bsum f n &&& bsum g n = bsum h n ↔ ∀ k, k < n → (f k && g k) = h k := by
  constructor
  · intro e k hk
    have := congrArg (fun x => x.testBit k) e
    simpa [Nat.testBit_and, bsum_test, hk] using this
  · intro e
    apply Nat.eq_of_testBit_eq
    intro j
    rw [Nat.testBit_and, bsum_test, bsum_test, bsum_test]
    by_cases hj : j < n
    · simp [hj, e j hj]
    · simp [hj]
def plc (m c : Nat) : Nat := bsum (fun k => !(dg c k == 0)) m
def one (m c : Nat) : Nat := bsum (fun k => dg c k == 2) m
def seto (m : Nat) (r : List Int) : Nat := bsum (fun k => r.getD k 0 == 1) m
theorem agr_set (m : Nat) (r : List Int) (c : Nat) : agr m r c = true ↔ seto m r &&& plc m c = one m c := by
  unfold seto plc one
  rw [bsum_and, agr_iff]
  constructor
  · intro h k hk
    have h3 := dg_lt c k
    rcases h k hk with h1 | h1
    · simp [h1]
    · by_cases h2 : dg c k = 2
      · have e2 : (r.getD k 0 == 1) = true := beq_iff_eq.2 (h1.1 h2)
        rw [e2]; simp [h2]
      · have e2 : (r.getD k 0 == 1) = false := beq_eq_false_iff_ne.2 (fun h => h2 (h1.2 h))
        rw [e2]; simp [h2]
  · intro h k hk
    have h1 := h k hk
    by_cases h0 : dg c k = 0
    · exact .inl h0
    · right
      rw [beq_eq_false_iff_ne.2 h0] at h1
      simp only [Bool.not_false, Bool.and_true] at h1
      constructor
      · intro h2; rw [h2] at h1; exact beq_iff_eq.1 (h1.trans rfl)
      · intro h2; rw [h2] at h1; exact beq_iff_eq.1 (h1.symm.trans rfl)
theorem plc_put (m c k d : Nat) (hk : k < m) (h : dg c k = 0) (hd : d < 3) (hd0 : d ≠ 0) : plc m c ||| 2 ^ k = plc m (c + d * 3 ^ k) := by
  unfold plc
  rw [bsum_or _ _ _ hk]
  apply bsum_congr
  intro j _
  rw [dg_put c k d h hd]
  by_cases e : j = k
  · subst e; simp [hd0]
  · simp [e]
theorem one_put1 (m c k : Nat) (h : dg c k = 0) : one m c = one m (c + 3 ^ k) := by
  unfold one
  apply bsum_congr
  intro j _
  have := dg_put c k 1 h (by decide) j
  rw [Nat.one_mul] at this
  rw [this]
  by_cases e : j = k
  · subst e; simp [h]
  · simp [e]
theorem one_put2 (m c k : Nat) (hk : k < m) (h : dg c k = 0) : one m c ||| 2 ^ k = one m (c + 2 * 3 ^ k) := by
  unfold one
  rw [bsum_or _ _ _ hk]
  apply bsum_congr
  intro j _
  rw [dg_put c k 2 h (by decide)]
  by_cases e : j = k
  · subst e; simp
  · simp [e]
theorem plc_bit (m c k : Nat) (hk : k < m) : (plc m c).testBit k = !(dg c k == 0) := by
  unfold plc; rw [bsum_test]; simp [hk]
theorem dg_zero (k : Nat) : dg 0 k = 0 := by simp [dg]
theorem bsum_none : ∀ m, bsum (fun _ => false) m = 0 := by
  intro m
  induction m with
  | zero => rfl
  | succ m ih => simp only [bsum, ih]; rfl
theorem plc_zero (m : Nat) : plc m 0 = 0 := by
  unfold plc
  rw [bsum_congr _ (fun _ => false) m (fun k _ => by rw [dg_zero]; rfl)]
  exact bsum_none m
theorem one_zero (m : Nat) : one m 0 = 0 := by
  unfold one
  rw [bsum_congr _ (fun _ => false) m (fun k _ => by rw [dg_zero]; rfl)]
  exact bsum_none m
/-- Lists of labels of one length, no two alike. -/
structure Cls (m : Nat) (L : List (List Int)) : Prop where
  len : ∀ r ∈ L, r.length = m
  lab : ∀ r ∈ L, ∀ x ∈ r, x = 1 ∨ x = -1
  nodup : L.Nodup
theorem Cls.apart {m : Nat} {L : List (List Int)} (h : Cls m L) : Apart m L := by
  intro c hc
  obtain ⟨h1, h2, h3⟩ := h
  have two : ∀ L : List (List Int), L.Nodup → 2 ≤ L.countP (fun r => agr m r c) → ∃ a b, a ∈ L ∧ b ∈ L ∧ a ≠ b ∧ agr m a c = true ∧ agr m b c = true := by
    intro L
    induction L with
    | nil => intro _ h; simp at h
    | cons x L ih =>
      intro hn h
      obtain ⟨n1, n2⟩ := List.nodup_cons.1 hn
      rw [List.countP_cons] at h
      by_cases e : agr m x c = true
      · rw [if_pos e] at h
        obtain ⟨y, hy, hya⟩ := List.countP_pos_iff.1 (show 0 < L.countP (fun r => agr m r c) by omega)
        exact ⟨x, y, List.mem_cons_self, List.mem_cons_of_mem _ hy, fun e => n1 (e ▸ hy), e, hya⟩
      · rw [if_neg e] at h
        obtain ⟨a, b, ha, hb, hab⟩ := ih n2 (by omega)
        exact ⟨a, b, List.mem_cons_of_mem _ ha, List.mem_cons_of_mem _ hb, hab⟩
  obtain ⟨a, b, ha, hb, hab, ga, gb⟩ := two L h3 hc
  have hd : ∃ k, k < m ∧ a.getD k 0 ≠ b.getD k 0 := by
    refine Classical.byContradiction fun hn => hab (List.ext_getElem ((h1 a ha).trans (h1 b hb).symm) fun i i1 i2 => ?_)
    have : ¬ a.getD i 0 ≠ b.getD i 0 := fun e => hn ⟨i, by have := h1 a ha; omega, e⟩
    simpa [List.getD_eq_getElem?_getD, List.getElem?_eq_getElem i1, List.getElem?_eq_getElem i2] using Classical.not_not.1 this
  obtain ⟨k, hk, hne⟩ := hd
  have h0 : dg c k = 0 := by
    have p1 := (agr_iff ..).1 ga k hk
    have p2 := (agr_iff ..).1 gb k hk
    rcases p1 with p1 | p1
    · exact p1
    rcases p2 with p2 | p2
    · exact p2
    have la := h2 a ha (a.getD k 0) (by rw [List.getD_eq_getElem?_getD, List.getElem?_eq_getElem (by rw [h1 a ha]; exact hk)]; exact List.getElem_mem _)
    have lb := h2 b hb (b.getD k 0) (by rw [List.getD_eq_getElem?_getD, List.getElem?_eq_getElem (by rw [h1 b hb]; exact hk)]; exact List.getElem_mem _)
    exfalso
    by_cases e : dg c k = 2
    · exact hne ((p1.1 e).trans (p2.1 e).symm)
    · have e1 : ¬ a.getD k 0 = 1 := fun h => e (p1.2 h)
      have e2 : ¬ b.getD k 0 = 1 := fun h => e (p2.2 h)
      omega
  refine ⟨k, hk, (parts_iff ..).2 ⟨h0, ?_, ?_⟩⟩
  · have la := h2 a ha (a.getD k 0) (by rw [List.getD_eq_getElem?_getD, List.getElem?_eq_getElem (by rw [h1 a ha]; exact hk)]; exact List.getElem_mem _)
    have lb := h2 b hb (b.getD k 0) (by rw [List.getD_eq_getElem?_getD, List.getElem?_eq_getElem (by rw [h1 b hb]; exact hk)]; exact List.getElem_mem _)
    have e := fun r => agr_put m r c k 1 hk h0 (by decide) (by decide)
    simp only [Nat.one_mul] at e
    refine List.countP_pos_iff.2 ?_
    by_cases e1 : a.getD k 0 = 1
    · refine ⟨b, hb, ?_⟩
      rw [e, gb, beq_eq_false_iff_ne.2 (show b.getD k 0 ≠ 1 by omega)]; rfl
    · refine ⟨a, ha, ?_⟩
      rw [e, ga, beq_eq_false_iff_ne.2 e1]; rfl
  · have la := h2 a ha (a.getD k 0) (by rw [List.getD_eq_getElem?_getD, List.getElem?_eq_getElem (by rw [h1 a ha]; exact hk)]; exact List.getElem_mem _)
    have lb := h2 b hb (b.getD k 0) (by rw [List.getD_eq_getElem?_getD, List.getElem?_eq_getElem (by rw [h1 b hb]; exact hk)]; exact List.getElem_mem _)
    have e := fun r => agr_put m r c k 2 hk h0 (by decide) (by decide)
    refine List.countP_pos_iff.2 ?_
    by_cases e1 : a.getD k 0 = 1
    · refine ⟨a, ha, ?_⟩
      rw [e, ga, beq_iff_eq.2 e1]; rfl
    · refine ⟨b, hb, ?_⟩
      rw [e, gb, beq_iff_eq.2 (show b.getD k 0 = 1 by omega)]; rfl
/-- The place of a row among all that can be told. -/
def rcode (r : List Int) : Nat → Nat
  | 0 => 0
  | n + 1 => rcode r n + (if r.getD n 0 = 1 then 2 else 1) * 3 ^ n
theorem rcode_lt (r : List Int) : ∀ n, rcode r n < 3 ^ n := by
  intro n
  induction n with
  | zero => simp [rcode]
  | succ n ih => simp only [rcode, Nat.pow_succ]; split <;> omega
theorem dg_out (c k : Nat) (h : c < 3 ^ k) : dg c k = 0 := by unfold dg; rw [Nat.div_eq_of_lt h]
theorem rcode_dg (r : List Int) (j : Nat) : ∀ n, dg (rcode r n) j = if j < n then (if r.getD j 0 = 1 then 2 else 1) else 0 := by
  intro n
  induction n with
  | zero => rw [if_neg (by omega)]; exact dg_zero j
  | succ n ih =>
    simp only [rcode]
    rw [dg_put _ n _ (dg_out _ _ (rcode_lt r n)) (by split <;> omega), ih]
    rcases Nat.lt_trichotomy j n with hj | hj | hj
    · rw [if_neg (show ¬ j = n by omega), if_pos hj, if_pos (show j < n + 1 by omega)]
    · subst hj; rw [if_pos rfl, if_pos (show j < j + 1 by omega)]
    · rw [if_neg (show ¬ j = n by omega), if_neg (show ¬ j < n by omega), if_neg (show ¬ j < n + 1 by omega)]
theorem dg_ext (m : Nat) : ∀ a b, a < 3 ^ m → b < 3 ^ m → (∀ k, k < m → dg a k = dg b k) → a = b := by
  induction m with
  | zero => intro a b ha hb _; simp at ha hb; omega
  | succ m ih =>
    intro a b ha hb h
    have h0 := h 0 (by omega)
    simp only [dg, Nat.pow_zero, Nat.div_one] at h0
    rw [Nat.pow_succ] at ha hb
    have := ih (a / 3) (b / 3) (by omega) (by omega) (fun k hk => by
      have := h (k + 1) (by omega)
      simp only [dg, Nat.pow_succ] at this ⊢
      rw [Nat.div_div_eq_div_mul, Nat.div_div_eq_div_mul, Nat.mul_comm]; exact this)
    omega
theorem rcode_agr (m : Nat) (r : List Int) (c : Nat) (hc : c < 3 ^ m) (hf : ∀ k, k < m → dg c k ≠ 0) : agr m r c = true ↔ rcode r m = c := by
  rw [agr_iff]
  constructor
  · intro h
    refine dg_ext m _ _ (rcode_lt r m) hc fun k hk => ?_
    rw [rcode_dg, if_pos hk]
    have h3 := dg_lt c k
    have h0 := hf k hk
    rcases h k hk with h1 | h1
    · exact absurd h1 h0
    · by_cases e : r.getD k 0 = 1
      · rw [if_pos e]; exact (h1.2 e).symm
      · rw [if_neg e]
        have : dg c k ≠ 2 := fun h => e (h1.1 h)
        omega
  · rintro rfl k hk
    right
    rw [rcode_dg, if_pos hk]
    by_cases e : r.getD k 0 = 1
    · rw [if_pos e]; exact ⟨fun _ => e, fun _ => rfl⟩
    · rw [if_neg e]; simp only [e, iff_false]; decide
theorem rcode_inj (m : Nat) (a b : List Int) (ha : a.length = m) (hb : b.length = m) (la : ∀ x ∈ a, x = 1 ∨ x = -1) (lb : ∀ x ∈ b, x = 1 ∨ x = -1) (h : rcode a m = rcode b m) : a = b := by
  refine List.ext_getElem (ha.trans hb.symm) fun i i1 i2 => ?_
  have := congrArg (fun c => dg c i) h
  simp only [rcode_dg, if_pos (show i < m by omega)] at this
  have e1 := la _ (List.getElem_mem i1)
  have e2 := lb _ (List.getElem_mem i2)
  rw [List.getD_eq_getElem?_getD, List.getD_eq_getElem?_getD, List.getElem?_eq_getElem i1, List.getElem?_eq_getElem i2] at this
  simp only [Option.getD_some] at this
  rcases e1 with e1 | e1 <;> rcases e2 with e2 | e2 <;> rw [e1, e2] at this ⊢ <;> simp at this
/-- All places told: one row or none. -/
theorem cnt_full (m : Nat) (L : List (List Int)) (h : Cls m L) (c : Nat) (hc : c < 3 ^ m) (hf : ∀ k, k < m → dg c k ≠ 0) : cnt m L c = if (L.any fun r => rcode r m == c) = true then 1 else 0 := by
  obtain ⟨h1, h2, h3⟩ := h
  unfold cnt
  have e : (fun r => agr m r c) = fun r => rcode r m == c := by
    funext r
    apply Bool.eq_iff_iff.2
    rw [rcode_agr m r c hc hf, beq_iff_eq]
  rw [e]
  clear e
  induction L with
  | nil => rfl
  | cons x L ih =>
    obtain ⟨n1, n2⟩ := List.nodup_cons.1 h3
    have := ih (fun r hr => h1 r (List.mem_cons_of_mem _ hr)) (fun r hr => h2 r (List.mem_cons_of_mem _ hr)) n2
    rw [List.countP_cons, this, List.any_cons]
    by_cases e : rcode x m = c
    · have hno : (L.any fun r => rcode r m == c) = false := by
        rw [List.any_eq_false]
        intro y hy hyc
        exact n1 (rcode_inj m x y (h1 x List.mem_cons_self) (h1 y (List.mem_cons_of_mem _ hy)) (h2 x List.mem_cons_self) (h2 y (List.mem_cons_of_mem _ hy)) (e.trans (beq_iff_eq.1 hyc).symm) ▸ hy)
      rw [hno, beq_iff_eq.2 e]; rfl
    · rw [beq_eq_false_iff_ne.2 e]; simp
/-! ### a class is a list of lists of labels, no two alike -/
theorem kn_lex_trans : ∀ a b c : List Int, lexB a b = true → lexB b c = true → lexB a c = true := by
  intro a
  induction a with
  | nil => intro b c h; cases b <;> simp [lexB] at h
  | cons x a ih =>
    intro b c h1 h2
    cases b with
    | nil => simp [lexB] at h1
    | cons y b =>
      cases c with
      | nil => simp [lexB] at h2
      | cons z c =>
        simp only [lexB] at h1 h2 ⊢
        by_cases e1 : x = y
        · rw [if_pos e1] at h1
          by_cases e2 : y = z
          · rw [if_pos e2] at h2; rw [if_pos (e1.trans e2)]; exact ih b c h1 h2
          · rw [if_neg e2] at h2; rw [if_neg (fun e => e2 (e1 ▸ e)), e1]; exact h2
        · rw [if_neg e1] at h1
          have h1' := of_decide_eq_true h1
          by_cases e2 : y = z
          · rw [if_neg (fun e => e1 (e.trans e2.symm)), ← e2]; exact h1
          · rw [if_neg e2] at h2
            have h2' := of_decide_eq_true h2
            rw [if_neg (by omega)]; exact decide_eq_true (by omega)
theorem kn_lex_irr : ∀ a : List Int, lexB a a = false := by
  intro a
  induction a with
  | nil => rfl
  | cons x a ih => simp [lexB, ih]
theorem kn_rise (c : List (List Int)) (h : ∀ j, j + 1 < c.length → lexB (rdl c j) (rdl c (j + 1)) = true) : ∀ d i, i + d + 1 < c.length → lexB (rdl c i) (rdl c (i + d + 1)) = true := by
  intro d
  induction d with
  | zero => intro i hi; exact h i hi
  | succ d ih => intro i hi; exact kn_lex_trans _ _ _ (ih i (by omega)) (h (i + d + 1) (by omega))
theorem rdl_get (l : List (List Int)) (i : Nat) (h : i < l.length) : rdl l i = l[i] := by simp [rdl, List.getD_eq_getElem?_getD, List.getElem?_eq_getElem h]
theorem classB_cls {l : List (List Int)} (h : classB l = true) : (1 ≤ l.length ∧ l.length ≤ 256) ∧ (rdl l 0).length ≤ 8 ∧ Cls (rdl l 0).length l := by
  unfold classB at h
  rw [Bool.and_eq_true, List.all_eq_true] at h
  have h1 := of_decide_eq_true h.1
  have hrow : ∀ i, i < l.length → (rdl l i).length ≤ 8 ∧ (rdl l i).length = (rdl l 0).length ∧ labB (rdl l i) = true ∧ (i = 0 ∨ lexB (rdl l (i - 1)) (rdl l i) = true) := by
    intro i hi
    have := h.2 i (List.mem_range.2 hi)
    unfold rowok at this
    simpa [Bool.and_eq_true, Bool.or_eq_true] using this
  refine ⟨h1, (hrow 0 (by omega)).1, ⟨fun r hr => ?_, fun r hr x hx => ?_, ?_⟩⟩
  · obtain ⟨i, hi, e⟩ := List.getElem_of_mem hr
    rw [← rdl_get l i hi] at e; rw [← e]; exact (hrow i hi).2.1
  · obtain ⟨i, hi, e⟩ := List.getElem_of_mem hr
    rw [← rdl_get l i hi] at e
    have := (hrow i hi).2.2.1
    rw [e] at this
    unfold labB at this
    have := of_decide_eq_true (List.all_eq_true.1 this x hx)
    exact this
  · have hr := kn_rise l (fun j hj => by
      rcases (hrow (j + 1) hj).2.2.2 with e | e
      · omega
      · exact e)
    rw [List.nodup_iff_pairwise_ne, List.pairwise_iff_getElem]
    intro i j hi hj hij e
    have := hr (j - i - 1) i (by omega)
    rw [show i + (j - i - 1) + 1 = j by omega, rdl_get l i hi, rdl_get l j hj, e, kn_lex_irr] at this
    exact absurd this (by simp)
theorem pow3_le (k : Nat) (h : k ≤ 8) : 1 ≤ 3 ^ k ∧ 3 ^ k ≤ 6561 := ⟨Nat.pow_pos (by decide), Nat.pow_le_pow_right (n := 3) (by decide) h⟩
theorem cnt_le (m : Nat) (L : List (List Int)) (c : Nat) : cnt m L c ≤ L.length := List.countP_le_length
theorem kw_three (t p q : Nat) (b1 : t + p < q) (b2 : t + 2 * p < q) (hq : q ≤ 6561) : wrap64 ((t : Int) + (p : Int)) = ((t + p : Nat) : Int) ∧ wrap64 (2 * (p : Int)) = ((2 * p : Nat) : Int) ∧ wrap64 ((t : Int) + ((2 * p : Nat) : Int)) = ((t + 2 * p : Nat) : Int) := by
  refine ⟨?_, ?_, ?_⟩ <;> unfold wrap64 <;> omega
theorem kw_few (a b : Nat) (ha : a ≤ 256) (hb : b ≤ 256) : wrap64 ((a : Int) + (b : Int)) = ((a + b : Nat) : Int) := by unfold wrap64; omega
theorem kw_lab1 : wrap64 (Int.tdiv (wrap64 ((1 : Int) + 3)) 2) = 2 := by
  rw [show wrap64 ((1 : Int) + 3) = 4 by unfold wrap64; omega, show Int.tdiv 4 2 = 2 from rfl]; unfold wrap64; omega
theorem kw_lab0 : wrap64 (Int.tdiv (wrap64 ((-1 : Int) + 3)) 2) = 1 := by
  rw [show wrap64 ((-1 : Int) + 3) = 2 by unfold wrap64; omega, show Int.tdiv 2 2 = 1 from rfl]; unfold wrap64; omega
def cnts (m : Nat) (L : List (List Int)) : List Int := (List.range (3 ^ m)).map fun c => ((cnt m L c : Nat) : Int)
def nums3 (m : Nat) (L : List (List Int)) (ask : Bool) : List Int := (List.range (3 ^ m)).map fun c => num m L ask c
theorem ext_getD (l : List Int) (f : Nat → Int) (n : Nat) (hl : l.length = n) (h : ∀ c, c < n → l.getD c 0 = f c) : l = (List.range n).map f := by
  apply List.ext_getElem
  · simp [hl]
  · intro i h1 h2
    have := h i (by omega)
    rw [List.getD_eq_getElem?_getD, List.getElem?_eq_getElem h1] at this
    simpa using this
theorem set_getD (l : List Int) (i c : Nat) (v : Int) (h : i < l.length) : (l.set i v).getD c 0 = if c = i then v else l.getD c 0 := by
  simp only [List.getD_eq_getElem?_getD, List.getElem?_set]
  by_cases e : i = c
  · subst e; simp [h]
  · rw [if_neg e, if_neg (fun h => e h.symm)]
theorem mapr_getD (f : Nat → Int) (n c : Nat) (h : c < n) : ((List.range n).map f).getD c 0 = f c := by
  simp [List.getD_eq_getElem?_getD, List.getElem?_map, List.getElem?_range h]

/-! ### spec_l7Powers -/
theorem l7Powers_l0 (n : Nat) (hn : n ≤ 8) : ∀ (d i : Nat), i + d = n → Ev (fun k => spec_l7Powers.l0 k (n : Int) ((3 ^ i : Nat) : Int) (i : Int)) ((3 ^ n : Nat) : Int) := by
  intro d
  induction d with
  | zero =>
    intro i hi
    obtain rfl : i = n := by omega
    exact Ev.step (fun k => spec_l7Powers.l0.eq_2 ..) (evn (by omega) (evs rfl))
  | succ d ih =>
    intro i hi
    have hp := pow3_le i (by omega)
    have e1 : wrap64 (3 * ((3 ^ i : Nat) : Int)) = ((3 ^ (i + 1) : Nat) : Int) := by
      rw [Nat.pow_succ]; generalize 3 ^ i = p at hp ⊢; unfold wrap64; omega
    have := ih (i + 1) (by omega)
    refine Ev.step (fun k => spec_l7Powers.l0.eq_2 ..) (evp (by omega) ?_)
    rw [e1, w64s i (by omega)]
    exact this
theorem l7Powers (n : Nat) (hn : n ≤ 8) : Ev (fun k => spec_l7Powers.f k (n : Int)) ((3 ^ n : Nat) : Int) := by
  unfold spec_l7Powers.f
  exact l7Powers_l0 n hn n 0 (by omega)

/-! ### spec_l7Digit spec_l7Powers spec_l7Counts -/
theorem l7Digit (c n : Nat) (hc : c < 6561) (hn : n ≤ 8) : Ev (fun k => spec_l7Digit.f k (c : Int) (n : Int)) ((dg c n : Nat) : Int) := by
  unfold spec_l7Digit.f
  have hp := pow3_le n hn
  refine evb (l7Powers n hn) (evn (by omega) (evs ?_))
  unfold dg
  generalize 3 ^ n = p at hp ⊢
  have e1 : Int.tdiv (c : Int) (p : Int) = ((c / p : Nat) : Int) := by rw [Int.tdiv_eq_ediv_of_nonneg (by omega)]; simp
  have hd := Nat.div_le_self c p
  rw [e1]
  generalize c / p = q at hd ⊢
  rw [w64 (by omega) (by omega), Int.tmod_eq_emod_of_nonneg (by omega)]
  omega

/-! ### spec_l7Counts spec_l7Powers spec_l7Digit -/
theorem l7Counts_j4 (m : Nat) (L : List (List Int)) (hm : m ≤ 8) (hL : L.length ≤ 256) (x : List Int) (t j : Nat) (hj : j < m) (h0 : dg t j = 0) (hl : x.length = 3 ^ m) (ht : t + 1 ≤ 3 ^ m) (hx : ∀ c, c < 3 ^ m → x.getD c 0 = if t + 1 ≤ c then ((cnt m L c : Nat) : Int) else if (L.any fun r => rcode r m == c) = true then 1 else 0) (R : List Int)
    (hK : Ev (fun k => spec_l7Counts.l2 k (m : Int) (x.set t ((cnt m L t : Nat) : Int)) (wrap64 ((t : Int) - 1))) R) : Ev (fun k => spec_l7Counts.j4 k (m : Int) x (t : Int) (j : Int)) R := by
  have hpj := pow3_le j (by omega)
  have b1 := dg_lt_pow m t j 1 (by omega) hj h0 (by decide)
  have b2 := dg_lt_pow m t j 2 (by omega) hj h0 (by decide)
  rw [Nat.one_mul] at b1
  have hs := cnt_split m L t j hj h0
  have g1 := hx (t + 3 ^ j) b1
  have g2 := hx (t + 2 * 3 ^ j) b2
  rw [if_pos (by omega)] at g1 g2
  have c1 := cnt_le m L (t + 3 ^ j)
  have c2 := cnt_le m L (t + 2 * 3 ^ j)
  have hP := l7Powers j (by omega)
  have hp := (pow3_le m hm).2
  clear hx h0
  generalize 3 ^ j = p at *
  generalize 3 ^ m = q at *
  obtain ⟨w1, w2, w3⟩ := kw_three t p q b1 b2 hp
  have w4 : wrap64 (((cnt m L (t + p) : Nat) : Int) + ((cnt m L (t + 2 * p) : Nat) : Int)) = ((cnt m L t : Nat) : Int) := by rw [hs]; exact kw_few _ _ (Nat.le_trans c1 hL) (Nat.le_trans c2 hL)
  have a0 : (0 : Int) ≤ ((t + p : Nat) : Int) := Int.natCast_nonneg _
  have a1 : ((t + p : Nat) : Int) < (x.length : Int) := by rw [hl]; exact Int.ofNat_lt.2 b1
  have a2 : (0 : Int) ≤ ((t + 2 * p : Nat) : Int) := Int.natCast_nonneg _
  have a3 : ((t + 2 * p : Nat) : Int) < (x.length : Int) := by rw [hl]; exact Int.ofNat_lt.2 b2
  have a4 : (0 : Int) ≤ (t : Int) := Int.natCast_nonneg _
  have a5 : (t : Int) < (x.length : Int) := by rw [hl]; exact Int.ofNat_lt.2 ht
  have a6 : (j : Int) < (m : Int) := Int.ofNat_lt.2 hj
  refine Ev.step (fun k => spec_l7Counts.j4.eq_2 ..) (evp a6 (evb hP ?_))
  rw [w1]
  refine evp a0 (evp a1 ?_)
  refine evb hP ?_
  rw [w2, w3]
  refine evp a2 (evp a3 (evp a4 (evp a5 ?_)))
  rw [rd_nat, rd_nat, g1, g2, w4, Int.toNat_natCast]
  exact hK
theorem l7Counts_l2 (m : Nat) (L : List (List Int)) (hm : m ≤ 8) (hL : L.length ≤ 256) (hC : Cls m L) : ∀ (t : Nat) (x : List Int), t ≤ 3 ^ m → x.length = 3 ^ m → (∀ c, c < 3 ^ m → x.getD c 0 = if t ≤ c then ((cnt m L c : Nat) : Int) else if (L.any fun r => rcode r m == c) = true then 1 else 0) →
    Ev (fun k => spec_l7Counts.l2 k (m : Int) x ((t : Int) - 1)) (cnts m L) := by
  have hp := pow3_le m hm
  intro t
  induction t with
  | zero =>
    intro x _ hl hx
    refine Ev.step (fun k => spec_l7Counts.l2.eq_2 ..) (evn (by omega) (evs ?_))
    exact ext_getD x _ _ hl (fun c hc => by rw [hx c hc, if_pos (Nat.zero_le _)])
  | succ t ih =>
    intro x ht hl hx
    rw [show ((t + 1 : Nat) : Int) - 1 = (t : Int) by omega]
    refine Ev.step (fun k => spec_l7Counts.l2.eq_2 ..) (evp (by omega) ?_)
    have wt : wrap64 ((t : Int) - 1) = (t : Int) - 1 := w64 (by omega) (by omega)
    have full : (∀ i, i < m → dg t i ≠ 0) → Ev (fun k => spec_l7Counts.l2 k (m : Int) x (wrap64 ((t : Int) - 1))) (cnts m L) := by
      intro hf
      rw [wt]
      refine ih x (by omega) hl (fun c hc => ?_)
      rw [hx c hc]
      by_cases e : t + 1 ≤ c
      · rw [if_pos e, if_pos (by omega)]
      · rw [if_neg e]
        by_cases e2 : t = c
        · subst e2
          rw [if_pos (Nat.le_refl _), cnt_full m L hC t hc hf]; split <;> simp
        · rw [if_neg (show ¬ t ≤ c by omega)]
    have part : ∀ j, j < m → dg t j = 0 → Ev (fun k => spec_l7Counts.j4 k (m : Int) x (t : Int) (j : Int)) (cnts m L) := by
      intro j hj h0
      refine l7Counts_j4 m L hm hL x t j hj h0 hl ht hx _ ?_
      rw [wt]
      refine ih _ (by omega) (by rw [List.length_set]; exact hl) (fun c hc => ?_)
      rw [set_getD _ _ _ _ (by omega), hx c hc]
      by_cases e : c = t
      · subst e; rw [if_pos rfl, if_pos (Nat.le_refl _)]
      · rw [if_neg e]
        by_cases e2 : t + 1 ≤ c
        · rw [if_pos e2, if_pos (by omega)]
        · rw [if_neg e2, if_neg (show ¬ t ≤ c by omega)]
    have l3 : ∀ d j, j + d = m → (∀ i, i < j → dg t i ≠ 0) → Ev (fun k => spec_l7Counts.l3 k (m : Int) x (t : Int) (j : Int)) (cnts m L) := by
      intro d
      induction d with
      | zero =>
        intro j hj hf
        refine Ev.step (fun k => spec_l7Counts.l3.eq_2 ..) (evn (by omega) (Ev.step (fun k => spec_l7Counts.j4.eq_2 ..) (evn (by omega) ?_)))
        exact full (fun i hi => hf i (by omega))
      | succ d ihd =>
        intro j hj hf
        refine Ev.step (fun k => spec_l7Counts.l3.eq_2 ..) (evp (by omega) (evb (l7Digit t j (by omega) (by omega)) ?_))
        by_cases h0 : dg t j = 0
        · rw [h0]
          exact evn (by simp) (part j (by omega) h0)
        · refine evp (by omega) ?_
          rw [w64s j (by omega)]
          refine ihd (j + 1) (by omega) (fun i hi => ?_)
          rcases Nat.lt_or_ge i j with e | e
          · exact hf i e
          · rw [show i = j by omega]; exact h0
    exact l3 m 0 (by omega) (fun i hi => by omega)
theorem l7Counts_l1 (m : Nat) (L : List (List Int)) (hm : m ≤ 8) (hC : Cls m L) (x : List Int) (hxl : x.length = 3 ^ m) (i : Nat) (hi : i < L.length) (hL : L.length ≤ 256) (R : List Int)
    (hK : Ev (fun k => spec_l7Counts.l0 k L (m : Int) (x.set (rcode (rdl L i) m) 1) ((i + 1 : Nat) : Int)) R) : ∀ d j, j + d = m → Ev (fun k => spec_l7Counts.l1 k L (m : Int) x (i : Int) ((rcode (rdl L i) j : Nat) : Int) (j : Int)) R := by
  have hr : (rdl L i).length = m := hC.len _ (rdl_mem L i hi)
  intro d
  induction d with
  | zero =>
    intro j hj
    obtain rfl : j = m := by omega
    have hb := rcode_lt (rdl L i) j
    refine Ev.step (fun k => spec_l7Counts.l1.eq_2 ..) (evn (by omega) (evp (by omega) (evp (by omega) ?_)))
    rw [w64s i (by omega), Int.toNat_natCast]
    exact hK
  | succ d ih =>
    intro j hj
    have hpj := pow3_le j (by omega)
    have hb := rcode_lt (rdl L i) j
    have hlab := hC.lab _ (rdl_mem L i hi) ((rdl L i).getD j 0) (by rw [List.getD_eq_getElem?_getD, List.getElem?_eq_getElem (by omega)]; exact List.getElem_mem _)
    have hnx := ih (j + 1) (by omega)
    refine Ev.step (fun k => spec_l7Counts.l1.eq_2 ..) (evp (by omega) (evp (by omega) (evp (by omega) ?_)))
    rw [show rd_L1 L (i : Int) = rdl L i from rdL_nat'' L i]
    refine evp (by omega) (evp (by omega) (evb (l7Powers j (by omega)) ?_))
    rw [rd_nat]
    have e1 : wrap64 ((rcode (rdl L i) j : Int) + wrap64 (wrap64 (Int.tdiv (wrap64 ((rdl L i).getD j 0 + 3)) 2) * ((3 ^ j : Nat) : Int))) = ((rcode (rdl L i) (j + 1) : Nat) : Int) := by
      simp only [rcode]
      generalize rcode (rdl L i) j = q at hb ⊢
      generalize (rdl L i).getD j 0 = y at hlab ⊢
      generalize 3 ^ j = p at hpj hb ⊢
      rcases hlab with rfl | rfl
      · rw [if_pos rfl, kw_lab1, show wrap64 (2 * (p : Int)) = 2 * (p : Int) from w64 (by omega) (by omega), w64 (by omega) (by omega)]; omega
      · rw [if_neg (by decide), kw_lab0, show wrap64 (1 * (p : Int)) = (p : Int) by rw [Int.one_mul]; exact w64 (by omega) (by omega), w64 (by omega) (by omega)]; omega
    rw [e1, w64s j (by omega)]
    exact hnx
theorem l7Counts_l0 (m : Nat) (L : List (List Int)) (hm : m ≤ 8) (hC : Cls m L) (hL : L.length ≤ 256) : ∀ (d i : Nat) (x : List Int), i + d = L.length → x.length = 3 ^ m → (∀ c, c < 3 ^ m → x.getD c 0 = if ((L.take i).any fun r => rcode r m == c) = true then 1 else 0) →
    Ev (fun k => spec_l7Counts.l0 k L (m : Int) x (i : Int)) (cnts m L) := by
  have hp := pow3_le m hm
  intro d
  induction d with
  | zero =>
    intro i x hi hl hx
    refine Ev.step (fun k => spec_l7Counts.l0.eq_2 ..) (evn (by omega) ?_)
    rw [hl, w64 (by omega) (by omega)]
    refine l7Counts_l2 m L hm hL hC (3 ^ m) x (Nat.le_refl _) hl (fun c hc => ?_)
    rw [hx c hc, if_neg (show ¬ 3 ^ m ≤ c by omega), List.take_of_length_le (by omega)]
  | succ d ih =>
    intro i x hi hl hx
    have hb := rcode_lt (rdl L i) m
    refine Ev.step (fun k => spec_l7Counts.l0.eq_2 ..) (evp (by omega) ?_)
    refine l7Counts_l1 m L hm hC x hl i (by omega) hL _ (ih (i + 1) _ (by omega) (by rw [List.length_set]; exact hl) (fun c hc => ?_)) m 0 (by omega)
    rw [set_getD _ _ _ _ (by omega), hx c hc, List.take_succ_eq_append_getElem (show i < L.length by omega), List.any_append, rdl_get L i (by omega)]
    simp only [List.any_cons, List.any_nil, Bool.or_false, Bool.or_eq_true, beq_iff_eq]
    by_cases e : c = rcode L[i] m
    · rw [if_pos e, if_pos (.inr e.symm)]
    · rw [if_neg e]
      by_cases e2 : (List.any (List.take i L) fun r => rcode r m == c) = true
      · rw [if_pos e2, if_pos (.inl e2)]
      · rw [if_neg e2, if_neg (fun h => h.elim e2 (fun h => e h.symm))]
theorem l7Counts (l : List (List Int)) (h : classB l = true) : Ev (fun k => spec_l7Counts.f k l) (cnts (rdl l 0).length l) := by
  obtain ⟨h1, h2, h3⟩ := classB_cls h
  have hp := pow3_le _ h2
  unfold spec_l7Counts.f
  refine evp (by omega) ?_
  rw [show rd_L1 l 0 = rdl l 0 from rdL_nat'' l 0]
  refine evb (l7Powers _ h2) (evp (by omega) (evp (by omega) ?_))
  rw [Int.toNat_natCast]
  refine l7Counts_l0 _ l h2 h3 h1.2 l.length 0 _ (by omega) (by simp) (fun c hc => ?_)
  simp [List.getD_eq_getElem?_getD, List.getElem?_replicate, hc]

/-! ### spec_l7Numbers spec_l7Counts spec_l7Powers spec_l7Digit spec_l1Most spec_l1Least -/
theorem kn_most (a b : Int) : spec_l1Most.f a b = some (max a b) := by
  unfold spec_l1Most.f
  by_cases c : a > b
  · rw [if_pos c, Int.max_eq_left (Int.le_of_lt c)]
  · rw [if_neg c, Int.max_eq_right (by omega)]
theorem kn_least (a b : Int) : spec_l1Least.f a b = some (min a b) := by
  unfold spec_l1Least.f
  by_cases c : a < b
  · rw [if_pos c, Int.min_eq_left (Int.le_of_lt c)]
  · rw [if_neg c, Int.min_eq_right (by omega)]
theorem kw_one (x : Int) (h0 : 0 ≤ x) (h1 : x ≤ 8) : wrap64 (1 + x) = 1 + x := by unfold wrap64; omega
theorem l7Num_step (ask : Bool) (m : Nat) (L : List (List Int)) (hm : m ≤ 8) (hA : Apart m L) (out : List Int) (hol : out.length = 3 ^ m) (c j : Nat) (hc : c < 3 ^ m) (hj : j < m) (hout : ∀ x, c < x → x < 3 ^ m → out.getD x 0 = num m L ask x) (b : Int) (R : List Int)
    (hN : Ev (fun k => spec_l7Numbers.l1 k ask (m : Int) (cnts m L) out (c : Int) (if parts m L c j = true then upd ask b (num m L ask (c + 3 ^ j)) (num m L ask (c + 2 * 3 ^ j)) else b) (wrap64 ((j : Int) + 1))) R) :
    Ev (fun k => spec_l7Numbers.l1 k ask (m : Int) (cnts m L) out (c : Int) b (j : Int)) R := by
  have a6 : (j : Int) < (m : Int) := Int.ofNat_lt.2 hj
  have hP := l7Powers j (by omega)
  have hD := l7Digit c j (Nat.lt_of_lt_of_le hc (pow3_le m hm).2) (by omega)
  refine Ev.step (fun k => spec_l7Numbers.l1.eq_2 ..) (evp a6 (evb hP (evb hP (evb hD ?_))))
  by_cases h0 : dg c j = 0
  · have b1 := dg_lt_pow m c j 1 hc hj h0 (by decide)
    have b2 := dg_lt_pow m c j 2 hc hj h0 (by decide)
    rw [Nat.one_mul] at b1
    have hp0 := (pow3_le j (by omega)).1
    have o1 := hout (c + 3 ^ j) (by omega) b1
    have o2 := hout (c + 2 * 3 ^ j) (by omega) b2
    have n1 := num_bd m L ask hA _ (c + 3 ^ j) (Nat.le_refl _)
    have n2 := num_bd m L ask hA _ (c + 2 * 3 ^ j) (Nat.le_refl _)
    have z1 := zeros_le m (c + 3 ^ j)
    have z2 := zeros_le m (c + 2 * 3 ^ j)
    have g1 : (cnts m L).getD (c + 3 ^ j) 0 = ((cnt m L (c + 3 ^ j) : Nat) : Int) := mapr_getD _ _ _ b1
    have g2 : (cnts m L).getD (c + 2 * 3 ^ j) 0 = ((cnt m L (c + 2 * 3 ^ j) : Nat) : Int) := mapr_getD _ _ _ b2
    have hcl : (cnts m L).length = 3 ^ m := by simp [cnts]
    have hpar : parts m L c j = (decide (0 < cnt m L (c + 3 ^ j)) && decide (0 < cnt m L (c + 2 * 3 ^ j))) := by unfold parts; rw [h0]; rfl
    obtain ⟨w1, w2, w3⟩ := kw_three c (3 ^ j) (3 ^ m) b1 b2 (pow3_le m hm).2
    rw [hpar] at hN
    clear hpar hP hD hp0
    generalize hu : num m L ask (c + 3 ^ j) = u at *
    generalize hv : num m L ask (c + 2 * 3 ^ j) = v at *
    generalize hc1 : cnt m L (c + 3 ^ j) = c1 at *
    generalize hc2 : cnt m L (c + 2 * 3 ^ j) = c2 at *
    clear hu hv hc1 hc2 hout
    generalize 3 ^ j = p at *
    have a0 : (0 : Int) ≤ ((c + p : Nat) : Int) := Int.natCast_nonneg _
    have a1 : ((c + p : Nat) : Int) < ((cnts m L).length : Int) := by rw [hcl]; exact Int.ofNat_lt.2 b1
    have a2 : (0 : Int) ≤ ((c + 2 * p : Nat) : Int) := Int.natCast_nonneg _
    have a3 : ((c + 2 * p : Nat) : Int) < ((cnts m L).length : Int) := by rw [hcl]; exact Int.ofNat_lt.2 b2
    have a1' : ((c + p : Nat) : Int) < (out.length : Int) := by rw [hol]; exact Int.ofNat_lt.2 b1
    have a3' : ((c + 2 * p : Nat) : Int) < (out.length : Int) := by rw [hol]; exact Int.ofNat_lt.2 b2
    rw [h0, w1, w2, w3]
    refine evn (by decide) (evp a0 (evp a1 ?_))
    rw [rd_nat, g1]
    by_cases e1 : c1 = 0
    · refine evp (by rw [e1]; rfl) (Ev.step (fun k => spec_l7Numbers.j2.eq_2 ..) (evp rfl ?_))
      rw [e1] at hN
      exact hN
    · refine evn (fun h => e1 (Int.ofNat.inj h)) (evp a2 (evp a3 ?_))
      rw [rd_nat, g2]
      have d1 : decide (0 < c1) = true := decide_eq_true (Nat.pos_of_ne_zero e1)
      by_cases e2 : c2 = 0
      · rw [show (((c2 : Nat) : Int) == 0) = true by rw [e2]; rfl]
        refine Ev.step (fun k => spec_l7Numbers.j2.eq_2 ..) (evp rfl ?_)
        rw [e2, show decide (0 < 0) = false from rfl, Bool.and_false] at hN
        exact hN
      · have d2 : decide (0 < c2) = true := decide_eq_true (Nat.pos_of_ne_zero e2)
        rw [show (((c2 : Nat) : Int) == 0) = false from beq_eq_false_iff_ne.2 (fun h => e2 (Int.ofNat.inj h))]
        rw [d1, d2] at hN
        refine Ev.step (fun k => spec_l7Numbers.j2.eq_2 ..) (evn (by decide) ?_)
        have hx : 0 ≤ max u v ∧ max u v ≤ 8 := ⟨Int.le_trans n1.1 (Int.le_max_left _ _), Int.max_le.2 ⟨by have := n1.2; omega, by have := n2.2; omega⟩⟩
        have hy : 0 ≤ min u v ∧ min u v ≤ 8 := ⟨Int.le_min.2 ⟨n1.1, n2.1⟩, Int.le_trans (Int.min_le_left _ _) (by have := n1.2; omega)⟩
        cases ask with
        | true =>
          refine evp rfl (evp a0 (evp a1' (evp a2 (evp a3' ?_))))
          rw [rd_nat, rd_nat, o1, o2]
          refine evb (evc (kn_most u v)) ?_
          rw [kw_one _ hx.1 hx.2]
          rw [show (if (true && true) = true then upd true b u v else b) = (if b < 0 ∨ 1 + max u v < b then 1 + max u v else b) from rfl] at hN
          by_cases e3 : b < 0
          · rw [if_pos (.inl e3)] at hN
            exact evp e3 hN
          · refine evn e3 ?_
            by_cases e4 : 1 + max u v < b
            · rw [if_pos (.inr e4)] at hN
              exact evp e4 hN
            · rw [if_neg (fun h => h.elim e3 e4)] at hN
              exact evn e4 hN
        | false =>
          refine evn (by decide) (evp a0 (evp a1' (evp a2 (evp a3' ?_))))
          rw [rd_nat, rd_nat, o1, o2]
          refine evb (evc (kn_least u v)) ?_
          rw [kw_one _ hy.1 hy.2]
          refine evb (evc (kn_most _ _)) ?_
          exact hN
  · have hpar : parts m L c j = false := by unfold parts; rw [beq_eq_false_iff_ne.2 h0]; rfl
    rw [hpar] at hN
    refine evp (Int.ofNat_lt.2 (Nat.pos_of_ne_zero h0)) (Ev.step (fun k => spec_l7Numbers.j2.eq_2 ..) (evp rfl ?_))
    exact hN
theorem l7Num_l1 (ask : Bool) (m : Nat) (L : List (List Int)) (hm : m ≤ 8) (hA : Apart m L) (out : List Int) (hol : out.length = 3 ^ m) (c : Nat) (hc : c < 3 ^ m) (hout : ∀ x, c < x → x < 3 ^ m → out.getD x 0 = num m L ask x) (R : List Int) :
    ∀ d j (b : Int), j + d = m → Ev (fun k => spec_l7Numbers.l0 k ask (m : Int) (cnts m L) (out.set c ((List.range' j d).foldl (fun best k => if parts m L c k = true then upd ask best (num m L ask (c + 3 ^ k)) (num m L ask (c + 2 * 3 ^ k)) else best) b)) (wrap64 ((c : Int) - 1))) R →
      Ev (fun k => spec_l7Numbers.l1 k ask (m : Int) (cnts m L) out (c : Int) b (j : Int)) R := by
  intro d
  induction d with
  | zero =>
    intro j b hj h
    have a1 : (c : Int) < (out.length : Int) := by rw [hol]; exact Int.ofNat_lt.2 hc
    refine Ev.step (fun k => spec_l7Numbers.l1.eq_2 ..) (evn (by omega) (evp (Int.natCast_nonneg _) (evp a1 ?_)))
    rw [Int.toNat_natCast]
    exact h
  | succ d ih =>
    intro j b hj h
    refine l7Num_step ask m L hm hA out hol c j hc (by omega) hout b R ?_
    rw [w64s j (by omega)]
    exact ih (j + 1) _ (by omega) h
theorem l7Num_l0 (ask : Bool) (m : Nat) (L : List (List Int)) (hm : m ≤ 8) (hA : Apart m L) : ∀ (t : Nat) (out : List Int), t ≤ 3 ^ m → out.length = 3 ^ m → (∀ c, c < 3 ^ m → out.getD c 0 = if t ≤ c then num m L ask c else 0) →
    Ev (fun k => spec_l7Numbers.l0 k ask (m : Int) (cnts m L) out ((t : Int) - 1)) (nums3 m L ask) := by
  have hp := (pow3_le m hm).2
  intro t
  induction t with
  | zero =>
    intro out _ hl hx
    refine Ev.step (fun k => spec_l7Numbers.l0.eq_2 ..) (evn (by omega) (evs ?_))
    exact ext_getD out _ _ hl (fun c hc => by rw [hx c hc, if_pos (Nat.zero_le _)])
  | succ t ih =>
    intro out ht hl hx
    have hcl : (cnts m L).length = 3 ^ m := by simp [cnts]
    have wt : wrap64 ((t : Int) - 1) = (t : Int) - 1 := w64 (by omega) (by omega)
    have a0 : (0 : Int) ≤ (t : Int) := Int.natCast_nonneg _
    have a1 : (t : Int) < ((cnts m L).length : Int) := by rw [hcl]; exact Int.ofNat_lt.2 ht
    rw [show ((t + 1 : Nat) : Int) - 1 = (t : Int) by omega]
    refine Ev.step (fun k => spec_l7Numbers.l0.eq_2 ..) (evp a0 (evp a0 (evp a1 ?_)))
    rw [rd_nat, show (cnts m L).getD t 0 = ((cnt m L t : Nat) : Int) from mapr_getD _ _ _ ht]
    by_cases e : cnt m L t < 2
    · refine evp (Int.ofNat_lt.2 e) ?_
      rw [wt]
      refine ih out (by omega) hl (fun c hc => ?_)
      rw [hx c hc]
      by_cases e1 : t + 1 ≤ c
      · rw [if_pos e1, if_pos (by omega)]
      · by_cases e2 : t = c
        · subst e2
          rw [if_neg e1, if_pos (Nat.le_refl _), num_few _ _ _ _ e]
        · rw [if_neg e1, if_neg (by omega)]
    · refine evn (fun h => e (Int.ofNat_lt.1 h)) ?_
      refine l7Num_l1 ask m L hm hA out hl t (by omega) (fun x h1 h2 => by rw [hx x h2, if_pos (show t + 1 ≤ x from h1)]) _ m 0 (-1) (by omega) ?_
      rw [← List.range_eq_range', ← num_big m L ask t (by omega) e, wt]
      refine ih _ (by omega) (by rw [List.length_set]; exact hl) (fun c hc => ?_)
      rw [set_getD _ _ _ _ (by omega), hx c hc]
      by_cases e1 : c = t
      · subst e1; rw [if_pos rfl, if_pos (Nat.le_refl _)]
      · rw [if_neg e1]
        by_cases e2 : t + 1 ≤ c
        · rw [if_pos e2, if_pos (by omega)]
        · rw [if_neg e2, if_neg (by omega)]
theorem l7Numbers (l : List (List Int)) (ask : Bool) (h : classB l = true) : Ev (fun k => spec_l7Numbers.f k l ask) (nums3 (rdl l 0).length l ask) := by
  obtain ⟨h1, h2, h3⟩ := classB_cls h
  have hp := pow3_le _ h2
  unfold spec_l7Numbers.f
  refine evp (by omega) (evb (l7Counts l h) ?_)
  rw [show rd_L1 l 0 = rdl l 0 from rdL_nat'' l 0]
  refine evb (l7Powers _ h2) (evp (by omega) (evp (by omega) (evb (Ev.now _) ?_)))
  rw [Int.toNat_natCast, List.length_replicate, w64 (by omega) (by omega)]
  refine l7Num_l0 ask _ l h2 h3.apart (3 ^ (rdl l 0).length) _ (Nat.le_refl _) (by simp) (fun c hc => ?_)
  rw [if_neg (show ¬ 3 ^ (rdl l 0).length ≤ c by omega)]
  simp [List.getD_eq_getElem?_getD, List.getElem?_replicate, hc]
/-- What both return. -/
def numV (ask : Bool) (l : List (List Int)) : Int × Bool := if classB l = true then (num (rdl l 0).length l ask 0, true) else (0, false)
theorem nums3_0 (m : Nat) (L : List (List Int)) (ask : Bool) : rd (nums3 m L ask) 0 = num m L ask 0 := by
  have := mapr_getD (fun c => num m L ask c) (3 ^ m) 0 (Nat.pow_pos (by decide))
  rw [show (0 : Int) = ((0 : Nat) : Int) from rfl, rd_nat]; exact this
theorem nums3_len (m : Nat) (L : List (List Int)) (ask : Bool) : (0 : Int) < ((nums3 m L ask).length : Int) := by
  have := Nat.pow_pos (n := m) (show 0 < 3 by decide)
  simp only [nums3, List.length_map, List.length_range]; omega

/-! ### impl_IsClass spec_l7Counts -/
theorem kset_seto (r : List Int) : ∀ j, kset r j = seto j r := by
  intro j
  induction j with
  | zero => rfl
  | succ j ih =>
    simp only [kset, seto, bsum]
    rw [ih, rd_nat]
    unfold seto
    by_cases e : r.getD j 0 = 1
    · rw [if_pos e, if_pos (beq_iff_eq.2 e), or_low _ _ (bsum_lt _ j)]
    · rw [if_neg e, if_neg (fun h => e (beq_iff_eq.1 h)), Nat.add_zero]
theorem kleft_cnt (m : Nat) (hm : m ≤ 8) (L : List (List Int)) (hlen : ∀ r ∈ L, r.length = m) (c : Nat) : kleft (ksets L) ((plc m c : Nat) : Int) ((one m c : Nat) : Int) = ((cnt m L c : Nat) : Int) := by
  unfold kleft ksets cnt
  rw [List.countP_map]
  congr 1
  apply List.countP_congr
  intro r hr
  have e1 : 2 ^ m ≤ 256 := Nat.pow_le_pow_right (n := 2) (by decide) hm
  have b1 : seto m r < 2 ^ 63 := Nat.lt_of_lt_of_le (bsum_lt _ m) (Nat.le_trans e1 (by decide))
  have b2 : plc m c < 2 ^ 63 := Nat.lt_of_lt_of_le (bsum_lt _ m) (Nat.le_trans e1 (by decide))
  rw [Function.comp_apply, hlen r hr, kset_seto, and_nat _ _ b1 b2, beq_iff_eq, agr_set]
  exact ⟨fun h => Int.ofNat.inj h, fun h => by rw [h]⟩
theorem kadd_nat (a i : Nat) (ha : a < 256) (hi : i < 8) : kadd (a : Int) i = ((a ||| 2 ^ i : Nat) : Int) := by
  unfold kadd
  exact or_nat _ _ (by omega) (Nat.lt_of_lt_of_le (pow_lt i 8 hi) (by decide))
theorem plc_lt (m c : Nat) (hm : m ≤ 8) : plc m c < 256 := Nat.lt_of_lt_of_le (bsum_lt _ m) (Nat.pow_le_pow_right (n := 2) (by decide) hm)
theorem one_lt (m c : Nat) (hm : m ≤ 8) : one m c < 256 := Nat.lt_of_lt_of_le (bsum_lt _ m) (Nat.pow_le_pow_right (n := 2) (by decide) hm)
theorem kparts_parts (m : Nat) (hm : m ≤ 8) (L : List (List Int)) (hlen : ∀ r ∈ L, r.length = m) (c i : Nat) (hi : i < m) : kparts (ksets L) ((plc m c : Nat) : Int) ((one m c : Nat) : Int) i = parts m L c i := by
  have p1 := plc_lt m c hm
  have p2 := one_lt m c hm
  unfold kparts parts
  rw [digit _ _ (Nat.lt_of_lt_of_le p1 (by decide)) (by omega), kadd_nat _ _ p1 (by omega), kadd_nat _ _ p2 (by omega)]
  have hb := plc_bit m c i hi
  rw [testBit_bit] at hb
  by_cases h0 : dg c i = 0
  · have hp1 := plc_put m c i 1 hi h0 (by decide) (by decide)
    have hp2 := plc_put m c i 2 hi h0 (by decide) (by decide)
    rw [Nat.one_mul] at hp1
    have e0 : bit (plc m c) i = 0 := by
      rw [h0] at hb
      have h2 := bit_lt (plc m c) i
      have : ¬ bit (plc m c) i = 1 := fun e => by rw [decide_eq_true e] at hb; exact absurd hb (by decide)
      omega
    have k1 := kleft_cnt m hm L hlen (c + 3 ^ i)
    have k2 := kleft_cnt m hm L hlen (c + 2 * 3 ^ i)
    rw [← hp1, ← one_put1 m c i h0] at k1
    rw [← hp2, ← one_put2 m c i hi h0] at k2
    rw [k1, k2, e0, h0]
    simp
  · have e1 : bit (plc m c) i = 1 := by
      rw [beq_eq_false_iff_ne.2 h0] at hb
      exact of_decide_eq_true hb
    rw [e1, beq_eq_false_iff_ne.2 h0]
    rfl
theorem kst_upd (best x y : Int) (hx : 0 ≤ x ∧ x ≤ 8) (hy : 0 ≤ y ∧ y ≤ 8) : kst false best x y = max best (1 + min x y) ∧ kst true best x y = min best (1 + max x y) := by
  unfold kst
  rw [if_neg (by decide), if_pos rfl]
  have e1 : (if y < x then y else x) = min x y := by split <;> omega
  have e2 : (if x < y then y else x) = max x y := by split <;> omega
  rw [e1, e2, show wrap64 (1 + min x y) = 1 + min x y by unfold wrap64; omega, show wrap64 (1 + max x y) = 1 + max x y by unfold wrap64; omega]
  constructor
  · split <;> omega
  · split <;> omega
theorem kq_num (ask : Bool) (m : Nat) (hm : m ≤ 8) (L : List (List Int)) (hC : Cls m L) : ∀ (f c : Nat), c < 3 ^ m → zeros m c < f → knq ask (ksets L) m f ((plc m c : Nat) : Int) ((one m c : Nat) : Int) = some (num m L ask c) := by
  intro f
  induction f with
  | zero => intro c _ h; omega
  | succ f ih =>
    intro c hc hz
    have p1 := plc_lt m c hm
    have p2 := one_lt m c hm
    have hA := hC.apart
    have hzm := zeros_le m c
    have hbd := num_bd m L ask hA _ c (Nat.le_refl _)
    unfold knq
    rw [if_pos ⟨⟨by omega, by omega⟩, by omega, by omega⟩, kleft_cnt m hm L hC.len c]
    have step : ∀ (l : List Nat) (b : Int), (∀ i ∈ l, i < m) → l.foldlM (kstep ask (ksets L) (knq ask (ksets L) m f) ((plc m c : Nat) : Int) ((one m c : Nat) : Int)) b =
        some (l.foldl (fun best k => if parts m L c k = true then kst ask best (num m L ask (c + 3 ^ k)) (num m L ask (c + 2 * 3 ^ k)) else best) b) := by
      intro l
      induction l with
      | nil => intro b _; rfl
      | cons i l ihl =>
        intro b hl
        have hi := hl i List.mem_cons_self
        rw [List.foldlM_cons, List.foldl_cons]
        have e1 : kstep ask (ksets L) (knq ask (ksets L) m f) ((plc m c : Nat) : Int) ((one m c : Nat) : Int) b i = some (if parts m L c i = true then kst ask b (num m L ask (c + 3 ^ i)) (num m L ask (c + 2 * 3 ^ i)) else b) := by
          unfold kstep
          rw [kparts_parts m hm L hC.len c i hi]
          by_cases e : parts m L c i = true
          · rw [if_pos e, if_pos e]
            obtain ⟨h0, _, _⟩ := (parts_iff ..).1 e
            have hp1 := plc_put m c i 1 hi h0 (by decide) (by decide)
            have hp2 := plc_put m c i 2 hi h0 (by decide) (by decide)
            have z1 := zeros_put m c i 1 hi h0 (by decide) (by decide)
            have z2 := zeros_put m c i 2 hi h0 (by decide) (by decide)
            have b1 := dg_lt_pow m c i 1 hc hi h0 (by decide)
            have b2 := dg_lt_pow m c i 2 hc hi h0 (by decide)
            rw [Nat.one_mul] at hp1 z1 b1
            have i1 := ih (c + 3 ^ i) b1 (by omega)
            have i2 := ih (c + 2 * 3 ^ i) b2 (by omega)
            rw [← hp1, ← one_put1 m c i h0] at i1
            rw [← hp2, ← one_put2 m c i hi h0] at i2
            rw [kadd_nat _ _ p1 (by omega), kadd_nat _ _ p2 (by omega), i1]
            simp only [Option.bind_some]
            rw [i2]; rfl
          · rw [if_neg e, if_neg e]
        rw [e1]
        exact ihl _ (fun j hj => hl j (List.mem_cons_of_mem _ hj))
    have conv : ∀ b : Int, (List.range m).foldl (fun best k => if parts m L c k = true then kst ask best (num m L ask (c + 3 ^ k)) (num m L ask (c + 2 * 3 ^ k)) else best) b =
        (List.range m).foldl (fun best k => if parts m L c k = true then (if ask = true then min best (1 + max (num m L ask (c + 3 ^ k)) (num m L ask (c + 2 * 3 ^ k))) else max best (1 + min (num m L ask (c + 3 ^ k)) (num m L ask (c + 2 * 3 ^ k)))) else best) b := by
      intro b
      congr 1
      funext best k
      have n1 := num_bd m L ask hA _ (c + 3 ^ k) (Nat.le_refl _)
      have n2 := num_bd m L ask hA _ (c + 2 * 3 ^ k) (Nat.le_refl _)
      have z1 := zeros_le m (c + 3 ^ k)
      have z2 := zeros_le m (c + 2 * 3 ^ k)
      have := kst_upd best (num m L ask (c + 3 ^ k)) (num m L ask (c + 2 * 3 ^ k)) ⟨n1.1, by omega⟩ ⟨n2.1, by omega⟩
      cases ask with
      | true => rw [this.2]; rfl
      | false => rw [this.1]; rfl
    have last : (some (num m L ask c)).bind (fun r : Int => if 0 ≤ r ∧ r ≤ 99 then some r else none) = some (num m L ask c) := by
      rw [Option.bind_some, if_pos ⟨hbd.1, by omega⟩]
    rw [step _ _ (fun i hi => List.mem_range.1 hi), conv]
    cases ask with
    | false =>
      rw [if_neg (by simp), if_neg (by decide)]
      have := num_most m L hA c hc
      simp only [Bool.false_eq_true, if_false]
      rw [this]; exact last
    | true =>
      by_cases e : cnt m L c < 2
      · rw [if_pos ⟨rfl, by omega⟩, num_few _ _ _ _ e]
      · rw [if_neg (fun h => h.2 (by omega)), if_pos rfl]
        have := num_least m L hm hA c hc e
        simp only [if_true]
        rw [this]; exact last
theorem kq_all (ask : Bool) (l : List (List Int)) (h : classB l = true) : knq ask (ksets l) (rdl l 0).length 9 0 0 = some (num (rdl l 0).length l ask 0) := by
  obtain ⟨h1, h2, h3⟩ := classB_cls h
  have := kq_num ask _ h2 l h3 9 0 (Nat.pow_pos (by decide)) (by have := zeros_le (rdl l 0).length 0; omega)
  rw [plc_zero, one_zero] at this
  exact this

/-! ### spec_FirstQuestion spec_l7Numbers spec_l7Class spec_l7Counts -/
def fqL (m : Nat) (L : List (List Int)) : List Nat → Int × Bool
  | [] => (0, false)
  | i :: r => if parts m L 0 i = true ∧ 1 + max (num m L true (3 ^ i)) (num m L true (2 * 3 ^ i)) = num m L true 0 then ((i : Int), true) else fqL m L r
def fqV (l : List (List Int)) : Int × Bool := if classB l = true ∧ 2 ≤ l.length then fqL (rdl l 0).length l (List.range (rdl l 0).length) else (0, false)
theorem sFirst_l0 (l : List (List Int)) (hc : classB l = true) : ∀ (d i : Nat), i + d = (rdl l 0).length → Ev (fun k => spec_FirstQuestion.l0 k l (nums3 (rdl l 0).length l true) (cnts (rdl l 0).length l) (i : Int)) (fqL (rdl l 0).length l (List.range' i d)) := by
  obtain ⟨h1, h2, h3⟩ := classB_cls hc
  generalize hm : (rdl l 0).length = m at *
  have hcl : (cnts m l).length = 3 ^ m := by simp [cnts]
  have hnl : (nums3 m l true).length = 3 ^ m := by simp [nums3]
  have hl0 : (0 : Int) < (l.length : Int) := by omega
  have hq := (pow3_le m h2).1
  intro d
  induction d with
  | zero =>
    intro i hi
    refine Ev.step (fun k => spec_FirstQuestion.l0.eq_2 ..) (evp hl0 ?_)
    rw [show rd_L1 l 0 = rdl l 0 from rdL_nat'' l 0, hm]
    exact evn (by omega) (evs rfl)
  | succ d ih =>
    intro i hi
    have him : i < m := by omega
    have hP := l7Powers i (by omega)
    have b1 := dg_lt_pow m 0 i 1 (by omega) him (dg_zero i) (by decide)
    have b2 := dg_lt_pow m 0 i 2 (by omega) him (dg_zero i) (by decide)
    rw [Nat.zero_add, Nat.one_mul] at b1
    rw [Nat.zero_add] at b2
    have n1 := num_bd m l true h3.apart _ (3 ^ i) (Nat.le_refl _)
    have n2 := num_bd m l true h3.apart _ (2 * 3 ^ i) (Nat.le_refl _)
    have z1 := zeros_le m (3 ^ i)
    have z2 := zeros_le m (2 * 3 ^ i)
    have g1 : (cnts m l).getD (3 ^ i) 0 = ((cnt m l (3 ^ i) : Nat) : Int) := mapr_getD _ _ _ b1
    have g2 : (cnts m l).getD (2 * 3 ^ i) 0 = ((cnt m l (2 * 3 ^ i) : Nat) : Int) := mapr_getD _ _ _ b2
    have o1 : (nums3 m l true).getD (3 ^ i) 0 = num m l true (3 ^ i) := mapr_getD _ _ _ b1
    have o2 : (nums3 m l true).getD (2 * 3 ^ i) 0 = num m l true (2 * 3 ^ i) := mapr_getD _ _ _ b2
    have hpar : parts m l 0 i = (decide (0 < cnt m l (3 ^ i)) && decide (0 < cnt m l (2 * 3 ^ i))) := by
      unfold parts; rw [dg_zero, Nat.zero_add, Nat.zero_add]; rfl
    have hx : 0 ≤ max (num m l true (3 ^ i)) (num m l true (2 * 3 ^ i)) ∧ max (num m l true (3 ^ i)) (num m l true (2 * 3 ^ i)) ≤ 8 := ⟨Int.le_trans n1.1 (Int.le_max_left _ _), Int.max_le.2 ⟨by have := n1.2; omega, by have := n2.2; omega⟩⟩
    have w2 : wrap64 (2 * ((3 ^ i : Nat) : Int)) = ((2 * 3 ^ i : Nat) : Int) := by
      have := (pow3_le i (by omega)).2
      generalize 3 ^ i = p at this ⊢
      unfold wrap64; omega
    have a0 : (0 : Int) ≤ ((3 ^ i : Nat) : Int) := Int.natCast_nonneg _
    have a1 : ((3 ^ i : Nat) : Int) < ((cnts m l).length : Int) := by rw [hcl]; exact Int.ofNat_lt.2 b1
    have a2 : (0 : Int) ≤ ((2 * 3 ^ i : Nat) : Int) := Int.natCast_nonneg _
    have a3 : ((2 * 3 ^ i : Nat) : Int) < ((cnts m l).length : Int) := by rw [hcl]; exact Int.ofNat_lt.2 b2
    have a1' : ((3 ^ i : Nat) : Int) < ((nums3 m l true).length : Int) := by rw [hnl]; exact Int.ofNat_lt.2 b1
    have a3' : ((2 * 3 ^ i : Nat) : Int) < ((nums3 m l true).length : Int) := by rw [hnl]; exact Int.ofNat_lt.2 b2
    have hnx := ih (i + 1) (by omega)
    rw [List.range'_succ]
    simp only [fqL]
    have skip : parts m l 0 i = false → Ev (fun k => spec_FirstQuestion.l0 k l (nums3 m l true) (cnts m l) (wrap64 ((i : Int) + 1))) (if parts m l 0 i = true ∧ 1 + max (num m l true (3 ^ i)) (num m l true (2 * 3 ^ i)) = num m l true 0 then ((i : Int), true) else fqL m l (List.range' (i + 1) d)) := by
      intro e
      rw [if_neg (fun h => by rw [e] at h; exact absurd h.1 (by decide)), w64s i (by omega)]
      exact hnx
    refine Ev.step (fun k => spec_FirstQuestion.l0.eq_2 ..) (evp hl0 ?_)
    rw [show rd_L1 l 0 = rdl l 0 from rdL_nat'' l 0, hm]
    refine evp (Int.ofNat_lt.2 him) (evb hP (evb hP (evp a0 (evp a1 ?_))))
    rw [rd_nat, g1, w2]
    by_cases e1 : cnt m l (3 ^ i) = 0
    · refine evn (by rw [e1]; decide) (skip ?_)
      rw [hpar, e1]; rfl
    · have d1 : decide (0 < cnt m l (3 ^ i)) = true := decide_eq_true (Nat.pos_of_ne_zero e1)
      refine evp (Int.ofNat_lt.2 (Nat.pos_of_ne_zero e1)) (evp a2 (evp a3 ?_))
      rw [rd_nat, g2]
      by_cases e2 : cnt m l (2 * 3 ^ i) = 0
      · refine evn (by rw [e2]; decide) (skip ?_)
        rw [hpar, e2]; simp
      · have d2 : decide (0 < cnt m l (2 * 3 ^ i)) = true := decide_eq_true (Nat.pos_of_ne_zero e2)
        have hpt : parts m l 0 i = true := by rw [hpar, d1, d2]; rfl
        refine evp (Int.ofNat_lt.2 (Nat.pos_of_ne_zero e2)) (evp a1' (evp a3' ?_))
        rw [rd_nat, rd_nat, o1, o2]
        refine evb (evc (kn_most _ _)) (evp (nums3_len m l true) ?_)
        rw [kw_one _ hx.1 hx.2, nums3_0]
        by_cases e3 : 1 + max (num m l true (3 ^ i)) (num m l true (2 * 3 ^ i)) = num m l true 0
        · rw [if_pos ⟨hpt, e3⟩]
          exact evp e3 (evs rfl)
        · rw [if_neg (fun h => e3 h.2)]
          refine evn e3 ?_
          rw [w64s i (by omega)]
          exact hnx
theorem sFirstQuestion (l : List (List Int)) (hx : l.length ≤ 1048576) (hr : ∀ r ∈ l, (r.length : Int) ≤ 1048576) : Ev (fun k => spec_FirstQuestion.f k l) (fqV l) := by
  unfold spec_FirstQuestion.f
  refine evb (l7Class l hx hr) ?_
  by_cases h : classB l = true
  · refine evp h (Ev.step (fun k => spec_FirstQuestion.j0.eq_2 ..) ?_)
    by_cases h2 : (l.length : Int) < 2
    · rw [show fqV l = (0, false) by unfold fqV; rw [if_neg (fun h' => by have := h'.2; omega)]]
      exact evp (decide_eq_true h2) (evs rfl)
    · rw [show fqV l = fqL (rdl l 0).length l (List.range (rdl l 0).length) by unfold fqV; rw [if_pos ⟨h, by omega⟩]]
      refine evn (by rw [decide_eq_false h2]; simp) (evb (l7Numbers l true h) (evb (l7Counts l h) ?_))
      have := sFirst_l0 l h (rdl l 0).length 0 (by omega)
      rw [← List.range_eq_range'] at this
      exact this
  · rw [show fqV l = (0, false) by unfold fqV; rw [if_neg (fun h' => h h'.1)]]
    exact evn h (Ev.step (fun k => spec_FirstQuestion.j0.eq_2 ..) (evp rfl (evs rfl)))

/-! ### impl_FirstQuestion impl_IsClass spec_l7Counts spec_FirstQuestion -/
theorem fqs_all (m : Nat) (hm : m ≤ 8) (L : List (List Int)) (hC : Cls m L) : ∀ r : List Nat, (∀ i ∈ r, i < m) → fqs (ksets L) m r = some (fqL m L r) := by
  intro r
  induction r with
  | nil => intro _; rfl
  | cons i r ih =>
    intro h
    have hi := h i List.mem_cons_self
    have hnx := ih (fun j hj => h j (List.mem_cons_of_mem _ hj))
    have hA := hC.apart
    have hk := kparts_parts m hm L hC.len 0 i hi
    rw [plc_zero, one_zero] at hk
    unfold fqs fqL
    rw [show kparts (ksets L) 0 0 i = parts m L 0 i from hk]
    by_cases e : parts m L 0 i = true
    · rw [if_pos e]
      have h0 := dg_zero i
      have hp1 := plc_put m 0 i 1 hi h0 (by decide) (by decide)
      have hp2 := plc_put m 0 i 2 hi h0 (by decide) (by decide)
      have b1 := dg_lt_pow m 0 i 1 (Nat.pow_pos (by decide)) hi h0 (by decide)
      have b2 := dg_lt_pow m 0 i 2 (Nat.pow_pos (by decide)) hi h0 (by decide)
      have ho1 := one_put1 m 0 i h0
      have ho2 := one_put2 m 0 i hi h0
      rw [Nat.one_mul] at hp1 b1
      rw [Nat.zero_add] at hp1 hp2 b1 b2 ho1 ho2
      rw [plc_zero] at hp1 hp2
      rw [one_zero] at ho1 ho2
      have k0 := kadd_nat 0 i (by decide) (by omega)
      rw [show ((0 : Nat) : Int) = 0 from rfl] at k0
      have y1 := kq_num true m hm L hC 9 (3 ^ i) b1 (by have := zeros_le m (3 ^ i); omega)
      have y2 := kq_num true m hm L hC 9 (2 * 3 ^ i) b2 (by have := zeros_le m (2 * 3 ^ i); omega)
      have y0 := kq_num true m hm L hC 9 0 (Nat.pow_pos (by decide)) (by have := zeros_le m 0; omega)
      rw [← hp1, ← ho1] at y1
      rw [← hp2, ← ho2] at y2
      rw [plc_zero, one_zero] at y0
      rw [show ((0 : Nat) : Int) = 0 from rfl] at y0 y1
      have n1 := num_bd m L true hA _ (3 ^ i) (Nat.le_refl _)
      have n2 := num_bd m L true hA _ (2 * 3 ^ i) (Nat.le_refl _)
      have z1 := zeros_le m (3 ^ i)
      have z2 := zeros_le m (2 * 3 ^ i)
      rw [k0, y1]
      simp only [Option.bind_some]
      rw [y2]
      simp only [Option.bind_some]
      rw [y0]
      simp only [Option.bind_some]
      have ew : wrap64 (1 + if num m L true (3 ^ i) < num m L true (2 * 3 ^ i) then num m L true (2 * 3 ^ i) else num m L true (3 ^ i)) = 1 + max (num m L true (3 ^ i)) (num m L true (2 * 3 ^ i)) := by
        rw [show (if num m L true (3 ^ i) < num m L true (2 * 3 ^ i) then num m L true (2 * 3 ^ i) else num m L true (3 ^ i)) = max (num m L true (3 ^ i)) (num m L true (2 * 3 ^ i)) by split <;> omega]
        unfold wrap64; omega
      rw [ew]
      by_cases e3 : 1 + max (num m L true (3 ^ i)) (num m L true (2 * 3 ^ i)) = num m L true 0
      · rw [if_pos e3, if_pos ⟨e, e3⟩]
      · rw [if_neg e3, if_neg (fun h => e3 h.2)]; exact hnx
    · rw [if_neg e, if_neg (fun h => e h.1)]; exact hnx
theorem iFirstQuestion (l : List (List Int)) (hx : l.length ≤ 1048576) (hr : ∀ r ∈ l, (r.length : Int) ≤ 1048576) : Ev (fun k => impl_FirstQuestion.f k l) (fqV l) := by
  unfold impl_FirstQuestion.f
  refine evb (iIsClass l hx hr) ?_
  by_cases h : classB l = true
  · obtain ⟨h1, h2, h3⟩ := classB_cls h
    refine evp h ?_
    by_cases e : (l.length : Int) = 1
    · rw [show fqV l = (0, false) by unfold fqV; rw [if_neg (fun h' => by have := h'.2; omega)]]
      exact evp e (evs rfl)
    · rw [show fqV l = fqL (rdl l 0).length l (List.range (rdl l 0).length) by unfold fqV; rw [if_pos ⟨h, by omega⟩], show rd_L1 l 0 = rdl l 0 from rdL_nat'' l 0]
      exact evn e (evp ⟨⟨by omega, by omega⟩, h2, fun r hr => by rw [h3.len r hr]; exact h2⟩ (evc (fqs_all _ h2 l h3 _ (fun i hi => List.mem_range.1 hi))))
  · rw [show fqV l = (0, false) by unfold fqV; rw [if_neg (fun h' => h h'.1)]]
    exact evn h (evs rfl)

/-! ### laws_FnExactFirstQuestion -/
theorem law (c : List (List Int)) (hc : c.length ≤ maxLen) (hr : ∀ r ∈ c, r.length ≤ maxLen) : Ev (fun k => laws_FnExactFirstQuestion.f k c) true := by
  unfold laws_FnExactFirstQuestion.f
  refine evb (szIntSS c 1048576 (by omega) (by omega) hc hr) ?_
  obtain ⟨h1, h2, h3⟩ := szv_ok c 1048576 (by omega)
  by_cases h : 0 ≤ szv c 1048576
  · obtain ⟨h4, h5⟩ := h3 h
    refine evn (by omega) ?_
    have hs := sFirstQuestion c (by omega) h5
    have hi := iFirstQuestion c (by omega) h5
    generalize fqV c = R at *
    repeat (first
    | exact evs rfl
    | dsimp only
    | (with_reducible refine evb hs ?_)
    | (with_reducible refine evb hi ?_)
    | ((with_reducible refine evb (toIntS _ ?_) ?_); (focus (first | omega | assumption)))
    | ((with_reducible refine evb (eqIntS _ _ ?_) ?_); (focus (first | omega | assumption)))
    | ((with_reducible refine evb (toIntSS _ ?_ ?_) ?_); (focus (first | omega | assumption)); (focus (first | omega | assumption)))
    | ((with_reducible refine evb (eqIntSS _ _ ?_ ?_) ?_); (focus (first | omega | assumption)); (focus (first | omega | assumption)))
    | (refine evp ?_ ?_; focus (first | omega | (simp; done)))
    | (refine evn ?_ ?_; focus (first | omega | (simp; done)))
    | (with_reducible refine Ev.step (fun k => laws_FnExactFirstQuestion.j0.eq_2 ..) ?_)
    )
  · exact evp (by omega) (evs rfl)

end Go.Proofs.Ytddpdeoflaigeaa.LFnExactFirstQuestion
