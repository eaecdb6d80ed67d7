/- Own lemmas: what the printed functions of one law come to. -/
import Derived.Test.YtheohibankpfeaaMFnExactIsClassx4
import Derived.Test.YtheohibankpfeaaBase
namespace Go.Proofs.Ytheohibankpfeaa.LFnExactIsClass
open Go Go.RowKit Go.Proofs.Ytheohibankpfeaa.Base Go.Proofs.Ytheohibankpfeaa.PFnExactIsClass Go.Proofs.YtheohibankpfeaaW.PrintWords Go.Proofs.YtheohibankpfeaaW.PrintLast Go.Proofs.YtheohibankpfeaaW.PrintMore
set_option linter.unusedVariables false
set_option linter.unusedSimpArgs false
set_option maxRecDepth 4000

/-! ### laws_toIntS -/
theorem toIntS_l0 (x0 : List Int) (hx : x0.length < 4611686018427387904) : ∀ (d i : Nat) (x3 : List Int), i + d = x0.length → x3.length = x0.length →
    Ev (fun k => laws_toIntS.l0 k x0 x3 (i : Int)) (x3.take i ++ x0.drop i) := by
  intro d
  induction d with
  | zero =>
    intro i x3 hi hl
    refine Ev.step (fun k => laws_toIntS.l0.eq_2 ..) (evn (by omega) (evs ?_))
    simp [List.take_of_length_le (show x3.length ≤ i by omega), List.drop_of_length_le (show x0.length ≤ i by omega)]
  | succ d ih =>
    intro i x3 hi hl
    refine Ev.step (fun k => laws_toIntS.l0.eq_2 ..) (evp (by omega) (evp (by omega) (evp (by omega) ?_)))
    rw [w64s i (by omega), rd_nat]
    refine evr (ih (i + 1) _ (by omega) (by simpa using hl)) ?_
    rw [Int.toNat_natCast, set_take _ _ _ (by omega), List.drop_eq_getElem_cons (show i < x0.length by omega), List.append_assoc]
    simp [List.getD_eq_getElem?_getD, List.getElem?_eq_getElem (show i < x0.length by omega)]
theorem toIntS (l : List Int) (h : l.length ≤ 35184372088832) : Ev (fun k => laws_toIntS.f k l) l := by
  unfold laws_toIntS.f
  refine evp (by omega) (evp (by simpa using h) ?_)
  refine evr (toIntS_l0 l (by omega) l.length 0 _ (by omega) (by simp)) (by simp)

/-! ### laws_eqIntS -/
theorem eqIntS_l0 (a b : List Int) (hl : a.length = b.length) (hx : a.length < 4611686018427387904) : ∀ (d i : Nat), i + d = a.length →
    Ev (fun k => laws_eqIntS.l0 k a b (i : Int)) (decide (a.drop i = b.drop i)) := by
  intro d
  induction d with
  | zero =>
    intro i hi
    refine Ev.step (fun k => laws_eqIntS.l0.eq_2 ..) (evn (by omega) (evs ?_))
    simp [List.drop_of_length_le (show a.length ≤ i by omega), List.drop_of_length_le (show b.length ≤ i by omega)]
  | succ d ih =>
    intro i hi
    refine Ev.step (fun k => laws_eqIntS.l0.eq_2 ..) (evp (by omega) (evp (by omega) (evp (by omega) ?_)))
    rw [w64s i (by omega), rd_nat, rd_nat]
    have ea := List.drop_eq_getElem_cons (show i < a.length by omega)
    have eb := List.drop_eq_getElem_cons (show i < b.length by omega)
    simp only [List.getD_eq_getElem?_getD, List.getElem?_eq_getElem (show i < a.length by omega), List.getElem?_eq_getElem (show i < b.length by omega), Option.getD_some]
    by_cases e : a[i] = b[i]
    · refine evp e (evr (ih (i + 1) (by omega)) ?_)
      rw [ea, eb, e]; simp only [List.cons.injEq, true_and]
    · refine evn e (evs ?_)
      rw [ea, eb]; simp only [List.cons.injEq, e, false_and, decide_false]
theorem eqIntS (a b : List Int) (hx : a.length < 4611686018427387904) : Ev (fun k => laws_eqIntS.f k a b) (decide (a = b)) := by
  unfold laws_eqIntS.f
  by_cases h : a.length = b.length
  · refine evp (by omega) (evr (eqIntS_l0 a b h hx a.length 0 (by omega)) (by simp))
  · refine evn (by omega) (evs ?_)
    have : a ≠ b := fun e => h (by rw [e])
    simp [this]

/-! ### spec_l1In -/
theorem l1In (a b c : Int) : spec_l1In.f a b c = some (decide (b ≤ a ∧ a ≤ c)) := by
  unfold spec_l1In.f; split <;> simp_all <;> omega

/-! ### impl_within -/
theorem within (a b c : Int) : impl_within.f a b c = some (decide (b ≤ a ∧ a ≤ c)) := by
  unfold impl_within.f; split <;> simp_all <;> omega

/-! ### laws_szIntS -/
theorem szIntS (l : List Int) (m : Int) (h0 : 0 ≤ m) (hm : m ≤ 1048576) (hl : l.length ≤ maxLen) : laws_szIntS.f l m = some (if (l.length : Int) ≤ m then m - l.length else -1) := by
  unfold maxLen at hl
  unfold laws_szIntS.f
  rw [w64 (x := m - (l.length : Int)) (by omega) (by omega)]
  by_cases h : (l.length : Int) ≤ m
  · rw [if_neg (by omega), if_pos h]
  · rw [if_pos (by omega), if_neg h]

/-! ### laws_szIntSS laws_szIntS -/
theorem rdL_nat (l : List (List Int)) (i : Nat) : rd_L1 l (i : Int) = rdl l i := by simp [rd_L1, rdl]
theorem szIntSS_l0 (l : List (List Int)) (hl : l.length ≤ 1048576) (hr : ∀ r ∈ l, r.length ≤ maxLen) : ∀ (d i : Nat) (m : Int), i + d = l.length → 0 ≤ m → m ≤ 1048576 →
    Ev (fun k => laws_szIntSS.l0 k l m (i : Int)) (rowsz (l.drop i) m) := by
  intro d
  induction d with
  | zero =>
    intro i m hi h0 hm
    exact Ev.step (fun k => laws_szIntSS.l0.eq_2 ..) (evn (by omega) (evs (by rw [List.drop_of_length_le (show l.length ≤ i by omega)]; rfl)))
  | succ d ih =>
    intro i m hi h0 hm
    refine Ev.step (fun k => laws_szIntSS.l0.eq_2 ..) (evp (by omega) (evp (by omega) ?_))
    rw [rdL_nat, szIntS _ m h0 hm (hr _ (rdl_mem l i (by omega))), w64s i (by omega), rdl_drop l i (by omega)]
    simp only [Option.bind_some, rowsz]
    by_cases e : ((rdl l i).length : Int) ≤ m
    · rw [if_pos e, if_pos e]
      exact evn (by omega) (ih (i + 1) _ (by omega) (by omega) (by omega))
    · rw [if_neg e, if_neg e]
      exact evp (by omega) (evs rfl)
theorem szIntSS (l : List (List Int)) (m : Int) (h0 : 0 ≤ m) (hm : m ≤ 1048576) (hl : l.length ≤ maxLen) (hr : ∀ r ∈ l, r.length ≤ maxLen) : Ev (fun k => laws_szIntSS.f k l m) (szv l m) := by
  unfold maxLen at hl
  unfold laws_szIntSS.f szv
  rw [w64 (x := m - (l.length : Int)) (by omega) (by omega)]
  by_cases e : (l.length : Int) ≤ m
  · rw [if_pos e]
    exact evn (by omega) (evr (szIntSS_l0 l (by omega) hr l.length 0 _ (by omega) (by omega) (by omega)) (by simp))
  · rw [if_neg e]; exact evp (by omega) (evs rfl)

/-! ### laws_toIntSS laws_toIntS laws_szIntSS -/
theorem toIntSS_l0 (x0 : List (List Int)) (hx : x0.length ≤ 1048576) (hr : ∀ r ∈ x0, (r.length : Int) ≤ 1048576) : ∀ (d i : Nat) (x3 : List (List Int)), i + d = x0.length → x3.length = x0.length →
    Ev (fun k => laws_toIntSS.l0 k x0 x3 (i : Int)) (x3.take i ++ x0.drop i) := by
  intro d
  induction d with
  | zero =>
    intro i x3 hi hl
    refine Ev.step (fun k => laws_toIntSS.l0.eq_2 ..) (evn (by omega) (evs ?_))
    simp [List.take_of_length_le (show x3.length ≤ i by omega), List.drop_of_length_le (show x0.length ≤ i by omega)]
  | succ d ih =>
    intro i x3 hi hl
    have := hr _ (rdl_mem x0 i (by omega))
    refine Ev.step (fun k => laws_toIntSS.l0.eq_2 ..) (evp (by omega) (evp (by omega) ?_))
    rw [w64s i (by omega), rdL_nat]
    refine evb (toIntS _ (by omega)) (evp (by omega) ?_)
    refine evr (ih (i + 1) _ (by omega) (by simpa using hl)) ?_
    rw [Int.toNat_natCast, setl_take _ _ _ (by omega), rdl_drop x0 i (by omega), List.append_assoc]; rfl
theorem toIntSS (l : List (List Int)) (h : l.length ≤ 1048576) (hr : ∀ r ∈ l, (r.length : Int) ≤ 1048576) : Ev (fun k => laws_toIntSS.f k l) l := by
  unfold laws_toIntSS.f
  refine evp (by omega) (evp (by omega) ?_)
  refine evr (toIntSS_l0 l (by omega) hr l.length 0 _ (by omega) (by simp)) (by simp)

/-! ### laws_eqIntSS laws_eqIntS laws_szIntSS -/
theorem eqIntSS_l0 (a b : List (List Int)) (hl : a.length = b.length) (hx : a.length ≤ 1048576) (hr : ∀ r ∈ a, (r.length : Int) ≤ 1048576) : ∀ (d i : Nat), i + d = a.length →
    Ev (fun k => laws_eqIntSS.l0 k a b (i : Int)) (decide (a.drop i = b.drop i)) := by
  intro d
  induction d with
  | zero =>
    intro i hi
    refine Ev.step (fun k => laws_eqIntSS.l0.eq_2 ..) (evn (by omega) (evs ?_))
    simp [List.drop_of_length_le (show a.length ≤ i by omega), List.drop_of_length_le (show b.length ≤ i by omega)]
  | succ d ih =>
    intro i hi
    have := hr _ (rdl_mem a i (by omega))
    refine Ev.step (fun k => laws_eqIntSS.l0.eq_2 ..) (evp (by omega) (evp (by omega) (evp (by omega) ?_)))
    rw [w64s i (by omega), rdL_nat, rdL_nat]
    refine evb (eqIntS _ _ (by omega)) ?_
    rw [rdl_drop a i (by omega), rdl_drop b i (by omega)]
    by_cases e : rdl a i = rdl b i
    · refine evp (by simpa using e) (evr (ih (i + 1) (by omega)) ?_)
      rw [e]; simp only [List.cons.injEq, true_and]
    · refine evn (by simpa using e) (evs ?_)
      simp only [List.cons.injEq, e, false_and, decide_false]
theorem eqIntSS (a b : List (List Int)) (hx : a.length ≤ 1048576) (hr : ∀ r ∈ a, (r.length : Int) ≤ 1048576) : Ev (fun k => laws_eqIntSS.f k a b) (decide (a = b)) := by
  unfold laws_eqIntSS.f
  by_cases h : a.length = b.length
  · refine evp (by omega) (evr (eqIntSS_l0 a b h hx hr a.length 0 (by omega)) (by simp))
  · refine evn (by omega) (evs ?_)
    have : a ≠ b := fun e => h (by rw [e])
    simp [this]

/-! ### spec_l2Labels -/
theorem l2Labels_l0 (l : List Int) (hx : l.length < 4611686018427387904) : ∀ (d i : Nat), i + d = l.length →
    Ev (fun k => spec_l2Labels.l0 k l (i : Int)) (labB (l.drop i)) := by
  intro d
  induction d with
  | zero =>
    intro i hi
    exact Ev.step (fun k => spec_l2Labels.l0.eq_2 ..) (evn (by omega) (evs (by rw [List.drop_of_length_le (show l.length ≤ i by omega)]; rfl)))
  | succ d ih =>
    intro i hi
    refine Ev.step (fun k => spec_l2Labels.l0.eq_2 ..) (evp (by omega) (evp (by omega) ?_))
    rw [w64s i (by omega), rd_nat, List.drop_eq_getElem_cons (show i < l.length by omega)]
    simp only [List.getD_eq_getElem?_getD, List.getElem?_eq_getElem (show i < l.length by omega), Option.getD_some, labB, List.all_cons]
    by_cases e : l[i] = 1
    · exact evp e (evr (ih (i + 1) (by omega)) (by rw [decide_eq_true (.inl e)]; rfl))
    · refine evn e ?_
      by_cases e' : l[i] = -1
      · exact evp e' (evr (ih (i + 1) (by omega)) (by rw [decide_eq_true (.inr e')]; rfl))
      · exact evn e' (evs (by rw [decide_eq_false (fun h => h.elim e e')]; rfl))
theorem l2Labels (l : List Int) (hx : l.length < 4611686018427387904) : Ev (fun k => spec_l2Labels.f k l) (labB l) := by
  unfold spec_l2Labels.f
  exact l2Labels_l0 l hx l.length 0 (by omega)

/-! ### impl_isLabel -/
theorem isLabel (x : Int) : impl_isLabel.f x = some (decide (x = 1 ∨ x = -1)) := by
  unfold impl_isLabel.f
  by_cases e : x = 1
  · rw [if_pos e, decide_eq_true (.inl e)]
  · rw [if_neg e]; congr 1; rw [Bool.eq_iff_iff]; simp [e]

/-! ### impl_areLabels -/
theorem areLabels_l0 (l : List Int) (hx : l.length < 4611686018427387904) : ∀ (d i : Nat), i + d = l.length →
    Ev (fun k => impl_areLabels.l0 k l (l.length : Int) (i : Int)) (labB (l.drop i)) := by
  intro d
  induction d with
  | zero =>
    intro i hi
    exact Ev.step (fun k => impl_areLabels.l0.eq_2 ..) (evn (by omega) (evs (by rw [List.drop_of_length_le (show l.length ≤ i by omega)]; rfl)))
  | succ d ih =>
    intro i hi
    refine Ev.step (fun k => impl_areLabels.l0.eq_2 ..) (evp (by omega) (evp (by omega) (evp (by omega) ?_)))
    rw [w64s i (by omega), rd_nat, isLabel, List.drop_eq_getElem_cons (show i < l.length by omega)]
    simp only [List.getD_eq_getElem?_getD, List.getElem?_eq_getElem (show i < l.length by omega), Option.getD_some, Option.bind_some, labB, List.all_cons]
    by_cases e : l[i] = 1 ∨ l[i] = -1
    · exact evp (by simpa using e) (evr (ih (i + 1) (by omega)) (by rw [decide_eq_true e]; rfl))
    · exact evn (by simpa using e) (evs (by rw [decide_eq_false e]; rfl))
theorem areLabels (l : List Int) (hx : l.length < 4611686018427387904) : Ev (fun k => impl_areLabels.f k l) (labB l) := by
  unfold impl_areLabels.f
  exact areLabels_l0 l hx l.length 0 (by omega)

/-! ### spec_l7Before -/
theorem l7Before_l0 (a b : List Int) (hl : a.length = b.length) (hx : a.length < 4611686018427387904) : ∀ (d i : Nat), i + d = a.length →
    Ev (fun k => spec_l7Before.l0 k a b (i : Int)) (lexB (a.drop i) (b.drop i)) := by
  intro d
  induction d with
  | zero =>
    intro i hi
    exact Ev.step (fun k => spec_l7Before.l0.eq_2 ..) (evn (by omega) (evs (by rw [List.drop_of_length_le (show a.length ≤ i by omega)]; rfl)))
  | succ d ih =>
    intro i hi
    refine Ev.step (fun k => spec_l7Before.l0.eq_2 ..) (evp (by omega) (evp (by omega) (evp (by omega) ?_)))
    rw [w64s i (by omega), rd_nat, rd_nat, List.drop_eq_getElem_cons (show i < a.length by omega), List.drop_eq_getElem_cons (show i < b.length by omega)]
    simp only [List.getD_eq_getElem?_getD, List.getElem?_eq_getElem (show i < a.length by omega), List.getElem?_eq_getElem (show i < b.length by omega), Option.getD_some, lexB]
    by_cases e : a[i] = b[i]
    · exact evp e (evr (ih (i + 1) (by omega)) (by rw [if_pos e]))
    · exact evn e (evs (by rw [if_neg e]))
theorem l7Before (a b : List Int) (hl : a.length = b.length) (hx : a.length < 4611686018427387904) : Ev (fun k => spec_l7Before.f k a b) (lexB a b) := by
  unfold spec_l7Before.f
  exact l7Before_l0 a b hl hx a.length 0 (by omega)

/-! ### cmp_Compare_int -/
theorem compareInt (a b : Int) : cmp_Compare_int.f a b = some (if a < b then -1 else if a > b then 1 else 0) := by
  unfold cmp_Compare_int.f cmp_isNaN_int.f
  simp only [bne_self_eq_false, Option.bind_some, Bool.false_eq_true, if_false]
  split
  · rfl
  · split <;> rfl

/-! ### slices_Compare_int_int cmp_Compare_int -/
theorem compareL_l0 (a b : List Int) (hx : a.length < 4611686018427387904) : ∀ (d i : Nat), i + d = a.length → i ≤ b.length →
    Ev (fun k => slices_Compare_int_int.l0 k a b a (a.length : Int) (i : Int)) (cmpv (a.drop i) (b.drop i)) := by
  intro d
  induction d with
  | zero =>
    intro i hi hb
    refine Ev.step (fun k => slices_Compare_int_int.l0.eq_2 ..) (evn (by omega) ?_)
    rw [List.drop_of_length_le (show a.length ≤ i by omega)]
    by_cases e : a.length < b.length
    · refine evp (by omega) (evs ?_)
      rw [List.drop_eq_getElem_cons (show i < b.length by omega)]; rfl
    · refine evn (by omega) (evs ?_)
      rw [List.drop_of_length_le (show b.length ≤ i by omega)]; rfl
  | succ d ih =>
    intro i hi hb
    refine Ev.step (fun k => slices_Compare_int_int.l0.eq_2 ..) (evp (by omega) (evp (by omega) (evp (by omega) ?_)))
    rw [List.drop_eq_getElem_cons (show i < a.length by omega)]
    by_cases e : i ≥ b.length
    · refine evp (by omega) (evs ?_)
      rw [List.drop_of_length_le (show b.length ≤ i by omega)]; rfl
    · refine evn (by omega) (evp (by omega) ?_)
      rw [rd_nat, rd_nat, compareInt, w64s i (by omega), List.drop_eq_getElem_cons (show i < b.length by omega)]
      simp only [List.getD_eq_getElem?_getD, List.getElem?_eq_getElem (show i < a.length by omega), List.getElem?_eq_getElem (show i < b.length by omega), Option.getD_some, Option.bind_some, cmpv]
      by_cases e1 : a[i] < b[i]
      · rw [if_pos e1]; exact evn (by decide) (evs (by rw [if_pos e1]))
      · rw [if_neg e1]
        by_cases e2 : a[i] > b[i]
        · rw [if_pos e2]; exact evn (by decide) (evs (by rw [if_neg e1, if_pos e2]))
        · rw [if_neg e2]; exact evp rfl (evr (ih (i + 1) (by omega) (by omega)) (by rw [if_neg e1, if_neg e2]))
theorem compareL (a b : List Int) (hx : a.length < 4611686018427387904) : Ev (fun k => slices_Compare_int_int.f k a b) (cmpv a b) := by
  unfold slices_Compare_int_int.f
  exact compareL_l0 a b hx a.length 0 (by omega) (by omega)

/-! ### spec_l7Class -/
theorem rdL_nat' (l : List (List Int)) (i : Nat) : rd_L1 l (i : Int) = rdl l i := by simp [rd_L1, rdl]
theorem l7Class_l0 (l : List (List Int)) (hx : l.length ≤ 1048576) (hr : ∀ r ∈ l, (r.length : Int) ≤ 1048576) : ∀ (d i : Nat), i + d = l.length → (0 < i → (rdl l (i - 1)).length = (rdl l 0).length) →
    Ev (fun k => spec_l7Class.l0 k l (i : Int)) ((List.range' i d).all (rowok l) && decide (1 ≤ l.length ∧ l.length ≤ 256)) := by
  intro d
  induction d with
  | zero =>
    intro i hi _
    refine Ev.step (fun k => spec_l7Class.l0.eq_2 ..) (evn (by omega) (evb (evc (l1In ..)) (evs ?_)))
    rw [show (List.range' i 0).all (rowok l) = true by simp, Bool.true_and]
    exact decide_eq_decide.2 (by omega)
  | succ d ih =>
    intro i hi hp
    have hri := hr _ (rdl_mem l i (by omega))
    have no : rowok l i = false → ((List.range' i (d + 1)).all (rowok l) && decide (1 ≤ l.length ∧ l.length ≤ 256)) = false := by
      intro e; rw [List.range'_succ, List.all_cons, e]; rfl
    refine Ev.step (fun k => spec_l7Class.l0.eq_2 ..) (evp (by omega) (evp (by omega) ?_))
    rw [rdL_nat', show rd_L1 l 0 = rdl l 0 from rdL_nat' l 0]
    by_cases e1 : (rdl l i).length ≤ 8
    · refine evn (by omega) (evp (by omega) ?_)
      by_cases e2 : (rdl l i).length = (rdl l 0).length
      · refine evp (by omega) (evb (l2Labels _ (by omega)) (Ev.step (fun k => spec_l7Class.j1.eq_2 ..) ?_))
        by_cases e3 : labB (rdl l i) = true
        · refine evn (by simp [e3]) ?_
          rw [w64s i (by omega)]
          by_cases e0 : 0 < i
          · refine evp (by omega) ?_
            have hpi := hp e0
            have hrp := hr _ (rdl_mem l (i - 1) (by omega))
            rw [w64 (x := (i : Int) - 1) (by omega) (by omega), show (i : Int) - 1 = ((i - 1 : Nat) : Int) by omega, rdL_nat', rdL_nat']
            refine evp (by omega) (evp (by omega) (evp (by omega) (evp (by omega) (evb (l7Before _ _ (by omega) (by omega)) ?_))))
            by_cases e4 : lexB (rdl l (i - 1)) (rdl l i) = true
            · refine evp e4 (evr (ih (i + 1) (by omega) (fun _ => e2)) ?_)
              rw [List.range'_succ, List.all_cons, show rowok l i = true by unfold rowok; rw [decide_eq_true e1, decide_eq_true e2, e3, e4]; simp]; rfl
            · refine evn e4 (evs (no ?_).symm)
              unfold rowok; rw [Bool.eq_false_iff.2 e4, decide_eq_false (show ¬ i = 0 by omega)]; simp
          · obtain rfl : i = 0 := by omega
            refine evn (by omega) (evr (ih 1 (by omega) (fun _ => rfl)) ?_)
            rw [List.range'_succ, List.all_cons, show rowok l 0 = true by unfold rowok; rw [decide_eq_true e1, decide_eq_true e2, e3]; simp]; rfl
        · refine evp (by simp [e3]) (evs (no ?_).symm)
          unfold rowok; rw [Bool.eq_false_iff.2 e3]; simp
      · refine evn (by omega) (Ev.step (fun k => spec_l7Class.j1.eq_2 ..) (evp rfl (evs (no ?_).symm)))
        unfold rowok; rw [decide_eq_false e2]; simp
    · refine evp (by omega) (Ev.step (fun k => spec_l7Class.j1.eq_2 ..) (evp rfl (evs (no ?_).symm)))
      unfold rowok; rw [decide_eq_false e1]; simp
theorem l7Class (l : List (List Int)) (hx : l.length ≤ 1048576) (hr : ∀ r ∈ l, (r.length : Int) ≤ 1048576) : Ev (fun k => spec_l7Class.f k l) (classB l) := by
  unfold spec_l7Class.f classB
  refine evr (l7Class_l0 l hx hr l.length 0 (by omega) (fun h => by omega)) ?_
  rw [List.range_eq_range', Bool.and_comm]

/-! ### spec_IsClass -/
theorem sIsClass (l : List (List Int)) (hx : l.length ≤ 1048576) (hr : ∀ r ∈ l, (r.length : Int) ≤ 1048576) : Ev (fun k => spec_IsClass.f k l) (classB l) := by
  unfold spec_IsClass.f
  exact evb (l7Class l hx hr) (evs rfl)

/-! ### impl_IsClass -/
theorem rdL_nat'' (l : List (List Int)) (i : Nat) : rd_L1 l (i : Int) = rdl l i := by simp [rd_L1, rdl]
theorem iClass_l0 (l : List (List Int)) (hx : l.length ≤ 256) (hr : ∀ r ∈ l, (r.length : Int) ≤ 1048576) (h8 : (rdl l 0).length ≤ 8) : ∀ (d i : Nat), i + d = l.length → (0 < i → (rdl l (i - 1)).length = (rdl l 0).length) →
    Ev (fun k => impl_IsClass.l0 k l l (l.length : Int) (i : Int)) ((List.range' i d).all (rowok l)) := by
  intro d
  induction d with
  | zero =>
    intro i hi _
    exact Ev.step (fun k => impl_IsClass.l0.eq_2 ..) (evn (by omega) (evs (by simp)))
  | succ d ih =>
    intro i hi hp
    have hri := hr _ (rdl_mem l i (by omega))
    have no : rowok l i = false → (List.range' i (d + 1)).all (rowok l) = false := by
      intro e; rw [List.range'_succ, List.all_cons, e]; rfl
    refine Ev.step (fun k => impl_IsClass.l0.eq_2 ..) (evp (by omega) (evp (by omega) (evp (by omega) (evp (by omega) ?_))))
    rw [rdL_nat'', show rd_L1 l 0 = rdl l 0 from rdL_nat'' l 0]
    by_cases e2 : (rdl l i).length = (rdl l 0).length
    · refine evp (by omega) (evb (areLabels _ (by omega)) ?_)
      by_cases e3 : labB (rdl l i) = true
      · refine evp e3 ?_
        rw [w64s i (by omega)]
        by_cases e0 : 0 < i
        · refine evp (by omega) ?_
          have hpi := hp e0
          have hrp := hr _ (rdl_mem l (i - 1) (by omega))
          rw [w64 (x := (i : Int) - 1) (by omega) (by omega), show (i : Int) - 1 = ((i - 1 : Nat) : Int) by omega, rdL_nat'']
          refine evp (by omega) (evp (by omega) (evb (compareL _ _ (by omega)) ?_))
          have hc := cmp_lex (rdl l (i - 1)) (rdl l i) (by omega)
          by_cases e4 : lexB (rdl l (i - 1)) (rdl l i) = true
          · refine evn (fun h => by rw [hc.1 h] at e4; cases e4) (evr (ih (i + 1) (by omega) (fun _ => e2)) ?_)
            rw [List.range'_succ, List.all_cons, show rowok l i = true by unfold rowok; rw [decide_eq_true (show (rdl l i).length ≤ 8 by omega), decide_eq_true e2, e3, e4]; simp]; rfl
          · refine evp (hc.2 (Bool.eq_false_iff.2 e4)) (evs (no ?_).symm)
            unfold rowok; rw [Bool.eq_false_iff.2 e4, decide_eq_false (show ¬ i = 0 by omega)]; simp
        · obtain rfl : i = 0 := by omega
          refine evn (by omega) (evr (ih 1 (by omega) (fun _ => rfl)) ?_)
          rw [List.range'_succ, List.all_cons, show rowok l 0 = true by unfold rowok; rw [decide_eq_true h8, decide_eq_true e2, e3]; simp]; rfl
      · refine evn e3 (evs (no ?_).symm)
        unfold rowok; rw [Bool.eq_false_iff.2 e3]; simp
    · refine evn (by omega) (evs (no ?_).symm)
      unfold rowok; rw [decide_eq_false e2]; simp
theorem iIsClass (l : List (List Int)) (hx : l.length ≤ 1048576) (hr : ∀ r ∈ l, (r.length : Int) ≤ 1048576) : Ev (fun k => impl_IsClass.f k l) (classB l) := by
  unfold impl_IsClass.f classB
  rw [within]; simp only [Option.bind_some]
  by_cases e : 1 ≤ l.length ∧ l.length ≤ 256
  · refine evp (by simp; omega) (evp (by omega) (Ev.step (fun k => impl_IsClass.j0.eq_2 ..) ?_))
    rw [show rd_L1 l 0 = rdl l 0 from rdL_nat'' l 0, decide_eq_true e, Bool.true_and]
    by_cases h8 : (rdl l 0).length ≤ 8
    · refine evn (by simp; omega) (evr (iClass_l0 l e.2 hr h8 l.length 0 (by omega) (fun h => by omega)) ?_)
      rw [List.range_eq_range']
    · refine evp (by simp; omega) (evs ?_)
      obtain ⟨n, hn⟩ : ∃ n, l.length = n + 1 := ⟨l.length - 1, by omega⟩
      rw [hn, List.range_eq_range', List.range'_succ, List.all_cons, show rowok l 0 = false by unfold rowok; rw [decide_eq_false h8]; rfl]; rfl
  · exact evn (by simp; omega) (Ev.step (fun k => impl_IsClass.j0.eq_2 ..) (evp rfl (evs (by rw [decide_eq_false e]; rfl))))

/-! ### laws_FnExactIsClass -/
theorem law (l : List (List Int)) (hl : l.length ≤ maxLen) (hr : ∀ r ∈ l, r.length ≤ maxLen) : Ev (fun k => laws_FnExactIsClass.f k l) true := by
  unfold laws_FnExactIsClass.f
  refine evb (szIntSS l 1048576 (by omega) (by omega) hl hr) ?_
  obtain ⟨h1, h2, h3⟩ := szv_ok l 1048576 (by omega)
  by_cases h : 0 ≤ szv l 1048576
  · obtain ⟨h4, h5⟩ := h3 h
    refine evn (by omega) ?_
    have hs := sIsClass l (by omega) h5
    have hi := iIsClass l (by omega) h5
    generalize classB l = R at *
    repeat (first
    | exact evs rfl
    | dsimp only
    | (with_reducible refine evb hs ?_)
    | (with_reducible refine evb hi ?_)
    | ((with_reducible refine evb (toIntS _ ?_) ?_); (focus (first | omega | assumption)))
    | ((with_reducible refine evb (eqIntS _ _ ?_) ?_); (focus (first | omega | assumption)))
    | ((with_reducible refine evb (toIntSS _ ?_ ?_) ?_); (focus (first | omega | assumption)); (focus (first | omega | assumption)))
    | ((with_reducible refine evb (eqIntSS _ _ ?_ ?_) ?_); (focus (first | omega | assumption)); (focus (first | omega | assumption)))
    | (refine evp ?_ ?_; focus (first | omega | (simp; done)))
    | (refine evn ?_ ?_; focus (first | omega | (simp; done)))
    )
  · exact evp (by omega) (evs rfl)

end Go.Proofs.Ytheohibankpfeaa.LFnExactIsClass
