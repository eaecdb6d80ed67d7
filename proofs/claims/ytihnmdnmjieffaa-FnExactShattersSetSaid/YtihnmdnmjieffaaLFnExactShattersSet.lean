/- Own lemmas: what the printed functions of one law come to. -/
import Derived.Test.YtihnmdnmjieffaaMFnExactShattersSetx8
import Derived.Test.YtihnmdnmjieffaaBase
namespace Go.Proofs.Ytihnmdnmjieffaa.LFnExactShattersSet
open Go Go.RowKit Go.Proofs.Ytihnmdnmjieffaa.Base Go.Proofs.Ytihnmdnmjieffaa.PFnExactShattersSet Go.Proofs.YtihnmdnmjieffaaW.PrintWords Go.Proofs.YtihnmdnmjieffaaW.PrintLast Go.Proofs.YtihnmdnmjieffaaW.PrintMore
set_option linter.unusedVariables false
set_option linter.unusedSimpArgs false
set_option maxRecDepth 4000

/-! ### laws_toIntS -/
theorem toIntS_l0 (x0 : List Int) (hx : x0.length < 4611686018427387904) : ∀ (d i : Nat) (x3 : List Int), i + d = x0.length → x3.length = x0.length →
    Ev (fun k => laws_toIntS.l0 k x0 x3 (i : Int)) (x3.take i ++ x0.drop i) := by
  intro d
  induction d with
  | zero =>
    intro i x3 hi hl
    refine Ev.step (fun k => laws_toIntS.l0.eq_2 ..) (evn (by omega) (evs ?_))
    simp [List.take_of_length_le (show x3.length ≤ i by omega), List.drop_of_length_le (show x0.length ≤ i by omega)]
  | succ d ih =>
    intro i x3 hi hl
    refine Ev.step (fun k => laws_toIntS.l0.eq_2 ..) (evp (by omega) (evp (by omega) (evp (by omega) ?_)))
    rw [w64s i (by omega), rd_nat]
    refine evr (ih (i + 1) _ (by omega) (by simpa using hl)) ?_
    rw [Int.toNat_natCast, set_take _ _ _ (by omega), List.drop_eq_getElem_cons (show i < x0.length by omega), List.append_assoc]
    simp [List.getD_eq_getElem?_getD, List.getElem?_eq_getElem (show i < x0.length by omega)]
theorem toIntS (l : List Int) (h : l.length ≤ 35184372088832) : Ev (fun k => laws_toIntS.f k l) l := by
  unfold laws_toIntS.f
  refine evp (by omega) (evp (by simpa using h) ?_)
  refine evr (toIntS_l0 l (by omega) l.length 0 _ (by omega) (by simp)) (by simp)

/-! ### laws_eqIntS -/
theorem eqIntS_l0 (a b : List Int) (hl : a.length = b.length) (hx : a.length < 4611686018427387904) : ∀ (d i : Nat), i + d = a.length →
    Ev (fun k => laws_eqIntS.l0 k a b (i : Int)) (decide (a.drop i = b.drop i)) := by
  intro d
  induction d with
  | zero =>
    intro i hi
    refine Ev.step (fun k => laws_eqIntS.l0.eq_2 ..) (evn (by omega) (evs ?_))
    simp [List.drop_of_length_le (show a.length ≤ i by omega), List.drop_of_length_le (show b.length ≤ i by omega)]
  | succ d ih =>
    intro i hi
    refine Ev.step (fun k => laws_eqIntS.l0.eq_2 ..) (evp (by omega) (evp (by omega) (evp (by omega) ?_)))
    rw [w64s i (by omega), rd_nat, rd_nat]
    have ea := List.drop_eq_getElem_cons (show i < a.length by omega)
    have eb := List.drop_eq_getElem_cons (show i < b.length by omega)
    simp only [List.getD_eq_getElem?_getD, List.getElem?_eq_getElem (show i < a.length by omega), List.getElem?_eq_getElem (show i < b.length by omega), Option.getD_some]
    by_cases e : a[i] = b[i]
    · refine evp e (evr (ih (i + 1) (by omega)) ?_)
      rw [ea, eb, e]; simp only [List.cons.injEq, true_and]
    · refine evn e (evs ?_)
      rw [ea, eb]; simp only [List.cons.injEq, e, false_and, decide_false]
theorem eqIntS (a b : List Int) (hx : a.length < 4611686018427387904) : Ev (fun k => laws_eqIntS.f k a b) (decide (a = b)) := by
  unfold laws_eqIntS.f
  by_cases h : a.length = b.length
  · refine evp (by omega) (evr (eqIntS_l0 a b h hx a.length 0 (by omega)) (by simp))
  · refine evn (by omega) (evs ?_)
    have : a ≠ b := fun e => h (by rw [e])
    simp [this]

/-! ### spec_l1In -/
theorem l1In (a b c : Int) : spec_l1In.f a b c = some (decide (b ≤ a ∧ a ≤ c)) := by
  unfold spec_l1In.f; split <;> simp_all <;> omega

/-! ### impl_within -/
theorem within (a b c : Int) : impl_within.f a b c = some (decide (b ≤ a ∧ a ≤ c)) := by
  unfold impl_within.f; split <;> simp_all <;> omega

/-! ### impl_allWithin -/
theorem allWithin_l0 (lo up : Int) (l : List Int) (hx : l.length < 4611686018427387904) : ∀ (d i : Nat), i + d = l.length →
    Ev (fun k => impl_allWithin.l0 k lo up l (l.length : Int) (i : Int)) ((l.drop i).all fun x => decide (lo ≤ x ∧ x ≤ up)) := by
  intro d
  induction d with
  | zero =>
    intro i hi
    refine Ev.step (fun k => impl_allWithin.l0.eq_2 ..) (evn (by omega) (evs ?_))
    simp [List.drop_of_length_le (show l.length ≤ i by omega)]
  | succ d ih =>
    intro i hi
    refine Ev.step (fun k => impl_allWithin.l0.eq_2 ..) (evp (by omega) (evp (by omega) (evp (by omega) ?_)))
    rw [w64s i (by omega), rd_nat, within, List.drop_eq_getElem_cons (show i < l.length by omega)]
    simp only [List.getD_eq_getElem?_getD, List.getElem?_eq_getElem (show i < l.length by omega), Option.getD_some, Option.bind_some, List.all_cons]
    by_cases e : lo ≤ l[i] ∧ l[i] ≤ up
    · refine evp (by simpa using e) (evr (ih (i + 1) (by omega)) (by simp [e]))
    · refine evn (by simpa using e) (evs (by simp [e]))
theorem allWithin (l : List Int) (lo up : Int) (hx : l.length < 4611686018427387904) : Ev (fun k => impl_allWithin.f k l lo up) (l.all fun x => decide (lo ≤ x ∧ x ≤ up)) := by
  unfold impl_allWithin.f
  exact allWithin_l0 lo up l hx l.length 0 (by omega)

/-! ### laws_szIntS -/
theorem szIntS (l : List Int) (m : Int) (h0 : 0 ≤ m) (hm : m ≤ 1048576) (hl : l.length ≤ maxLen) : laws_szIntS.f l m = some (if (l.length : Int) ≤ m then m - l.length else -1) := by
  unfold maxLen at hl
  unfold laws_szIntS.f
  rw [w64 (x := m - (l.length : Int)) (by omega) (by omega)]
  by_cases h : (l.length : Int) ≤ m
  · rw [if_neg (by omega), if_pos h]
  · rw [if_pos (by omega), if_neg h]

/-! ### spec_l1Rising -/
theorem l1Rising_l0 (l : List Int) (lo hi : Int) (hl : l.length < 4611686018427387904) : ∀ (d i : Nat), i + d = l.length →
    Ev (fun k => spec_l1Rising.l0 k l lo hi (i : Int)) (inB lo hi (l.drop i) && riseB (l.drop (i - 1))) := by
  intro d
  induction d with
  | zero =>
    intro i hi'
    refine Ev.step (fun k => spec_l1Rising.l0.eq_2 ..) (evn (by omega) (evs ?_))
    rw [riseB_end l (i - 1) (by omega), List.drop_of_length_le (show l.length ≤ i by omega)]; rfl
  | succ d ih =>
    intro i hi'
    refine Ev.step (fun k => spec_l1Rising.l0.eq_2 ..) (evp (by omega) (evp (by omega) ?_))
    rw [rd_nat, l1In, w64s i (by omega)]; simp only [Option.bind_some]
    have hd := List.drop_eq_getElem_cons (show i < l.length by omega)
    have hg : l.getD i 0 = l[i] := by simp [List.getD_eq_getElem?_getD, List.getElem?_eq_getElem (show i < l.length by omega)]
    by_cases e : lo ≤ l.getD i 0 ∧ l.getD i 0 ≤ hi
    · refine evp (by simpa using e) ?_
      have hin : inB lo hi (l.drop i) = inB lo hi (l.drop (i + 1)) := by rw [hd]; simp only [inB, List.all_cons]; rw [← hg, decide_eq_true e, Bool.true_and]
      by_cases e0 : 0 < i
      · refine evp (by omega) ?_
        rw [w64 (x := (i : Int) - 1) (by omega) (by omega), show (i : Int) - 1 = ((i - 1 : Nat) : Int) by omega, rd_nat]
        refine evp (by omega) (evp (by omega) ?_)
        have hs := riseB_step l (i - 1) (by omega)
        rw [show i - 1 + 1 = i by omega] at hs
        by_cases e1 : l.getD (i - 1) 0 ≥ l.getD i 0
        · refine evp e1 (evs ?_)
          rw [hs, decide_eq_false (by omega)]; simp
        · refine evn e1 (evr (ih (i + 1) (by omega)) ?_)
          rw [hin, hs, decide_eq_true (show l.getD (i - 1) 0 < l.getD i 0 by omega)]; simp
      · refine evn (by omega) (evr (ih (i + 1) (by omega)) ?_)
        obtain rfl : i = 0 := by omega
        rw [hin]
    · refine evn (by simpa using e) (evs ?_)
      rw [hd]; simp only [inB, List.all_cons]; rw [← hg, decide_eq_false e]; simp
theorem l1Rising (l : List Int) (lo hi : Int) (hl : l.length < 4611686018427387904) : Ev (fun k => spec_l1Rising.f k l lo hi) (inB lo hi l && riseB l) := by
  unfold spec_l1Rising.f
  exact evr (l1Rising_l0 l lo hi hl l.length 0 (by omega)) (by simp)

/-! ### impl_rising -/
theorem rising_l0 (l : List Int) (hl : l.length < 4611686018427387904) : ∀ (d i : Nat), i + d = l.length → 1 ≤ i →
    Ev (fun k => impl_rising.l0 k l (i : Int)) (riseB (l.drop (i - 1))) := by
  intro d
  induction d with
  | zero =>
    intro i hi' h1
    refine Ev.step (fun k => impl_rising.l0.eq_2 ..) (evn (by omega) (evs ?_))
    rw [riseB_end l (i - 1) (by omega)]
  | succ d ih =>
    intro i hi' h1
    refine Ev.step (fun k => impl_rising.l0.eq_2 ..) (evp (by omega) ?_)
    rw [rd_nat, w64s i (by omega), w64 (x := (i : Int) - 1) (by omega) (by omega), show (i : Int) - 1 = ((i - 1 : Nat) : Int) by omega, rd_nat]
    refine evp (by omega) (evp (by omega) (evp (by omega) ?_))
    have hs := riseB_step l (i - 1) (by omega)
    rw [show i - 1 + 1 = i by omega] at hs
    by_cases e1 : l.getD (i - 1) 0 ≥ l.getD i 0
    · refine evp e1 (evs ?_)
      rw [hs, decide_eq_false (by omega)]; simp
    · refine evn e1 (evr (ih (i + 1) (by omega) (by omega)) ?_)
      rw [hs, decide_eq_true (show l.getD (i - 1) 0 < l.getD i 0 by omega)]; simp
theorem rising (l : List Int) (hl : l.length < 4611686018427387904) : Ev (fun k => impl_rising.f k l) (riseB l) := by
  unfold impl_rising.f
  by_cases h : l.length = 0
  · refine Ev.step (fun k => impl_rising.l0.eq_2 ..) (evn (by omega) (evs ?_))
    rw [List.eq_nil_of_length_eq_zero h]; rfl
  · exact evr (rising_l0 l hl (l.length - 1) 1 (by omega) (by omega)) (by simp)

/-! ### impl_isSet -/
theorem isSet (l : List Int) (n : Int) (hn : 0 ≤ n ∧ n ≤ 1000000) (hl : l.length < 4611686018427387904) : Ev (fun k => impl_isSet.f k l n) (setB n l) := by
  unfold impl_isSet.f setB
  refine evb (rising l hl) ?_
  rw [w64 (x := n - 1) (by omega) (by omega)]
  by_cases e : riseB l = true
  · refine evp e (evb (allWithin l 0 (n - 1) hl) (evs ?_))
    rw [e, Bool.and_true]; rfl
  · exact evn e (evs (by simp [e]))

/-! ### laws_szIntSS laws_szIntS -/
theorem rdL_nat (l : List (List Int)) (i : Nat) : rd_L1 l (i : Int) = rdl l i := by simp [rd_L1, rdl]
theorem szIntSS_l0 (l : List (List Int)) (hl : l.length ≤ 1048576) (hr : ∀ r ∈ l, r.length ≤ maxLen) : ∀ (d i : Nat) (m : Int), i + d = l.length → 0 ≤ m → m ≤ 1048576 →
    Ev (fun k => laws_szIntSS.l0 k l m (i : Int)) (rowsz (l.drop i) m) := by
  intro d
  induction d with
  | zero =>
    intro i m hi h0 hm
    exact Ev.step (fun k => laws_szIntSS.l0.eq_2 ..) (evn (by omega) (evs (by rw [List.drop_of_length_le (show l.length ≤ i by omega)]; rfl)))
  | succ d ih =>
    intro i m hi h0 hm
    refine Ev.step (fun k => laws_szIntSS.l0.eq_2 ..) (evp (by omega) (evp (by omega) ?_))
    rw [rdL_nat, szIntS _ m h0 hm (hr _ (rdl_mem l i (by omega))), w64s i (by omega), rdl_drop l i (by omega)]
    simp only [Option.bind_some, rowsz]
    by_cases e : ((rdl l i).length : Int) ≤ m
    · rw [if_pos e, if_pos e]
      exact evn (by omega) (ih (i + 1) _ (by omega) (by omega) (by omega))
    · rw [if_neg e, if_neg e]
      exact evp (by omega) (evs rfl)
theorem szIntSS (l : List (List Int)) (m : Int) (h0 : 0 ≤ m) (hm : m ≤ 1048576) (hl : l.length ≤ maxLen) (hr : ∀ r ∈ l, r.length ≤ maxLen) : Ev (fun k => laws_szIntSS.f k l m) (szv l m) := by
  unfold maxLen at hl
  unfold laws_szIntSS.f szv
  rw [w64 (x := m - (l.length : Int)) (by omega) (by omega)]
  by_cases e : (l.length : Int) ≤ m
  · rw [if_pos e]
    exact evn (by omega) (evr (szIntSS_l0 l (by omega) hr l.length 0 _ (by omega) (by omega) (by omega)) (by simp))
  · rw [if_neg e]; exact evp (by omega) (evs rfl)

/-! ### laws_toIntSS laws_toIntS laws_szIntSS -/
theorem toIntSS_l0 (x0 : List (List Int)) (hx : x0.length ≤ 1048576) (hr : ∀ r ∈ x0, (r.length : Int) ≤ 1048576) : ∀ (d i : Nat) (x3 : List (List Int)), i + d = x0.length → x3.length = x0.length →
    Ev (fun k => laws_toIntSS.l0 k x0 x3 (i : Int)) (x3.take i ++ x0.drop i) := by
  intro d
  induction d with
  | zero =>
    intro i x3 hi hl
    refine Ev.step (fun k => laws_toIntSS.l0.eq_2 ..) (evn (by omega) (evs ?_))
    simp [List.take_of_length_le (show x3.length ≤ i by omega), List.drop_of_length_le (show x0.length ≤ i by omega)]
  | succ d ih =>
    intro i x3 hi hl
    have := hr _ (rdl_mem x0 i (by omega))
    refine Ev.step (fun k => laws_toIntSS.l0.eq_2 ..) (evp (by omega) (evp (by omega) ?_))
    rw [w64s i (by omega), rdL_nat]
    refine evb (toIntS _ (by omega)) (evp (by omega) ?_)
    refine evr (ih (i + 1) _ (by omega) (by simpa using hl)) ?_
    rw [Int.toNat_natCast, setl_take _ _ _ (by omega), rdl_drop x0 i (by omega), List.append_assoc]; rfl
theorem toIntSS (l : List (List Int)) (h : l.length ≤ 1048576) (hr : ∀ r ∈ l, (r.length : Int) ≤ 1048576) : Ev (fun k => laws_toIntSS.f k l) l := by
  unfold laws_toIntSS.f
  refine evp (by omega) (evp (by omega) ?_)
  refine evr (toIntSS_l0 l (by omega) hr l.length 0 _ (by omega) (by simp)) (by simp)

/-! ### laws_eqIntSS laws_eqIntS -/
theorem eqIntSS_l0 (a b : List (List Int)) (hl : a.length = b.length) (hx : a.length ≤ 1048576) (hr : ∀ r ∈ a, (r.length : Int) ≤ 1048576) : ∀ (d i : Nat), i + d = a.length →
    Ev (fun k => laws_eqIntSS.l0 k a b (i : Int)) (decide (a.drop i = b.drop i)) := by
  intro d
  induction d with
  | zero =>
    intro i hi
    refine Ev.step (fun k => laws_eqIntSS.l0.eq_2 ..) (evn (by omega) (evs ?_))
    simp [List.drop_of_length_le (show a.length ≤ i by omega), List.drop_of_length_le (show b.length ≤ i by omega)]
  | succ d ih =>
    intro i hi
    have := hr _ (rdl_mem a i (by omega))
    refine Ev.step (fun k => laws_eqIntSS.l0.eq_2 ..) (evp (by omega) (evp (by omega) (evp (by omega) ?_)))
    rw [w64s i (by omega), show rd_L1 a (i : Int) = rdl a i by simp [rd_L1, rdl], show rd_L1 b (i : Int) = rdl b i by simp [rd_L1, rdl]]
    refine evb (eqIntS _ _ (by omega)) ?_
    rw [rdl_drop a i (by omega), rdl_drop b i (by omega)]
    by_cases e : rdl a i = rdl b i
    · refine evp (by simpa using e) (evr (ih (i + 1) (by omega)) ?_)
      rw [e]; simp only [List.cons.injEq, true_and]
    · refine evn (by simpa using e) (evs ?_)
      simp only [List.cons.injEq, e, false_and, decide_false]
theorem eqIntSS (a b : List (List Int)) (hx : a.length ≤ 1048576) (hr : ∀ r ∈ a, (r.length : Int) ≤ 1048576) : Ev (fun k => laws_eqIntSS.f k a b) (decide (a = b)) := by
  unfold laws_eqIntSS.f
  by_cases h : a.length = b.length
  · refine evp (by omega) (evr (eqIntSS_l0 a b h hx hr a.length 0 (by omega)) (by simp))
  · refine evn (by omega) (evs ?_)
    have : a ≠ b := fun e => h (by rw [e])
    simp [this]

/-! ### spec_l2Labels -/
theorem l2Labels_l0 (l : List Int) (hx : l.length < 4611686018427387904) : ∀ (d i : Nat), i + d = l.length →
    Ev (fun k => spec_l2Labels.l0 k l (i : Int)) (labB (l.drop i)) := by
  intro d
  induction d with
  | zero =>
    intro i hi
    exact Ev.step (fun k => spec_l2Labels.l0.eq_2 ..) (evn (by omega) (evs (by rw [List.drop_of_length_le (show l.length ≤ i by omega)]; rfl)))
  | succ d ih =>
    intro i hi
    refine Ev.step (fun k => spec_l2Labels.l0.eq_2 ..) (evp (by omega) (evp (by omega) ?_))
    rw [w64s i (by omega), rd_nat, List.drop_eq_getElem_cons (show i < l.length by omega)]
    simp only [List.getD_eq_getElem?_getD, List.getElem?_eq_getElem (show i < l.length by omega), Option.getD_some, labB, List.all_cons]
    by_cases e : l[i] = 1
    · exact evp e (evr (ih (i + 1) (by omega)) (by rw [decide_eq_true (.inl e)]; rfl))
    · refine evn e ?_
      by_cases e' : l[i] = -1
      · exact evp e' (evr (ih (i + 1) (by omega)) (by rw [decide_eq_true (.inr e')]; rfl))
      · exact evn e' (evs (by rw [decide_eq_false (fun h => h.elim e e')]; rfl))
theorem l2Labels (l : List Int) (hx : l.length < 4611686018427387904) : Ev (fun k => spec_l2Labels.f k l) (labB l) := by
  unfold spec_l2Labels.f
  exact l2Labels_l0 l hx l.length 0 (by omega)

/-! ### impl_isLabel -/
theorem isLabel (x : Int) : impl_isLabel.f x = some (decide (x = 1 ∨ x = -1)) := by
  unfold impl_isLabel.f
  by_cases e : x = 1
  · rw [if_pos e, decide_eq_true (.inl e)]
  · rw [if_neg e]; congr 1; rw [Bool.eq_iff_iff]; simp [e]

/-! ### impl_areLabels -/
theorem areLabels_l0 (l : List Int) (hx : l.length < 4611686018427387904) : ∀ (d i : Nat), i + d = l.length →
    Ev (fun k => impl_areLabels.l0 k l (l.length : Int) (i : Int)) (labB (l.drop i)) := by
  intro d
  induction d with
  | zero =>
    intro i hi
    exact Ev.step (fun k => impl_areLabels.l0.eq_2 ..) (evn (by omega) (evs (by rw [List.drop_of_length_le (show l.length ≤ i by omega)]; rfl)))
  | succ d ih =>
    intro i hi
    refine Ev.step (fun k => impl_areLabels.l0.eq_2 ..) (evp (by omega) (evp (by omega) (evp (by omega) ?_)))
    rw [w64s i (by omega), rd_nat, isLabel, List.drop_eq_getElem_cons (show i < l.length by omega)]
    simp only [List.getD_eq_getElem?_getD, List.getElem?_eq_getElem (show i < l.length by omega), Option.getD_some, Option.bind_some, labB, List.all_cons]
    by_cases e : l[i] = 1 ∨ l[i] = -1
    · exact evp (by simpa using e) (evr (ih (i + 1) (by omega)) (by rw [decide_eq_true e]; rfl))
    · exact evn (by simpa using e) (evs (by rw [decide_eq_false e]; rfl))
theorem areLabels (l : List Int) (hx : l.length < 4611686018427387904) : Ev (fun k => impl_areLabels.f k l) (labB l) := by
  unfold impl_areLabels.f
  exact areLabels_l0 l hx l.length 0 (by omega)

/-! ### spec_l7Before -/
theorem l7Before_l0 (a b : List Int) (hl : a.length = b.length) (hx : a.length < 4611686018427387904) : ∀ (d i : Nat), i + d = a.length →
    Ev (fun k => spec_l7Before.l0 k a b (i : Int)) (lexB (a.drop i) (b.drop i)) := by
  intro d
  induction d with
  | zero =>
    intro i hi
    exact Ev.step (fun k => spec_l7Before.l0.eq_2 ..) (evn (by omega) (evs (by rw [List.drop_of_length_le (show a.length ≤ i by omega)]; rfl)))
  | succ d ih =>
    intro i hi
    refine Ev.step (fun k => spec_l7Before.l0.eq_2 ..) (evp (by omega) (evp (by omega) (evp (by omega) ?_)))
    rw [w64s i (by omega), rd_nat, rd_nat, List.drop_eq_getElem_cons (show i < a.length by omega), List.drop_eq_getElem_cons (show i < b.length by omega)]
    simp only [List.getD_eq_getElem?_getD, List.getElem?_eq_getElem (show i < a.length by omega), List.getElem?_eq_getElem (show i < b.length by omega), Option.getD_some, lexB]
    by_cases e : a[i] = b[i]
    · exact evp e (evr (ih (i + 1) (by omega)) (by rw [if_pos e]))
    · exact evn e (evs (by rw [if_neg e]))
theorem l7Before (a b : List Int) (hl : a.length = b.length) (hx : a.length < 4611686018427387904) : Ev (fun k => spec_l7Before.f k a b) (lexB a b) := by
  unfold spec_l7Before.f
  exact l7Before_l0 a b hl hx a.length 0 (by omega)

/-! ### cmp_Compare_int -/
theorem compareInt (a b : Int) : cmp_Compare_int.f a b = some (if a < b then -1 else if a > b then 1 else 0) := by
  unfold cmp_Compare_int.f cmp_isNaN_int.f
  simp only [bne_self_eq_false, Option.bind_some, Bool.false_eq_true, if_false]
  split
  · rfl
  · split <;> rfl

/-! ### slices_Compare_int_int cmp_Compare_int -/
theorem compareL_l0 (a b : List Int) (hx : a.length < 4611686018427387904) : ∀ (d i : Nat), i + d = a.length → i ≤ b.length →
    Ev (fun k => slices_Compare_int_int.l0 k a b a (a.length : Int) (i : Int)) (cmpv (a.drop i) (b.drop i)) := by
  intro d
  induction d with
  | zero =>
    intro i hi hb
    refine Ev.step (fun k => slices_Compare_int_int.l0.eq_2 ..) (evn (by omega) ?_)
    rw [List.drop_of_length_le (show a.length ≤ i by omega)]
    by_cases e : a.length < b.length
    · refine evp (by omega) (evs ?_)
      rw [List.drop_eq_getElem_cons (show i < b.length by omega)]; rfl
    · refine evn (by omega) (evs ?_)
      rw [List.drop_of_length_le (show b.length ≤ i by omega)]; rfl
  | succ d ih =>
    intro i hi hb
    refine Ev.step (fun k => slices_Compare_int_int.l0.eq_2 ..) (evp (by omega) (evp (by omega) (evp (by omega) ?_)))
    rw [List.drop_eq_getElem_cons (show i < a.length by omega)]
    by_cases e : i ≥ b.length
    · refine evp (by omega) (evs ?_)
      rw [List.drop_of_length_le (show b.length ≤ i by omega)]; rfl
    · refine evn (by omega) (evp (by omega) ?_)
      rw [rd_nat, rd_nat, compareInt, w64s i (by omega), List.drop_eq_getElem_cons (show i < b.length by omega)]
      simp only [List.getD_eq_getElem?_getD, List.getElem?_eq_getElem (show i < a.length by omega), List.getElem?_eq_getElem (show i < b.length by omega), Option.getD_some, Option.bind_some, cmpv]
      by_cases e1 : a[i] < b[i]
      · rw [if_pos e1]; exact evn (by decide) (evs (by rw [if_pos e1]))
      · rw [if_neg e1]
        by_cases e2 : a[i] > b[i]
        · rw [if_pos e2]; exact evn (by decide) (evs (by rw [if_neg e1, if_pos e2]))
        · rw [if_neg e2]; exact evp rfl (evr (ih (i + 1) (by omega) (by omega)) (by rw [if_neg e1, if_neg e2]))
theorem compareL (a b : List Int) (hx : a.length < 4611686018427387904) : Ev (fun k => slices_Compare_int_int.f k a b) (cmpv a b) := by
  unfold slices_Compare_int_int.f
  exact compareL_l0 a b hx a.length 0 (by omega) (by omega)

/-! ### spec_l7Class -/
theorem rdL_nat' (l : List (List Int)) (i : Nat) : rd_L1 l (i : Int) = rdl l i := by simp [rd_L1, rdl]
theorem l7Class_l0 (l : List (List Int)) (hx : l.length ≤ 1048576) (hr : ∀ r ∈ l, (r.length : Int) ≤ 1048576) : ∀ (d i : Nat), i + d = l.length → (0 < i → (rdl l (i - 1)).length = (rdl l 0).length) →
    Ev (fun k => spec_l7Class.l0 k l (i : Int)) ((List.range' i d).all (rowok l) && decide (1 ≤ l.length ∧ l.length ≤ 256)) := by
  intro d
  induction d with
  | zero =>
    intro i hi _
    refine Ev.step (fun k => spec_l7Class.l0.eq_2 ..) (evn (by omega) (evb (evc (l1In ..)) (evs ?_)))
    rw [show (List.range' i 0).all (rowok l) = true by simp, Bool.true_and]
    exact decide_eq_decide.2 (by omega)
  | succ d ih =>
    intro i hi hp
    have hri := hr _ (rdl_mem l i (by omega))
    have no : rowok l i = false → ((List.range' i (d + 1)).all (rowok l) && decide (1 ≤ l.length ∧ l.length ≤ 256)) = false := by
      intro e; rw [List.range'_succ, List.all_cons, e]; rfl
    refine Ev.step (fun k => spec_l7Class.l0.eq_2 ..) (evp (by omega) (evp (by omega) ?_))
    rw [rdL_nat', show rd_L1 l 0 = rdl l 0 from rdL_nat' l 0]
    by_cases e1 : (rdl l i).length ≤ 8
    · refine evn (by omega) (evp (by omega) ?_)
      by_cases e2 : (rdl l i).length = (rdl l 0).length
      · refine evp (by omega) (evb (l2Labels _ (by omega)) (Ev.step (fun k => spec_l7Class.j1.eq_2 ..) ?_))
        by_cases e3 : labB (rdl l i) = true
        · refine evn (by simp [e3]) ?_
          rw [w64s i (by omega)]
          by_cases e0 : 0 < i
          · refine evp (by omega) ?_
            have hpi := hp e0
            have hrp := hr _ (rdl_mem l (i - 1) (by omega))
            rw [w64 (x := (i : Int) - 1) (by omega) (by omega), show (i : Int) - 1 = ((i - 1 : Nat) : Int) by omega, rdL_nat', rdL_nat']
            refine evp (by omega) (evp (by omega) (evp (by omega) (evp (by omega) (evb (l7Before _ _ (by omega) (by omega)) ?_))))
            by_cases e4 : lexB (rdl l (i - 1)) (rdl l i) = true
            · refine evp e4 (evr (ih (i + 1) (by omega) (fun _ => e2)) ?_)
              rw [List.range'_succ, List.all_cons, show rowok l i = true by unfold rowok; rw [decide_eq_true e1, decide_eq_true e2, e3, e4]; simp]; rfl
            · refine evn e4 (evs (no ?_).symm)
              unfold rowok; rw [Bool.eq_false_iff.2 e4, decide_eq_false (show ¬ i = 0 by omega)]; simp
          · obtain rfl : i = 0 := by omega
            refine evn (by omega) (evr (ih 1 (by omega) (fun _ => rfl)) ?_)
            rw [List.range'_succ, List.all_cons, show rowok l 0 = true by unfold rowok; rw [decide_eq_true e1, decide_eq_true e2, e3]; simp]; rfl
        · refine evp (by simp [e3]) (evs (no ?_).symm)
          unfold rowok; rw [Bool.eq_false_iff.2 e3]; simp
      · refine evn (by omega) (Ev.step (fun k => spec_l7Class.j1.eq_2 ..) (evp rfl (evs (no ?_).symm)))
        unfold rowok; rw [decide_eq_false e2]; simp
    · refine evp (by omega) (Ev.step (fun k => spec_l7Class.j1.eq_2 ..) (evp rfl (evs (no ?_).symm)))
      unfold rowok; rw [decide_eq_false e1]; simp
theorem l7Class (l : List (List Int)) (hx : l.length ≤ 1048576) (hr : ∀ r ∈ l, (r.length : Int) ≤ 1048576) : Ev (fun k => spec_l7Class.f k l) (classB l) := by
  unfold spec_l7Class.f classB
  refine evr (l7Class_l0 l hx hr l.length 0 (by omega) (fun h => by omega)) ?_
  rw [List.range_eq_range', Bool.and_comm]

/-! ### impl_IsClass -/
theorem rdL_nat'' (l : List (List Int)) (i : Nat) : rd_L1 l (i : Int) = rdl l i := by simp [rd_L1, rdl]
theorem iClass_l0 (l : List (List Int)) (hx : l.length ≤ 256) (hr : ∀ r ∈ l, (r.length : Int) ≤ 1048576) (h8 : (rdl l 0).length ≤ 8) : ∀ (d i : Nat), i + d = l.length → (0 < i → (rdl l (i - 1)).length = (rdl l 0).length) →
    Ev (fun k => impl_IsClass.l0 k l l (l.length : Int) (i : Int)) ((List.range' i d).all (rowok l)) := by
  intro d
  induction d with
  | zero =>
    intro i hi _
    exact Ev.step (fun k => impl_IsClass.l0.eq_2 ..) (evn (by omega) (evs (by simp)))
  | succ d ih =>
    intro i hi hp
    have hri := hr _ (rdl_mem l i (by omega))
    have no : rowok l i = false → (List.range' i (d + 1)).all (rowok l) = false := by
      intro e; rw [List.range'_succ, List.all_cons, e]; rfl
    refine Ev.step (fun k => impl_IsClass.l0.eq_2 ..) (evp (by omega) (evp (by omega) (evp (by omega) (evp (by omega) ?_))))
    rw [rdL_nat'', show rd_L1 l 0 = rdl l 0 from rdL_nat'' l 0]
    by_cases e2 : (rdl l i).length = (rdl l 0).length
    · refine evp (by omega) (evb (areLabels _ (by omega)) ?_)
      by_cases e3 : labB (rdl l i) = true
      · refine evp e3 ?_
        rw [w64s i (by omega)]
        by_cases e0 : 0 < i
        · refine evp (by omega) ?_
          have hpi := hp e0
          have hrp := hr _ (rdl_mem l (i - 1) (by omega))
          rw [w64 (x := (i : Int) - 1) (by omega) (by omega), show (i : Int) - 1 = ((i - 1 : Nat) : Int) by omega, rdL_nat'']
          refine evp (by omega) (evp (by omega) (evb (compareL _ _ (by omega)) ?_))
          have hc := cmp_lex (rdl l (i - 1)) (rdl l i) (by omega)
          by_cases e4 : lexB (rdl l (i - 1)) (rdl l i) = true
          · refine evn (fun h => by rw [hc.1 h] at e4; cases e4) (evr (ih (i + 1) (by omega) (fun _ => e2)) ?_)
            rw [List.range'_succ, List.all_cons, show rowok l i = true by unfold rowok; rw [decide_eq_true (show (rdl l i).length ≤ 8 by omega), decide_eq_true e2, e3, e4]; simp]; rfl
          · refine evp (hc.2 (Bool.eq_false_iff.2 e4)) (evs (no ?_).symm)
            unfold rowok; rw [Bool.eq_false_iff.2 e4, decide_eq_false (show ¬ i = 0 by omega)]; simp
        · obtain rfl : i = 0 := by omega
          refine evn (by omega) (evr (ih 1 (by omega) (fun _ => rfl)) ?_)
          rw [List.range'_succ, List.all_cons, show rowok l 0 = true by unfold rowok; rw [decide_eq_true h8, decide_eq_true e2, e3]; simp]; rfl
      · refine evn e3 (evs (no ?_).symm)
        unfold rowok; rw [Bool.eq_false_iff.2 e3]; simp
    · refine evn (by omega) (evs (no ?_).symm)
      unfold rowok; rw [decide_eq_false e2]; simp
theorem iIsClass (l : List (List Int)) (hx : l.length ≤ 1048576) (hr : ∀ r ∈ l, (r.length : Int) ≤ 1048576) : Ev (fun k => impl_IsClass.f k l) (classB l) := by
  unfold impl_IsClass.f classB
  rw [within]; simp only [Option.bind_some]
  by_cases e : 1 ≤ l.length ∧ l.length ≤ 256
  · refine evp (by simp; omega) (evp (by omega) (Ev.step (fun k => impl_IsClass.j0.eq_2 ..) ?_))
    rw [show rd_L1 l 0 = rdl l 0 from rdL_nat'' l 0, decide_eq_true e, Bool.true_and]
    by_cases h8 : (rdl l 0).length ≤ 8
    · refine evn (by simp; omega) (evr (iClass_l0 l e.2 hr h8 l.length 0 (by omega) (fun h => by omega)) ?_)
      rw [List.range_eq_range']
    · refine evp (by simp; omega) (evs ?_)
      obtain ⟨n, hn⟩ : ∃ n, l.length = n + 1 := ⟨l.length - 1, by omega⟩
      rw [hn, List.range_eq_range', List.range'_succ, List.all_cons, show rowok l 0 = false by unfold rowok; rw [decide_eq_false h8]; rfl]; rfl
  · exact evn (by simp; omega) (Ev.step (fun k => impl_IsClass.j0.eq_2 ..) (evp rfl (evs (by rw [decide_eq_false e]; rfl))))

/-! ### spec_l7At -/
def atV (h s : List Int) : List Int := s.map fun i => h.getD i.toNat 0
theorem l7At_l0 (h s : List Int) (hs : s.length ≤ 1048576) (hb : ∀ x ∈ s, 0 ≤ x ∧ x < h.length) : ∀ (d i : Nat) (out : List Int), i + d = s.length → out.length = i → Ev (fun k => spec_l7At.l0 k h s out (i : Int)) (out ++ atV h (s.drop i)) := by
  intro d
  induction d with
  | zero =>
    intro i out hi ho
    refine Ev.step (fun k => spec_l7At.l0.eq_2 ..) (evn (by omega) (evs ?_))
    rw [List.drop_of_length_le (by omega)]; simp [atV]
  | succ d ih =>
    intro i out hi ho
    have e : s.drop i = s.getD i 0 :: s.drop (i + 1) := by
      rw [List.drop_eq_getElem_cons (by omega)]; simp [List.getD_eq_getElem?_getD, List.getElem?_eq_getElem (show i < s.length by omega)]
    have hx := hb (s.getD i 0) (by rw [List.getD_eq_getElem?_getD, List.getElem?_eq_getElem (by omega)]; exact List.getElem_mem _)
    refine Ev.step (fun k => spec_l7At.l0.eq_2 ..) (evp (by omega) (evp (by omega) ?_))
    rw [rd_nat s i, w64s i (by omega)]
    refine evp hx.1 (evp hx.2 (evp (by omega) (evr (ih (i + 1) _ (by omega) (by simp; omega)) ?_)))
    rw [e]; simp [atV, rd]
theorem l7At (h s : List Int) (hs : s.length ≤ 1048576) (hb : ∀ x ∈ s, 0 ≤ x ∧ x < h.length) : Ev (fun k => spec_l7At.f k h s) (atV h s) := by
  unfold spec_l7At.f
  exact l7At_l0 h s hs hb s.length 0 [] (by omega) rfl
theorem atV_len (h s : List Int) : (atV h s).length = s.length := by simp [atV]

/-! ### impl_at spec_l7At -/
theorem iAt_l0 (h s : List Int) (hs : s.length ≤ 1048576) (hb : ∀ x ∈ s, 0 ≤ x ∧ x < h.length) : ∀ (d i : Nat) (out : List Int), i + d = s.length → out.length = i → Ev (fun k => impl_at.l0 k h out s (s.length : Int) (i : Int)) (out ++ atV h (s.drop i)) := by
  intro d
  induction d with
  | zero =>
    intro i out hi ho
    refine Ev.step (fun k => impl_at.l0.eq_2 ..) (evn (by omega) (evs ?_))
    rw [List.drop_of_length_le (by omega)]; simp [atV]
  | succ d ih =>
    intro i out hi ho
    have e : s.drop i = s.getD i 0 :: s.drop (i + 1) := by
      rw [List.drop_eq_getElem_cons (by omega)]; simp [List.getD_eq_getElem?_getD, List.getElem?_eq_getElem (show i < s.length by omega)]
    have hx := hb (s.getD i 0) (by rw [List.getD_eq_getElem?_getD, List.getElem?_eq_getElem (by omega)]; exact List.getElem_mem _)
    refine Ev.step (fun k => impl_at.l0.eq_2 ..) (evp (by omega) (evp (by omega) (evp (by omega) ?_)))
    rw [rd_nat s i, w64s i (by omega)]
    refine evp hx.1 (evp hx.2 (evp (by omega) (evr (ih (i + 1) _ (by omega) (by simp; omega)) ?_)))
    rw [e]; simp [atV, rd]
theorem iAt (h s : List Int) (hs : s.length ≤ 1048576) (hb : ∀ x ∈ s, 0 ≤ x ∧ x < h.length) : Ev (fun k => impl_at.f k h s) (atV h s) := by
  unfold impl_at.f
  exact iAt_l0 h s hs hb s.length 0 [] (by omega) rfl

/-! ### slices_Equal_int_int -/
theorem sEqual_l0 (a b : List Int) (hl : a.length = b.length) (hx : a.length ≤ 1048576) : ∀ (d i : Nat), i + d = a.length → Ev (fun k => slices_Equal_int_int.l0 k a b (a.length : Int) (i : Int)) (decide (a.drop i = b.drop i)) := by
  intro d
  induction d with
  | zero =>
    intro i hi
    refine Ev.step (fun k => slices_Equal_int_int.l0.eq_2 ..) (evn (by omega) (evs ?_))
    rw [List.drop_of_length_le (by omega), List.drop_of_length_le (by omega)]; simp
  | succ d ih =>
    intro i hi
    have e1 : a.drop i = a.getD i 0 :: a.drop (i + 1) := by
      rw [List.drop_eq_getElem_cons (by omega)]; simp [List.getD_eq_getElem?_getD, List.getElem?_eq_getElem (show i < a.length by omega)]
    have e2 : b.drop i = b.getD i 0 :: b.drop (i + 1) := by
      rw [List.drop_eq_getElem_cons (by omega)]; simp [List.getD_eq_getElem?_getD, List.getElem?_eq_getElem (show i < b.length by omega)]
    refine Ev.step (fun k => slices_Equal_int_int.l0.eq_2 ..) (evp (by omega) (evp (by omega) (evp (by omega) (evp (by omega) ?_))))
    rw [rd_nat, rd_nat, w64s i (by omega), e1, e2]
    by_cases c : a.getD i 0 = b.getD i 0
    · refine evp c (evr (ih (i + 1) (by omega)) ?_)
      rw [c]; simp only [List.cons.injEq, true_and]
    · exact evn c (evs (by simp only [List.cons.injEq, c, false_and, decide_false]))
theorem sEqual (a b : List Int) (hx : a.length ≤ 1048576) : Ev (fun k => slices_Equal_int_int.f k a b) (decide (a = b)) := by
  unfold slices_Equal_int_int.f
  by_cases h : a.length = b.length
  · exact evp (by omega) (evr (sEqual_l0 a b h hx a.length 0 (by omega)) (by simp))
  · exact evn (by omega) (evs (decide_eq_false (fun e => h (by rw [e]))).symm)

/-! ### spec_l7Set spec_l7Class !spec_l7Version -/
theorem classB_at {c : List (List Int)} (h : classB c = true) : (1 ≤ c.length ∧ c.length ≤ 256) ∧ ∀ i, i < c.length → (rdl c i).length = (rdl c 0).length ∧ (rdl c i).length ≤ 8 := by
  unfold classB at h
  simp only [Bool.and_eq_true, decide_eq_true_eq, List.all_eq_true, List.mem_range] at h
  refine ⟨h.1, fun i hi => ?_⟩
  have := h.2 i hi
  unfold rowok at this
  simp only [Bool.and_eq_true, decide_eq_true_eq] at this
  exact ⟨this.2.1, this.1⟩

/-! ### spec_l7Set spec_l7Class spec_l1Rising -/
def csetB (c : List (List Int)) (s : List Int) : Bool := classB c && setB (rdl c 0).length s
theorem l7Set (c : List (List Int)) (s : List Int) (hx : c.length ≤ 1048576) (hr : ∀ r ∈ c, (r.length : Int) ≤ 1048576) (hs : s.length ≤ 1048576) : Ev (fun k => spec_l7Set.f k c s) (csetB c s) := by
  unfold spec_l7Set.f csetB setB
  refine evb (l7Class c hx hr) ?_
  by_cases e : classB c = true
  · have h := classB_at e
    have := h.2 0 (by omega)
    refine evp e (evp (by omega) ?_)
    rw [show rd_L1 c 0 = rdl c 0 from rdL_nat' c 0, w64 (by omega) (by omega), e, Bool.true_and]
    exact evb (l1Rising s _ _ (by omega)) (evs rfl)
  · exact evn e (evs (by rw [Bool.eq_false_iff.2 e]; rfl))

/-! ### impl_isClassSet impl_IsClass impl_isSet spec_l7Set -/
theorem isClassSet (c : List (List Int)) (s : List Int) (hx : c.length ≤ 1048576) (hr : ∀ r ∈ c, (r.length : Int) ≤ 1048576) (hs : s.length ≤ 1048576) : Ev (fun k => impl_isClassSet.f k c s) (csetB c s) := by
  unfold impl_isClassSet.f csetB
  refine evb (iIsClass c hx hr) ?_
  by_cases e : classB c = true
  · have h := classB_at e
    have := h.2 0 (by omega)
    refine evp e (evp (by omega) ?_)
    rw [show rd_L1 c 0 = rdl c 0 from rdL_nat' c 0, e, Bool.true_and]
    exact evb (isSet s _ (by omega) (by omega)) (evs rfl)
  · exact evn e (evs (by rw [Bool.eq_false_iff.2 e]; rfl))

/-! ### impl_shatters spec_l7Shatters spec_l7Traces -/
/-! ### traces -/
theorem cmpT_cmpv : ∀ a b : List Int, cmpT a b = cmpv a b
  | [], [] => rfl
  | [], _ :: _ => rfl
  | _ :: _, [] => rfl
  | x :: a, y :: b => by
    unfold cmpT cmpv
    rw [cmpT_cmpv a b]
theorem lexB_iff (a b : List Int) (h : a.length = b.length) : lexB a b = true ↔ cmpT a b < 0 := by
  have := cmp_lex a b h
  rw [cmpT_cmpv]
  cases e : lexB a b with
  | true => rw [e] at this; simp at this; simp; omega
  | false => rw [e] at this; simp at this; simp; omega
/-- strictly rising lists of rows -/
def Srt (R : List (List Int)) : Prop := R.Pairwise fun x y => cmpT x y < 0
theorem cmpT_irr (x : List Int) : ¬ cmpT x x < 0 := by rw [cmpT_self]; omega
theorem srt_ext : ∀ a b : List (List Int), Srt a → Srt b → (∀ x, x ∈ a ↔ x ∈ b) → a = b
  | [], [], _, _, _ => rfl
  | [], y :: b, _, _, h => absurd ((h y).2 List.mem_cons_self) (by simp)
  | x :: a, [], _, _, h => absurd ((h x).1 List.mem_cons_self) (by simp)
  | x :: a, y :: b, ha, hb, h => by
    have la := (List.pairwise_cons.1 ha).1
    have lb := (List.pairwise_cons.1 hb).1
    have e : x = y := by
      rcases List.mem_cons.1 ((h x).1 List.mem_cons_self) with e | hx
      · exact e
      · rcases List.mem_cons.1 ((h y).2 List.mem_cons_self) with e | hy
        · exact e.symm
        · exact absurd (cmpT_trans _ _ _ (la y hy) (lb x hx)) (cmpT_irr x)
    subst e
    rw [srt_ext a b (List.pairwise_cons.1 ha).2 (List.pairwise_cons.1 hb).2 (fun z => ⟨fun hz => ?_, fun hz => ?_⟩)]
    · rcases List.mem_cons.1 ((h z).1 (List.mem_cons_of_mem _ hz)) with e | hz'
      · subst e; exact absurd (la z hz) (cmpT_irr z)
      · exact hz'
    · rcases List.mem_cons.1 ((h z).2 (List.mem_cons_of_mem _ hz)) with e | hz'
      · subst e; exact absurd (lb z hz) (cmpT_irr z)
      · exact hz'
/-- equal neighbours become one -/
def cpt : List (List Int) → List (List Int)
  | [] => []
  | [x] => [x]
  | x :: y :: t => if x = y then cpt (y :: t) else x :: cpt (y :: t)
theorem cpt_mem : ∀ (l : List (List Int)) (z : List Int), z ∈ cpt l ↔ z ∈ l
  | [], z => Iff.rfl
  | [x], z => Iff.rfl
  | x :: y :: t, z => by
    unfold cpt
    by_cases e : x = y
    · rw [if_pos e, cpt_mem (y :: t) z]
      subst e
      simp
    · rw [if_neg e, List.mem_cons, cpt_mem (y :: t) z, List.mem_cons (a := z) (b := x)]
theorem cpt_srt : ∀ l : List (List Int), l.Pairwise (fun x y => ¬ cmpT y x < 0) → Srt (cpt l)
  | [], _ => List.Pairwise.nil
  | [x], _ => List.pairwise_singleton _ _
  | x :: y :: t, h => by
    have h1 := List.pairwise_cons.1 h
    unfold cpt
    have ih := cpt_srt (y :: t) h1.2
    by_cases e : x = y
    · rw [if_pos e]; exact ih
    · rw [if_neg e]
      refine List.pairwise_cons.2 ⟨fun z hz => ?_, ih⟩
      have hz' := (cpt_mem (y :: t) z).1 hz
      have hxy : cmpT x y < 0 := Classical.byContradiction fun hn => e (cmpT_tot x y hn (h1.1 y List.mem_cons_self))
      rcases List.mem_cons.1 hz' with e2 | hz2
      · rw [e2]; exact hxy
      · have hyz := (List.pairwise_cons.1 h1.2).1 z hz2
        by_cases e3 : cmpT y z < 0
        · exact cmpT_trans _ _ _ hxy e3
        · rw [← cmpT_tot y z e3 hyz]; exact hxy
theorem chg_cons (x y : List Int) (t : List (List Int)) : ∀ m : Nat, chg (x :: y :: t) (m + 2) = chg (y :: t) (m + 1) + (if x = y then 0 else 1) := by
  intro m
  induction m with
  | zero =>
    show chg (x :: y :: t) 1 + _ = 1 + _
    simp only [chg, List.getD_cons_zero, List.getD_cons_succ]
    by_cases e : x = y
    · rw [if_pos e, if_pos e.symm]
    · rw [if_neg e, if_neg (fun h => e h.symm)]
  | succ m ih =>
    show chg (x :: y :: t) (m + 2) + _ = (chg (y :: t) (m + 1) + _) + _
    rw [ih]
    simp only [List.getD_cons_succ]
    omega
theorem chg_cpt : ∀ l : List (List Int), chg l l.length = (cpt l).length
  | [] => rfl
  | [x] => rfl
  | x :: y :: t => by
    show chg (x :: y :: t) (t.length + 2) = _
    rw [chg_cons, show chg (y :: t) (t.length + 1) = (cpt (y :: t)).length from chg_cpt (y :: t)]
    simp only [cpt]
    split
    · rfl
    · simp
theorem ev_all {α β : Type} (g : Nat → α → Option β) (v : α → β) : ∀ L : List α, (∀ s ∈ L, Ev (fun k => g k s) (v s)) → ∃ K, ∀ k, K ≤ k → ∀ s ∈ L, g k s = some (v s) := by
  intro L
  induction L with
  | nil => intro _; exact ⟨0, fun k _ s hs => by cases hs⟩
  | cons a L ih =>
    intro h
    obtain ⟨K1, h1⟩ := h a (by simp)
    obtain ⟨K2, h2⟩ := ih fun s hs => h s (by simp [hs])
    refine ⟨max K1 K2, fun k hk s hs => ?_⟩
    rcases List.mem_cons.1 hs with rfl | hs
    · exact h1 k (by omega)
    · exact h2 k (by omega) s hs
/-- the rows of a class at a set's places -/
def trV (c : List (List Int)) (s : List Int) : List (List Int) := c.map fun h => atV h s
/-- how many differ -/
def manyV (c : List (List Int)) (s : List Int) : Nat := (cpt (sortL cmpT (trV c s))).length
theorem trV_at (c : List (List Int)) (s : List Int) (z : List Int) : z ∈ trV c s ↔ ∃ j, j < c.length ∧ z = atV (rdl c j) s := by
  unfold trV
  rw [List.mem_map]
  constructor
  · rintro ⟨h, hh, rfl⟩
    obtain ⟨j, hj, rfl⟩ := List.getElem_of_mem hh
    exact ⟨j, hj, by unfold rdl; rw [List.getD_eq_getElem?_getD, List.getElem?_eq_getElem hj]; rfl⟩
  · rintro ⟨j, hj, rfl⟩
    exact ⟨rdl c j, rdl_mem c j hj, rfl⟩
theorem sortT_srt (l : List (List Int)) : (sortL cmpT l).Pairwise (fun x y => ¬ cmpT y x < 0) := by
  have := List.pairwise_mergeSort (le := fun x y => !(decide (cmpT y x < 0))) (fun a b c h1 h2 => by
    simp at h1 h2 ⊢
    refine Classical.byContradiction fun hn => ?_
    have hca : cmpT c a < 0 := by omega
    by_cases hab : cmpT a b < 0
    · have := cmpT_trans c a b hca hab; omega
    · have e := cmpT_tot a b hab (by omega)
      subst e; omega) (fun a b => by
    by_cases h : cmpT b a < 0
    · by_cases h' : cmpT a b < 0
      · exact absurd (cmpT_trans _ _ _ h h') (cmpT_irr b)
      · simp; omega
    · simp; omega) l
  exact this.imp (fun {a b} h => by simpa using h)
theorem iShatters (c : List (List Int)) (s : List Int) (hx : c.length ≤ 1048576) (hs : s.length ≤ 1048576) (hb : ∀ h ∈ c, ∀ x ∈ s, 0 ≤ x ∧ x < h.length) : Ev (fun k => impl_shatters.f k c s) (((manyV c s : Nat) : Int) == (shl .i64 1 (s.length : Int))) := by
  obtain ⟨K1, h1⟩ := ev_all (fun k h => impl_at.f k h s) (fun h => atV h s) c (fun h hh => iAt h s hs (hb h hh))
  obtain ⟨K2, h2⟩ := ev_all (fun k (p : List Int × List Int) => slices_Compare_int_int.f k p.1 p.2) (fun p => cmpT p.1 p.2) ((trV c s).flatMap fun x => (trV c s).map fun y => (x, y)) (fun p hp => by
    obtain ⟨x, hx1, hp2⟩ := List.mem_flatMap.1 hp
    obtain ⟨y, hy, rfl⟩ := List.mem_map.1 hp2
    obtain ⟨h, _, rfl⟩ := List.mem_map.1 hx1
    simp only
    rw [cmpT_cmpv]
    exact compareL _ _ (by rw [atV_len]; omega))
  obtain ⟨K3, h3⟩ := ev_all (fun k (p : List Int × List Int) => slices_Equal_int_int.f k p.1 p.2) (fun p => decide (p.1 = p.2)) ((trV c s).flatMap fun x => (trV c s).map fun y => (x, y)) (fun p hp => by
    obtain ⟨x, hx1, hp2⟩ := List.mem_flatMap.1 hp
    obtain ⟨y, hy, rfl⟩ := List.mem_map.1 hp2
    obtain ⟨h, _, rfl⟩ := List.mem_map.1 hx1
    exact sEqual _ _ (by rw [atV_len]; omega))
  refine ⟨max K1 (max K2 K3), fun k hk => ?_⟩
  have a1 := h1 k (by omega); have a2 := h2 k (by omega); have a3 := h3 k (by omega)
  have e : trR k c s = trV c s := by
    unfold trR trV
    exact List.map_congr_left fun h hh => by rw [a1 h hh]; rfl
  have hok : SHOK k c s := by
    refine ⟨hx, fun h hh => by rw [a1 h hh]; rfl, ?_, ?_⟩
    · rw [e]; exact fun x hx y hy => a2 (x, y) (List.mem_flatMap.2 ⟨x, hx, List.mem_map.2 ⟨y, hy, rfl⟩⟩)
    · rw [e]; exact fun x hx y hy => a3 (x, y) (List.mem_flatMap.2 ⟨x, hx, List.mem_map.2 ⟨y, hy, rfl⟩⟩)
  unfold impl_shatters.f
  refine Eq.trans (if_pos hok) ?_
  rw [e]
  unfold manyV
  rw [← chg_cpt, show (sortL cmpT (trV c s)).length = (trV c s).length from (List.mergeSort_perm _ _).length_eq]
theorem insert_srt (R : List (List Int)) (r : List Int) (p : Nat) (hR : Srt R) (h1 : ∀ y ∈ R.drop p, cmpT r y < 0) (h2 : ∀ y ∈ R.take p, cmpT y r < 0) : Srt ((([] ++ R.take p) ++ [r]) ++ R.drop p) ∧ ∀ x, x ∈ ((([] ++ R.take p) ++ [r]) ++ R.drop p) ↔ x ∈ R ∨ x = r := by
  have hsp : R.take p ++ R.drop p = R := List.take_append_drop p R
  have hR' := hR
  unfold Srt at hR'
  rw [← hsp, List.pairwise_append] at hR'
  refine ⟨?_, fun x => ?_⟩
  · unfold Srt
    rw [List.nil_append, List.append_assoc, List.pairwise_append]
    refine ⟨hR'.1, ?_, fun a ha b hb => ?_⟩
    · rw [List.singleton_append, List.pairwise_cons]
      exact ⟨fun y hy => h1 y hy, hR'.2.1⟩
    · rcases List.mem_append.1 hb with hb | hb
      · rw [List.mem_singleton.1 hb]; exact h2 a ha
      · exact hR'.2.2 a ha b hb
  · have : x ∈ R ↔ x ∈ R.take p ∨ x ∈ R.drop p := by rw [← List.mem_append, hsp]
    rw [this]
    simp only [List.nil_append, List.append_assoc, List.mem_append, List.mem_singleton]
    constructor
    · rintro (h | h | h)
      · exact .inl (.inl h)
      · exact .inr h
      · exact .inl (.inr h)
    · rintro ((h | h) | h)
      · exact .inl h
      · exact .inr (.inr h)
      · exact .inr (.inl h)
theorem sTraces_l1 (c : List (List Int)) (s : List Int) (i : Nat) (r : List Int) (R : List (List Int)) (hR : Srt R) (hl : ∀ x ∈ R, x.length = r.length) (hrl : r.length ≤ 1048576) (hRl : R.length ≤ 1048576) (v : List (List Int)) :
    ∀ p, p ≤ R.length → (∀ y ∈ R.drop p, cmpT r y < 0) → ∃ R', (Srt R' ∧ R'.length ≤ R.length + 1 ∧ ∀ x, x ∈ R' ↔ x ∈ R ∨ x = r) ∧ (Ev (fun k => spec_l7Traces.l0 k c s R' (wrap64 ((i : Int) + 1))) v → Ev (fun k => spec_l7Traces.l1 k c s R (i : Int) r (p : Int)) v) := by
  intro p
  induction p with
  | zero =>
    intro _ h1
    obtain ⟨g1, g2⟩ := insert_srt R r 0 hR h1 (fun y hy => by simp at hy)
    refine ⟨_, ⟨g1, by simp, g2⟩, fun hK => ?_⟩
    exact Ev.step (fun k => spec_l7Traces.l1.eq_2 ..) (evn (by omega) (evp rfl (evb (evs rfl) (evp (by omega) (evp (by omega) (evb (evs rfl) (evp (by simp) (evb (evs rfl) (evb (evs rfl) (evp (by simp) (evb (evs rfl) (evb (evs rfl) (evp (by simp; omega) hK)))))))))))))
  | succ p ih =>
    intro hp h1
    have hpl : p < R.length := by omega
    have hw : wrap64 (((p + 1 : Nat) : Int) - 1) = (p : Int) := by rw [w64 (by omega) (by omega)]; omega
    have hrd : rd_L1 R (p : Int) = rdl R p := rdL_nat' R p
    have hmem := rdl_mem R p hpl
    have hll := hl _ hmem
    have hbf : Ev (fun k => spec_l7Before.f k r (rdl R p)) (lexB r (rdl R p)) := l7Before r (rdl R p) hll.symm (by omega)
    have hbf2 : Ev (fun k => spec_l7Before.f k (rdl R p) r) (lexB (rdl R p) r) := l7Before (rdl R p) r hll (by omega)
    have hdr : R.drop p = rdl R p :: R.drop (p + 1) := rdl_drop R p hpl
    by_cases e : cmpT r (rdl R p) < 0
    · have et : lexB r (rdl R p) = true := (lexB_iff r (rdl R p) hll.symm).2 e
      rw [et] at hbf
      obtain ⟨R', h2, h3⟩ := ih (by omega) (fun y hy => by
        rw [hdr] at hy
        rcases List.mem_cons.1 hy with rfl | hy
        · exact e
        · exact h1 y hy)
      refine ⟨R', h2, fun hK => ?_⟩
      refine Ev.step (fun k => spec_l7Traces.l1.eq_2 ..) (evp (by omega) ?_)
      rw [hw, hrd]
      exact evp (by omega) (evp (by omega) (evb hbf (evp rfl (h3 hK))))
    · have et : lexB r (rdl R p) = false := Bool.eq_false_iff.2 fun h => e ((lexB_iff r (rdl R p) hll.symm).1 h)
      rw [et] at hbf
      by_cases e2 : cmpT (rdl R p) r < 0
      · have et2 : lexB (rdl R p) r = true := (lexB_iff (rdl R p) r hll).2 e2
        rw [et2] at hbf2
        have hpw := hR
        unfold Srt at hpw
        obtain ⟨g1, g2⟩ := insert_srt R r (p + 1) hR h1 (fun y hy => by
          rw [← List.take_append_drop p R, List.pairwise_append] at hpw
          rw [show p + 1 = p + 1 from rfl, List.take_succ_eq_append_getElem hpl] at hy
          have eg : R[p] = rdl R p := by unfold rdl; rw [List.getD_eq_getElem?_getD, List.getElem?_eq_getElem hpl]; rfl
          rcases List.mem_append.1 hy with hy | hy
          · exact cmpT_trans _ _ _ (hpw.2.2 y hy (rdl R p) (by rw [hdr]; simp)) e2
          · rw [List.mem_singleton.1 hy, eg]; exact e2)
        refine ⟨_, ⟨g1, by simp; omega, g2⟩, fun hK => ?_⟩
        refine Ev.step (fun k => spec_l7Traces.l1.eq_2 ..) (evp (by omega) ?_)
        rw [hw, hrd]
        exact evp (by omega) (evp (by omega) (evb hbf (evn (by decide) (evn (by omega) (evb hbf2 (evp rfl (evb (evs rfl) (evp (by omega) (evp (by omega) (evb (evs rfl) (evp (by simp; omega) (evb (evs rfl) (evb (evs rfl) (evp (by simp; omega) (evb (evs rfl) (evb (evs rfl) (evp (by simp; omega) hK)))))))))))))))))
      · have et2 : lexB (rdl R p) r = false := Bool.eq_false_iff.2 fun h => e2 ((lexB_iff (rdl R p) r hll).1 h)
        rw [et2] at hbf2
        have heq := cmpT_tot r (rdl R p) e e2
        refine ⟨R, ⟨hR, by omega, fun x => ⟨.inl, fun h => h.elim id (fun h => by rw [h, heq]; exact hmem)⟩⟩, fun hK => ?_⟩
        refine Ev.step (fun k => spec_l7Traces.l1.eq_2 ..) (evp (by omega) ?_)
        rw [hw, hrd]
        exact evp (by omega) (evp (by omega) (evb hbf (evn (by decide) (evn (by omega) (evb hbf2 (evn (by decide) hK))))))
theorem sTraces_l0 (c : List (List Int)) (s : List Int) (hx : c.length ≤ 1048575) (hs : s.length ≤ 1048576) (hb : ∀ h ∈ c, ∀ x ∈ s, 0 ≤ x ∧ x < h.length) : ∀ d i (R : List (List Int)), i + d = c.length → Srt R → R.length ≤ i → (∀ z, z ∈ R ↔ ∃ j, j < i ∧ z = atV (rdl c j) s) → ∃ R', Ev (fun k => spec_l7Traces.l0 k c s R (i : Int)) R' ∧ Srt R' ∧ ∀ z, z ∈ R' ↔ ∃ j, j < c.length ∧ z = atV (rdl c j) s := by
  intro d
  induction d with
  | zero =>
    intro i R hi h1 h2 h3
    refine ⟨R, Ev.step (fun k => spec_l7Traces.l0.eq_2 ..) (evn (by omega) (evs rfl)), h1, fun z => ?_⟩
    rw [h3 z, show i = c.length by omega]
  | succ d ih =>
    intro i R hi h1 h2 h3
    have hil : i < c.length := by omega
    have hlen : ∀ x ∈ R, x.length = (atV (rdl c i) s).length := fun x hx => by
      obtain ⟨j, _, rfl⟩ := (h3 x).1 hx
      rw [atV_len, atV_len]
    obtain ⟨q, hq⟩ : ∃ q, q = R.length := ⟨_, rfl⟩
    have key := fun v => sTraces_l1 c s i (atV (rdl c i) s) R h1 hlen (by rw [atV_len]; omega) (by omega) v R.length (Nat.le_refl _) (fun y hy => by simp at hy)
    obtain ⟨R1, ⟨a1, a2, a3⟩, _⟩ := key []
    obtain ⟨R2, hR2, b1, b2⟩ := ih (i + 1) R1 (by omega) a1 (by omega) (fun z => by
      rw [a3 z, h3 z]
      constructor
      · rintro (⟨j, hj, e⟩ | e)
        · exact ⟨j, by omega, e⟩
        · exact ⟨i, by omega, e⟩
      · rintro ⟨j, hj, e⟩
        by_cases hji : j = i
        · subst hji; exact .inr e
        · exact .inl ⟨j, by omega, e⟩)
    obtain ⟨R3, ⟨c1, _, c3⟩, c4⟩ := key R2
    have e31 : R3 = R1 := srt_ext _ _ c1 a1 (fun z => by rw [a3 z, c3 z])
    refine ⟨R2, ?_, b1, b2⟩
    refine Ev.step (fun k => spec_l7Traces.l0.eq_2 ..) (evp (by omega) (evp (by omega) ?_))
    rw [show rd_L1 c (i : Int) = rdl c i from rdL_nat' c i]
    refine evb (l7At (rdl c i) s hs (hb _ (rdl_mem c i hil))) (c4 ?_)
    rw [w64s i (by omega), e31]
    exact hR2
theorem sShatters (c : List (List Int)) (s : List Int) (hx : c.length ≤ 1048575) (hs : s.length ≤ 1048576) (hb : ∀ h ∈ c, ∀ x ∈ s, 0 ≤ x ∧ x < h.length) : Ev (fun k => spec_l7Shatters.f k c s) (((manyV c s : Nat) : Int) == (shl .i64 1 (s.length : Int))) := by
  obtain ⟨R, hR, h1, h2⟩ := sTraces_l0 c s hx hs hb c.length 0 [] (by omega) List.Pairwise.nil (by simp) (fun z => by simp)
  have e : R = cpt (sortL cmpT (trV c s)) := srt_ext _ _ h1 (cpt_srt _ (sortT_srt _)) (fun z => by
    rw [h2 z, cpt_mem, show z ∈ sortL cmpT (trV c s) ↔ z ∈ trV c s from (List.mergeSort_perm _ _).mem_iff, trV_at])
  unfold spec_l7Shatters.f spec_l7Traces.f
  refine evb hR (evs ?_)
  rw [e]; rfl

/-! ### impl_ShattersSet impl_shatters spec_ShattersSet spec_l7Shatters spec_l7Traces spec_l7Set -/
def shatV (c : List (List Int)) (s : List Int) : Bool × Bool := if csetB c s = true then (((manyV c s : Nat) : Int) == (shl .i64 1 (s.length : Int)), true) else (false, false)
theorem cset_at {c : List (List Int)} {s : List Int} (h : csetB c s = true) : c.length ≤ 256 ∧ ∀ h ∈ c, ∀ x ∈ s, 0 ≤ x ∧ x < h.length := by
  unfold csetB at h
  rw [Bool.and_eq_true] at h
  have hc := classB_at h.1
  have h1 : ∀ x ∈ s, 0 ≤ x ∧ x < ((rdl c 0).length : Int) := by
    have h2 := h.2
    simp only [setB, inB, Bool.and_eq_true, List.all_eq_true, decide_eq_true_eq] at h2
    exact fun x hx => by have := h2.1 x hx; omega
  refine ⟨hc.1.2, fun g hg x hx => ?_⟩
  obtain ⟨j, hj, rfl⟩ := List.getElem_of_mem hg
  have := (hc.2 j hj).1
  have h3 := h1 x hx
  have e : c[j] = rdl c j := by unfold rdl; rw [List.getD_eq_getElem?_getD, List.getElem?_eq_getElem hj]; rfl
  rw [e, this]; exact h3
theorem iShatSet (c : List (List Int)) (s : List Int) (hx : c.length ≤ 1048576) (hr : ∀ r ∈ c, (r.length : Int) ≤ 1048576) (hs : s.length ≤ 1048576) : Ev (fun k => impl_ShattersSet.f k c s) (shatV c s) := by
  unfold impl_ShattersSet.f shatV
  refine evb (isClassSet c s hx hr hs) ?_
  by_cases e : csetB c s = true
  · obtain ⟨h1, h2⟩ := cset_at e
    rw [if_pos e]
    exact evp e (evb (iShatters c s (by omega) hs h2) (evs rfl))
  · rw [if_neg e]
    exact evn e (evs rfl)
theorem sShatSet (c : List (List Int)) (s : List Int) (hx : c.length ≤ 1048576) (hr : ∀ r ∈ c, (r.length : Int) ≤ 1048576) (hs : s.length ≤ 1048576) : Ev (fun k => spec_ShattersSet.f k c s) (shatV c s) := by
  unfold spec_ShattersSet.f shatV
  refine evb (l7Set c s hx hr hs) ?_
  by_cases e : csetB c s = true
  · obtain ⟨h1, h2⟩ := cset_at e
    rw [if_pos e]
    exact evp e (evb (sShatters c s (by omega) hs h2) (evs rfl))
  · rw [if_neg e]
    exact evn e (evs rfl)

/-! ### laws_FnExactShattersSet -/
theorem law (c : List (List Int)) (s : List Int) (hc : c.length ≤ maxLen) (hr : ∀ r ∈ c, r.length ≤ maxLen) : Ev (fun k => laws_FnExactShattersSet.f k c s) true := by
  unfold laws_FnExactShattersSet.f
  by_cases h : (s.length : Int) > 1048576
  · exact evp h (evs rfl)
  refine evn h ?_
  refine evb (szIntSS c 1048576 (by omega) (by omega) hc hr) ?_
  obtain ⟨h1, h2, h3⟩ := szv_ok c 1048576 (by omega)
  by_cases h : 0 ≤ szv c 1048576
  · obtain ⟨h4, h5⟩ := h3 h
    refine evn (by omega) ?_
    have hs := sShatSet c s (by omega) h5 (by omega)
    have hi := iShatSet c s (by omega) h5 (by omega)
    generalize shatV c s = R at *
    repeat (first
    | exact evs rfl
    | dsimp only
    | (with_reducible refine evb hs ?_)
    | (with_reducible refine evb hi ?_)
    | ((with_reducible refine evb (toIntS _ ?_) ?_); (focus (first | omega | assumption)))
    | ((with_reducible refine evb (eqIntS _ _ ?_) ?_); (focus (first | omega | assumption)))
    | ((with_reducible refine evb (toIntSS _ ?_ ?_) ?_); (focus (first | omega | assumption)); (focus (first | omega | assumption)))
    | ((with_reducible refine evb (eqIntSS _ _ ?_ ?_) ?_); (focus (first | omega | assumption)); (focus (first | omega | assumption)))
    | (refine evp ?_ ?_; focus (first | omega | (simp; done)))
    | (refine evn ?_ ?_; focus (first | omega | (simp; done)))
    | (with_reducible refine Ev.step (fun k => laws_FnExactShattersSet.j0.eq_2 ..) ?_)
    )
  · exact evp (by omega) (evs rfl)

end Go.Proofs.Ytihnmdnmjieffaa.LFnExactShattersSet
