/- Own lemmas: what the printed functions of one law come to. -/
import Derived.Test.YtddpdeoflaigeaaMFnExactMistakesOfx9
import Derived.Test.YtddpdeoflaigeaaBFnExactMistakesOf
namespace Go.Proofs.Ytddpdeoflaigeaa.LFnExactMistakesOf
open Go Go.RowKit Go.Proofs.Ytddpdeoflaigeaa.Base Go.Proofs.Ytddpdeoflaigeaa.PFnExactMistakesOf Go.Proofs.YtddpdeoflaigeaaW.PrintWords Go.Proofs.YtddpdeoflaigeaaW.PrintLast Go.Proofs.YtddpdeoflaigeaaW.PrintMore
set_option linter.unusedVariables false
set_option linter.unusedSimpArgs false
set_option maxRecDepth 4000

/-! ### laws_toIntS -/
theorem toIntS_l0 (x0 : List Int) (hx : x0.length < 4611686018427387904) : ∀ (d i : Nat) (x3 : List Int), i + d = x0.length → x3.length = x0.length →
    Ev (fun k => laws_toIntS.l0 k x0 x3 (i : Int)) (x3.take i ++ x0.drop i) := by
  intro d
  induction d with
  | zero =>
    intro i x3 hi hl
    refine Ev.step (fun k => laws_toIntS.l0.eq_2 ..) (evn (by omega) (evs ?_))
    simp [List.take_of_length_le (show x3.length ≤ i by omega), List.drop_of_length_le (show x0.length ≤ i by omega)]
  | succ d ih =>
    intro i x3 hi hl
    refine Ev.step (fun k => laws_toIntS.l0.eq_2 ..) (evp (by omega) (evp (by omega) (evp (by omega) ?_)))
    rw [w64s i (by omega), rd_nat]
    refine evr (ih (i + 1) _ (by omega) (by simpa using hl)) ?_
    rw [Int.toNat_natCast, set_take _ _ _ (by omega), List.drop_eq_getElem_cons (show i < x0.length by omega), List.append_assoc]
    simp [List.getD_eq_getElem?_getD, List.getElem?_eq_getElem (show i < x0.length by omega)]
theorem toIntS (l : List Int) (h : l.length ≤ 35184372088832) : Ev (fun k => laws_toIntS.f k l) l := by
  unfold laws_toIntS.f
  refine evp (by omega) (evp (by simpa using h) ?_)
  refine evr (toIntS_l0 l (by omega) l.length 0 _ (by omega) (by simp)) (by simp)

/-! ### laws_eqIntS -/
theorem eqIntS_l0 (a b : List Int) (hl : a.length = b.length) (hx : a.length < 4611686018427387904) : ∀ (d i : Nat), i + d = a.length →
    Ev (fun k => laws_eqIntS.l0 k a b (i : Int)) (decide (a.drop i = b.drop i)) := by
  intro d
  induction d with
  | zero =>
    intro i hi
    refine Ev.step (fun k => laws_eqIntS.l0.eq_2 ..) (evn (by omega) (evs ?_))
    simp [List.drop_of_length_le (show a.length ≤ i by omega), List.drop_of_length_le (show b.length ≤ i by omega)]
  | succ d ih =>
    intro i hi
    refine Ev.step (fun k => laws_eqIntS.l0.eq_2 ..) (evp (by omega) (evp (by omega) (evp (by omega) ?_)))
    rw [w64s i (by omega), rd_nat, rd_nat]
    have ea := List.drop_eq_getElem_cons (show i < a.length by omega)
    have eb := List.drop_eq_getElem_cons (show i < b.length by omega)
    simp only [List.getD_eq_getElem?_getD, List.getElem?_eq_getElem (show i < a.length by omega), List.getElem?_eq_getElem (show i < b.length by omega), Option.getD_some]
    by_cases e : a[i] = b[i]
    · refine evp e (evr (ih (i + 1) (by omega)) ?_)
      rw [ea, eb, e]; simp only [List.cons.injEq, true_and]
    · refine evn e (evs ?_)
      rw [ea, eb]; simp only [List.cons.injEq, e, false_and, decide_false]
theorem eqIntS (a b : List Int) (hx : a.length < 4611686018427387904) : Ev (fun k => laws_eqIntS.f k a b) (decide (a = b)) := by
  unfold laws_eqIntS.f
  by_cases h : a.length = b.length
  · refine evp (by omega) (evr (eqIntS_l0 a b h hx a.length 0 (by omega)) (by simp))
  · refine evn (by omega) (evs ?_)
    have : a ≠ b := fun e => h (by rw [e])
    simp [this]

/-! ### laws_markIntS -/
theorem markIntS_l0 (d : Nat) : ∀ (x0 : List Int) (m : Int) (i : Nat), i + d = x0.length → x0.length < 4611686018427387904 → 0 ≤ m → m + d < 4611686018427387904 →
    Ev (fun k => laws_markIntS.l0 k x0 m (i : Int)) (m + d, x0.take i ++ (List.range d).map fun j : Nat => m + (j : Int)) := by
  induction d with
  | zero =>
    intro x0 m i hi hx h0 hm
    refine Ev.step (fun k => laws_markIntS.l0.eq_2 ..) (evn (by omega) (evs ?_))
    simp [List.take_of_length_le (show x0.length ≤ i by omega)]
  | succ d ih =>
    intro x0 m i hi hx h0 hm
    refine Ev.step (fun k => laws_markIntS.l0.eq_2 ..) (evp (by omega) (evp (by omega) ?_))
    rw [w64s i (by omega), w64 (x := m + 1) (by omega) (by omega)]
    refine evr (ih _ _ (i + 1) (by simp; omega) (by simpa using hx) (by omega) (by omega)) ?_
    rw [Int.toNat_natCast, set_take _ _ _ (by omega), List.append_assoc, List.range_succ_eq_map]
    simp only [List.map_cons, List.map_map, Prod.mk.injEq]
    refine ⟨by push_cast; omega, ?_⟩
    congr 1
    simp only [List.cons_append, List.nil_append, List.cons.injEq]
    refine ⟨by simp, List.map_congr_left fun j _ => by simp; omega⟩
theorem markIntS (l : List Int) (m : Int) (h0 : 0 ≤ m) (h : m + l.length < 4611686018427387904) : Ev (fun k => laws_markIntS.f k l m) (m + l.length, marks l m) := by
  unfold laws_markIntS.f
  exact evr (markIntS_l0 l.length l m 0 (by omega) (by omega) h0 h) (by simp [marks])

/-! ### laws_heldIntS -/
theorem heldIntS_l0 (l : List Int) (m : Int) (h0 : 0 ≤ m) (hm : m + l.length < 4611686018427387904) (hv : ∀ i, i < l.length → l.getD i 0 = m + i) : ∀ (d i : Nat), i + d = l.length →
    Ev (fun k => laws_heldIntS.l0 k l (m + (i : Int)) (i : Int)) (m + l.length) := by
  intro d
  induction d with
  | zero =>
    intro i hi
    refine Ev.step (fun k => laws_heldIntS.l0.eq_2 ..) (evn (by omega) (evs ?_))
    omega
  | succ d ih =>
    intro i hi
    refine Ev.step (fun k => laws_heldIntS.l0.eq_2 ..) (evp (by omega) (evp (by omega) ?_))
    rw [w64s i (by omega), w64 (x := m + i + 1) (by omega) (by omega), rd_nat]
    refine evp (hv i (by omega)) ?_
    have := ih (i + 1) (by omega)
    rw [show m + ((i + 1 : Nat) : Int) = m + i + 1 by omega] at this
    exact this
theorem heldIntS (l : List Int) (m : Int) (h0 : 0 ≤ m) (hm : m + l.length < 4611686018427387904) : Ev (fun k => laws_heldIntS.f k (marks l m) m) (m + l.length) := by
  unfold laws_heldIntS.f
  have h := heldIntS_l0 (marks l m) m h0 (by rw [marks_length]; exact hm) (fun i hi => marks_at l m i (by rwa [marks_length] at hi)) l.length 0 (by rw [marks_length]; omega)
  rw [marks_length] at h
  simpa using h

/-! ### spec_l1In -/
theorem l1In (a b c : Int) : spec_l1In.f a b c = some (decide (b ≤ a ∧ a ≤ c)) := by
  unfold spec_l1In.f; split <;> simp_all <;> omega

/-! ### impl_within -/
theorem within (a b c : Int) : impl_within.f a b c = some (decide (b ≤ a ∧ a ≤ c)) := by
  unfold impl_within.f; split <;> simp_all <;> omega

/-! ### impl_allWithin -/
theorem allWithin_l0 (lo up : Int) (l : List Int) (hx : l.length < 4611686018427387904) : ∀ (d i : Nat), i + d = l.length →
    Ev (fun k => impl_allWithin.l0 k lo up l (l.length : Int) (i : Int)) ((l.drop i).all fun x => decide (lo ≤ x ∧ x ≤ up)) := by
  intro d
  induction d with
  | zero =>
    intro i hi
    refine Ev.step (fun k => impl_allWithin.l0.eq_2 ..) (evn (by omega) (evs ?_))
    simp [List.drop_of_length_le (show l.length ≤ i by omega)]
  | succ d ih =>
    intro i hi
    refine Ev.step (fun k => impl_allWithin.l0.eq_2 ..) (evp (by omega) (evp (by omega) (evp (by omega) ?_)))
    rw [w64s i (by omega), rd_nat, within, List.drop_eq_getElem_cons (show i < l.length by omega)]
    simp only [List.getD_eq_getElem?_getD, List.getElem?_eq_getElem (show i < l.length by omega), Option.getD_some, Option.bind_some, List.all_cons]
    by_cases e : lo ≤ l[i] ∧ l[i] ≤ up
    · refine evp (by simpa using e) (evr (ih (i + 1) (by omega)) (by simp [e]))
    · refine evn (by simpa using e) (evs (by simp [e]))
theorem allWithin (l : List Int) (lo up : Int) (hx : l.length < 4611686018427387904) : Ev (fun k => impl_allWithin.f k l lo up) (l.all fun x => decide (lo ≤ x ∧ x ≤ up)) := by
  unfold impl_allWithin.f
  exact allWithin_l0 lo up l hx l.length 0 (by omega)

/-! ### laws_szIntS -/
theorem szIntS (l : List Int) (m : Int) (h0 : 0 ≤ m) (hm : m ≤ 1048576) (hl : l.length ≤ maxLen) : laws_szIntS.f l m = some (if (l.length : Int) ≤ m then m - l.length else -1) := by
  unfold maxLen at hl
  unfold laws_szIntS.f
  rw [w64 (x := m - (l.length : Int)) (by omega) (by omega)]
  by_cases h : (l.length : Int) ≤ m
  · rw [if_neg (by omega), if_pos h]
  · rw [if_pos (by omega), if_neg h]

/-! ### laws_szPlane laws_szIntS -/
theorem szPlane (l : List Int) (q m : Int) (h0 : 0 ≤ m) (hm : m ≤ 1048576) (hl : l.length ≤ maxLen) : laws_szPlane.f l q m = some (if (l.length : Int) ≤ m then m - l.length else -1) := by
  unfold laws_szPlane.f
  rw [szIntS l m h0 hm hl]
  simp only [Option.bind_some]
  by_cases h : (l.length : Int) ≤ m
  · rw [if_pos h, if_neg (by omega)]
  · rw [if_neg h, if_pos (by omega)]

/-! ### laws_toPlane laws_toIntS -/
theorem toPlane (l : List Int) (q : Int) (h : l.length ≤ 35184372088832) : Ev (fun k => laws_toPlane.f k l q) (l, q) := by
  unfold laws_toPlane.f
  exact evb (toIntS l h) (evs rfl)

/-! ### laws_eqPlane laws_eqIntS -/
theorem eqPlane (l : List Int) (q : Int) (l' : List Int) (q' : Int) (h : l.length < 4611686018427387904) : Ev (fun k => laws_eqPlane.f k l q l' q') (decide (l = l') && decide (q = q')) := by
  unfold laws_eqPlane.f
  refine evb (eqIntS l l' h) ?_
  by_cases e : l = l'
  · refine evp (by simpa using e) ?_
    by_cases e' : q = q'
    · exact evp e' (evs (by simp [e, e']))
    · exact evn e' (evs (by simp [e, e']))
  · exact evn (by simpa using e) (evs (by simp [e]))

/-! ### laws_markPlane laws_markIntS -/
theorem markPlane (l : List Int) (q m : Int) (h0 : 0 ≤ m) (h : m + l.length < 4611686018427387904) : Ev (fun k => laws_markPlane.f k l q m) (m + l.length, marks l m) := by
  unfold laws_markPlane.f
  exact evb (markIntS l m h0 h) (evs rfl)

/-! ### laws_szIntSS laws_szIntS -/
theorem rdL_nat (l : List (List Int)) (i : Nat) : rd_L1 l (i : Int) = rdl l i := by simp [rd_L1, rdl]
theorem szIntSS_l0 (l : List (List Int)) (hl : l.length ≤ 1048576) (hr : ∀ r ∈ l, r.length ≤ maxLen) : ∀ (d i : Nat) (m : Int), i + d = l.length → 0 ≤ m → m ≤ 1048576 →
    Ev (fun k => laws_szIntSS.l0 k l m (i : Int)) (rowsz (l.drop i) m) := by
  intro d
  induction d with
  | zero =>
    intro i m hi h0 hm
    exact Ev.step (fun k => laws_szIntSS.l0.eq_2 ..) (evn (by omega) (evs (by rw [List.drop_of_length_le (show l.length ≤ i by omega)]; rfl)))
  | succ d ih =>
    intro i m hi h0 hm
    refine Ev.step (fun k => laws_szIntSS.l0.eq_2 ..) (evp (by omega) (evp (by omega) ?_))
    rw [rdL_nat, szIntS _ m h0 hm (hr _ (rdl_mem l i (by omega))), w64s i (by omega), rdl_drop l i (by omega)]
    simp only [Option.bind_some, rowsz]
    by_cases e : ((rdl l i).length : Int) ≤ m
    · rw [if_pos e, if_pos e]
      exact evn (by omega) (ih (i + 1) _ (by omega) (by omega) (by omega))
    · rw [if_neg e, if_neg e]
      exact evp (by omega) (evs rfl)
theorem szIntSS (l : List (List Int)) (m : Int) (h0 : 0 ≤ m) (hm : m ≤ 1048576) (hl : l.length ≤ maxLen) (hr : ∀ r ∈ l, r.length ≤ maxLen) : Ev (fun k => laws_szIntSS.f k l m) (szv l m) := by
  unfold maxLen at hl
  unfold laws_szIntSS.f szv
  rw [w64 (x := m - (l.length : Int)) (by omega) (by omega)]
  by_cases e : (l.length : Int) ≤ m
  · rw [if_pos e]
    exact evn (by omega) (evr (szIntSS_l0 l (by omega) hr l.length 0 _ (by omega) (by omega) (by omega)) (by simp))
  · rw [if_neg e]; exact evp (by omega) (evs rfl)

/-! ### laws_toIntSS laws_toIntS laws_szIntSS -/
theorem toIntSS_l0 (x0 : List (List Int)) (hx : x0.length ≤ 1048576) (hr : ∀ r ∈ x0, (r.length : Int) ≤ 1048576) : ∀ (d i : Nat) (x3 : List (List Int)), i + d = x0.length → x3.length = x0.length →
    Ev (fun k => laws_toIntSS.l0 k x0 x3 (i : Int)) (x3.take i ++ x0.drop i) := by
  intro d
  induction d with
  | zero =>
    intro i x3 hi hl
    refine Ev.step (fun k => laws_toIntSS.l0.eq_2 ..) (evn (by omega) (evs ?_))
    simp [List.take_of_length_le (show x3.length ≤ i by omega), List.drop_of_length_le (show x0.length ≤ i by omega)]
  | succ d ih =>
    intro i x3 hi hl
    have := hr _ (rdl_mem x0 i (by omega))
    refine Ev.step (fun k => laws_toIntSS.l0.eq_2 ..) (evp (by omega) (evp (by omega) ?_))
    rw [w64s i (by omega), rdL_nat]
    refine evb (toIntS _ (by omega)) (evp (by omega) ?_)
    refine evr (ih (i + 1) _ (by omega) (by simpa using hl)) ?_
    rw [Int.toNat_natCast, setl_take _ _ _ (by omega), rdl_drop x0 i (by omega), List.append_assoc]; rfl
theorem toIntSS (l : List (List Int)) (h : l.length ≤ 1048576) (hr : ∀ r ∈ l, (r.length : Int) ≤ 1048576) : Ev (fun k => laws_toIntSS.f k l) l := by
  unfold laws_toIntSS.f
  refine evp (by omega) (evp (by omega) ?_)
  refine evr (toIntSS_l0 l (by omega) hr l.length 0 _ (by omega) (by simp)) (by simp)

/-! ### laws_eqIntSS laws_eqIntS laws_szIntSS -/
theorem eqIntSS_l0 (a b : List (List Int)) (hl : a.length = b.length) (hx : a.length ≤ 1048576) (hr : ∀ r ∈ a, (r.length : Int) ≤ 1048576) : ∀ (d i : Nat), i + d = a.length →
    Ev (fun k => laws_eqIntSS.l0 k a b (i : Int)) (decide (a.drop i = b.drop i)) := by
  intro d
  induction d with
  | zero =>
    intro i hi
    refine Ev.step (fun k => laws_eqIntSS.l0.eq_2 ..) (evn (by omega) (evs ?_))
    simp [List.drop_of_length_le (show a.length ≤ i by omega), List.drop_of_length_le (show b.length ≤ i by omega)]
  | succ d ih =>
    intro i hi
    have := hr _ (rdl_mem a i (by omega))
    refine Ev.step (fun k => laws_eqIntSS.l0.eq_2 ..) (evp (by omega) (evp (by omega) (evp (by omega) ?_)))
    rw [w64s i (by omega), rdL_nat, rdL_nat]
    refine evb (eqIntS _ _ (by omega)) ?_
    rw [rdl_drop a i (by omega), rdl_drop b i (by omega)]
    by_cases e : rdl a i = rdl b i
    · refine evp (by simpa using e) (evr (ih (i + 1) (by omega)) ?_)
      rw [e]; simp only [List.cons.injEq, true_and]
    · refine evn (by simpa using e) (evs ?_)
      simp only [List.cons.injEq, e, false_and, decide_false]
theorem eqIntSS (a b : List (List Int)) (hx : a.length ≤ 1048576) (hr : ∀ r ∈ a, (r.length : Int) ≤ 1048576) : Ev (fun k => laws_eqIntSS.f k a b) (decide (a = b)) := by
  unfold laws_eqIntSS.f
  by_cases h : a.length = b.length
  · refine evp (by omega) (evr (eqIntSS_l0 a b h hx hr a.length 0 (by omega)) (by simp))
  · refine evn (by omega) (evs ?_)
    have : a ≠ b := fun e => h (by rw [e])
    simp [this]

/-! ### spec_l2Labels -/
theorem l2Labels_l0 (l : List Int) (hx : l.length < 4611686018427387904) : ∀ (d i : Nat), i + d = l.length →
    Ev (fun k => spec_l2Labels.l0 k l (i : Int)) (labB (l.drop i)) := by
  intro d
  induction d with
  | zero =>
    intro i hi
    exact Ev.step (fun k => spec_l2Labels.l0.eq_2 ..) (evn (by omega) (evs (by rw [List.drop_of_length_le (show l.length ≤ i by omega)]; rfl)))
  | succ d ih =>
    intro i hi
    refine Ev.step (fun k => spec_l2Labels.l0.eq_2 ..) (evp (by omega) (evp (by omega) ?_))
    rw [w64s i (by omega), rd_nat, List.drop_eq_getElem_cons (show i < l.length by omega)]
    simp only [List.getD_eq_getElem?_getD, List.getElem?_eq_getElem (show i < l.length by omega), Option.getD_some, labB, List.all_cons]
    by_cases e : l[i] = 1
    · exact evp e (evr (ih (i + 1) (by omega)) (by rw [decide_eq_true (.inl e)]; rfl))
    · refine evn e ?_
      by_cases e' : l[i] = -1
      · exact evp e' (evr (ih (i + 1) (by omega)) (by rw [decide_eq_true (.inr e')]; rfl))
      · exact evn e' (evs (by rw [decide_eq_false (fun h => h.elim e e')]; rfl))
theorem l2Labels (l : List Int) (hx : l.length < 4611686018427387904) : Ev (fun k => spec_l2Labels.f k l) (labB l) := by
  unfold spec_l2Labels.f
  exact l2Labels_l0 l hx l.length 0 (by omega)

/-! ### impl_isLabel -/
theorem isLabel (x : Int) : impl_isLabel.f x = some (decide (x = 1 ∨ x = -1)) := by
  unfold impl_isLabel.f
  by_cases e : x = 1
  · rw [if_pos e, decide_eq_true (.inl e)]
  · rw [if_neg e]; congr 1; rw [Bool.eq_iff_iff]; simp [e]

/-! ### spec_l2Dot -/
theorem l2Dot_l0 (a b : List Int) (M : Int) (hM : 0 ≤ M ∧ M ≤ 1000000000000) (hab : ∀ i, -M ≤ a.getD i 0 * b.getD i 0 ∧ a.getD i 0 * b.getD i 0 ≤ M) (hl : a.length ≤ 1000) (hb : a.length ≤ b.length) : ∀ (d i : Nat) (s : Int), i + d = a.length → -(M * i) ≤ s → s ≤ M * i →
    Ev (fun k => spec_l2Dot.l0 k a b s (i : Int)) (s + dot (a.drop i) (b.drop i)) := by
  intro d
  induction d with
  | zero =>
    intro i s hi h0 hs
    exact Ev.step (fun k => spec_l2Dot.l0.eq_2 ..) (evn (by omega) (evs (by rw [List.drop_of_length_le (show a.length ≤ i by omega)]; simp [dot])))
  | succ d ih =>
    intro i s hi h0 hs
    have hm := hab i
    have hMi : M * (i : Int) ≤ 1000000000000 * 1000 := Int.mul_le_mul hM.2 (by omega) (by omega) (by omega)
    have hMs : M * ((i + 1 : Nat) : Int) = M * i + M := by rw [show ((i + 1 : Nat) : Int) = (i : Int) + 1 by omega, Int.mul_add]; omega
    refine Ev.step (fun k => spec_l2Dot.l0.eq_2 ..) (evp (by omega) (evp (by omega) (evp (by omega) ?_)))
    rw [rd_nat, rd_nat, w64s i (by omega), w64 (x := a.getD i 0 * b.getD i 0) (by omega) (by omega), w64 (x := s + a.getD i 0 * b.getD i 0) (by omega) (by omega)]
    refine evr (ih (i + 1) _ (by omega) (by omega) (by omega)) ?_
    rw [List.drop_eq_getElem_cons (show i < a.length by omega), List.drop_eq_getElem_cons (show i < b.length by omega)]
    simp only [List.getD_eq_getElem?_getD, List.getElem?_eq_getElem (show i < a.length by omega), List.getElem?_eq_getElem (show i < b.length by omega), Option.getD_some, dot]; omega
theorem getD_in {l : List Int} {A : Int} (hA : 0 ≤ A) (h : ∀ x ∈ l, -A ≤ x ∧ x ≤ A) (i : Nat) : -A ≤ l.getD i 0 ∧ l.getD i 0 ≤ A := by
  by_cases hi : i < l.length
  · rw [List.getD_eq_getElem?_getD, List.getElem?_eq_getElem hi]; exact h _ (List.getElem_mem hi)
  · rw [List.getD_eq_getElem?_getD, List.getElem?_eq_none (by omega)]; simp; omega
theorem l2Dot (a b : List Int) (A B : Int) (hA : 0 ≤ A ∧ A ≤ 1000000) (hB : 0 ≤ B ∧ B ≤ 1000000) (ha : ∀ x ∈ a, -A ≤ x ∧ x ≤ A) (hb : ∀ x ∈ b, -B ≤ x ∧ x ≤ B) (hl : a.length ≤ 1000) (hab : a.length ≤ b.length) : Ev (fun k => spec_l2Dot.f k a b) (dot a b) := by
  unfold spec_l2Dot.f
  have hM : A * B ≤ 1000000 * 1000000 := Int.mul_le_mul hA.2 hB.2 hB.1 (by omega)
  have hM0 := Int.mul_nonneg hA.1 hB.1
  exact evr (l2Dot_l0 a b (A * B) ⟨hM0, by omega⟩ (fun i => mul_bd (getD_in hA.1 ha i) (getD_in hB.1 hb i)) hl hab a.length 0 0 (by omega) (by simp) (by simp)) (by simp)

/-! ### impl_product -/
theorem product_l0 (a b : List Int) (M : Int) (hM : 0 ≤ M ∧ M ≤ 1000000000000) (hab : ∀ i, -M ≤ a.getD i 0 * b.getD i 0 ∧ a.getD i 0 * b.getD i 0 ≤ M) (hl : a.length ≤ 1000) (hb : a.length ≤ b.length) : ∀ (d i : Nat) (s : Int), i + d = a.length → -(M * i) ≤ s → s ≤ M * i →
    Ev (fun k => impl_product.l0 k b s a (a.length : Int) (i : Int)) (s + dot (a.drop i) (b.drop i)) := by
  intro d
  induction d with
  | zero =>
    intro i s hi h0 hs
    exact Ev.step (fun k => impl_product.l0.eq_2 ..) (evn (by omega) (evs (by rw [List.drop_of_length_le (show a.length ≤ i by omega)]; simp [dot])))
  | succ d ih =>
    intro i s hi h0 hs
    have hm := hab i
    have hMi : M * (i : Int) ≤ 1000000000000 * 1000 := Int.mul_le_mul hM.2 (by omega) (by omega) (by omega)
    have hMs : M * ((i + 1 : Nat) : Int) = M * i + M := by rw [show ((i + 1 : Nat) : Int) = (i : Int) + 1 by omega, Int.mul_add]; omega
    refine Ev.step (fun k => impl_product.l0.eq_2 ..) (evp (by omega) (evp (by omega) (evp (by omega) (evp (by omega) ?_))))
    rw [rd_nat, rd_nat, w64s i (by omega), w64 (x := a.getD i 0 * b.getD i 0) (by omega) (by omega), w64 (x := s + a.getD i 0 * b.getD i 0) (by omega) (by omega)]
    refine evr (ih (i + 1) _ (by omega) (by omega) (by omega)) ?_
    rw [List.drop_eq_getElem_cons (show i < a.length by omega), List.drop_eq_getElem_cons (show i < b.length by omega)]
    simp only [List.getD_eq_getElem?_getD, List.getElem?_eq_getElem (show i < a.length by omega), List.getElem?_eq_getElem (show i < b.length by omega), Option.getD_some, dot]; omega
theorem getD_in' {l : List Int} {A : Int} (hA : 0 ≤ A) (h : ∀ x ∈ l, -A ≤ x ∧ x ≤ A) (i : Nat) : -A ≤ l.getD i 0 ∧ l.getD i 0 ≤ A := by
  by_cases hi : i < l.length
  · rw [List.getD_eq_getElem?_getD, List.getElem?_eq_getElem hi]; exact h _ (List.getElem_mem hi)
  · rw [List.getD_eq_getElem?_getD, List.getElem?_eq_none (by omega)]; simp; omega
theorem product (a b : List Int) (A B : Int) (hA : 0 ≤ A ∧ A ≤ 1000000) (hB : 0 ≤ B ∧ B ≤ 1000000) (ha : ∀ x ∈ a, -A ≤ x ∧ x ≤ A) (hb : ∀ x ∈ b, -B ≤ x ∧ x ≤ B) (hl : a.length ≤ 1000) (hab : a.length ≤ b.length) : Ev (fun k => impl_product.f k a b) (dot a b) := by
  unfold impl_product.f
  have hM : A * B ≤ 1000000 * 1000000 := Int.mul_le_mul hA.2 hB.2 hB.1 (by omega)
  have hM0 := Int.mul_nonneg hA.1 hB.1
  exact evr (product_l0 a b (A * B) ⟨hM0, by omega⟩ (fun i => mul_bd (getD_in' hA.1 ha i) (getD_in' hB.1 hb i)) hl hab a.length 0 0 (by omega) (by simp) (by simp)) (by simp)

/-! ### spec_l2Side spec_l2Dot -/
theorem l2Side (a : List Int) (b : Int) (x : List Int) (A B : Int) (hA : 0 ≤ A ∧ A ≤ 1000000) (hB : 0 ≤ B ∧ B ≤ 1000000) (ha : ∀ x ∈ a, -A ≤ x ∧ x ≤ A) (hb : ∀ y ∈ x, -B ≤ y ∧ y ≤ B) (hl : a.length ≤ 1000) (hab : a.length ≤ x.length) : Ev (fun k => spec_l2Side.f k a b x) (sideV a b x) := by
  unfold spec_l2Side.f sideV
  refine evb (l2Dot a x A B hA hB ha hb hl hab) ?_
  by_cases e : dot a x ≥ b
  · exact evp e (evs (by rw [if_pos e]))
  · exact evn e (evs (by rw [if_neg e]))

/-! ### impl_Plane_side impl_product -/
theorem iSide (a : List Int) (b : Int) (x : List Int) (A B : Int) (hA : 0 ≤ A ∧ A ≤ 1000000) (hB : 0 ≤ B ∧ B ≤ 1000000) (ha : ∀ x ∈ a, -A ≤ x ∧ x ≤ A) (hb : ∀ y ∈ x, -B ≤ y ∧ y ≤ B) (hl : a.length ≤ 1000) (hab : a.length ≤ x.length) : Ev (fun k => impl_Plane_side.f k a b x) (sideV a b x) := by
  unfold impl_Plane_side.f sideV
  refine evb (product a x A B hA hB ha hb hl hab) ?_
  by_cases e : dot a x ≥ b
  · exact evp e (evs (by rw [if_pos e]))
  · exact evn e (evs (by rw [if_neg e]))

/-! ### spec_l2Numbers -/
theorem l2Numbers_l0 (l : List Int) (b : Int) (hb : 0 ≤ b ∧ b ≤ 1000000000) (hx : l.length < 4611686018427387904) : ∀ (d i : Nat), i + d = l.length →
    Ev (fun k => spec_l2Numbers.l0 k l b (i : Int)) (inB (-b) b (l.drop i)) := by
  intro d
  induction d with
  | zero =>
    intro i hi
    exact Ev.step (fun k => spec_l2Numbers.l0.eq_2 ..) (evn (by omega) (evs (by rw [List.drop_of_length_le (show l.length ≤ i by omega)]; rfl)))
  | succ d ih =>
    intro i hi
    refine Ev.step (fun k => spec_l2Numbers.l0.eq_2 ..) (evp (by omega) (evp (by omega) ?_))
    rw [w64s i (by omega), rd_nat, w64 (x := -b) (by omega) (by omega), l1In, List.drop_eq_getElem_cons (show i < l.length by omega)]
    simp only [List.getD_eq_getElem?_getD, List.getElem?_eq_getElem (show i < l.length by omega), Option.getD_some, Option.bind_some, inB, List.all_cons]
    by_cases e : -b ≤ l[i] ∧ l[i] ≤ b
    · exact evp (by simpa using e) (evr (ih (i + 1) (by omega)) (by rw [decide_eq_true e]; rfl))
    · exact evn (by simpa using e) (evs (by rw [decide_eq_false e]; rfl))
theorem l2Numbers (l : List Int) (b : Int) (hb : 0 ≤ b ∧ b ≤ 1000000000) (hx : l.length < 4611686018427387904) : Ev (fun k => spec_l2Numbers.f k l b) (inB (-b) b l) := by
  unfold spec_l2Numbers.f
  exact l2Numbers_l0 l b hb hx l.length 0 (by omega)

/-! ### spec_l2Plane -/
theorem l2Plane (l : List Int) (b : Int) (hl : l.length < 4611686018427387904) : Ev (fun k => spec_l2Plane.f k l b) (planeB l b) := by
  unfold spec_l2Plane.f planeB
  rw [l1In, l1In]; simp only [Option.bind_some]
  by_cases e : 1 ≤ l.length ∧ l.length ≤ 4
  · refine evp (by simp; omega) (evb (l2Numbers l 99 (by omega) hl) ?_)
    rw [decide_eq_true e, Bool.true_and]
    by_cases e' : inB (-99) 99 l = true
    · exact evp e' (evs (by rw [e', Bool.true_and]))
    · exact evn e' (evs (by rw [Bool.eq_false_iff.2 e']; rfl))
  · exact evn (by simp; omega) (evs (by rw [decide_eq_false e]; rfl))

/-! ### impl_IsPlane -/
theorem iIsPlane (l : List Int) (b : Int) (hl : l.length < 4611686018427387904) : Ev (fun k => impl_IsPlane.f k l b) (planeB l b) := by
  unfold impl_IsPlane.f planeB
  rw [within, within]; simp only [Option.bind_some]
  by_cases e : 1 ≤ l.length ∧ l.length ≤ 4
  · refine evp (by simp; omega) (evb (allWithin l (-99) 99 hl) ?_)
    rw [decide_eq_true e, Bool.true_and]
    by_cases e' : inB (-99) 99 l = true
    · exact evp e' (evs (by rw [e', Bool.true_and]))
    · exact evn e' (evs (by rw [Bool.eq_false_iff.2 e']; rfl))
  · exact evn (by simp; omega) (evs (by rw [decide_eq_false e]; rfl))

/-! ### laws_szSample laws_szIntSS laws_szIntS -/
def szS (p : List (List Int)) (y : List Int) (m : Int) : Int := if szv p m < 0 then -1 else if (y.length : Int) ≤ szv p m then szv p m - y.length else -1
theorem szSample (p : List (List Int)) (y : List Int) (m : Int) (h0 : 0 ≤ m) (hm : m ≤ 1048576) (hl : p.length ≤ maxLen) (hr : ∀ r ∈ p, r.length ≤ maxLen) (hy : y.length ≤ maxLen) : Ev (fun k => laws_szSample.f k p y m) (szS p y m) := by
  unfold laws_szSample.f szS
  refine evb (szIntSS p m h0 hm hl hr) ?_
  obtain ⟨h1, h2, h3⟩ := szv_ok p m h0
  by_cases e : szv p m < 0
  · exact evp e (evs (by rw [if_pos e]))
  · refine evn e ?_
    rw [if_neg e, szIntS y (szv p m) (by omega) (by omega) hy]; simp only [Option.bind_some]
    by_cases e2 : (y.length : Int) ≤ szv p m
    · rw [if_pos e2]; exact evn (by omega) (evs rfl)
    · rw [if_neg e2]; exact evp (by omega) (evs rfl)
theorem szS_ok (p : List (List Int)) (y : List Int) (m : Int) (h : 0 ≤ m) : (szS p y m = -1 ∨ 0 ≤ szS p y m) ∧ szS p y m ≤ m ∧ (0 ≤ szS p y m → ((p.length : Int) ≤ m ∧ ∀ r ∈ p, (r.length : Int) ≤ m) ∧ (y.length : Int) ≤ m) := by
  obtain ⟨h1, h2, h3⟩ := szv_ok p m h
  unfold szS
  by_cases e : szv p m < 0
  · rw [if_pos e]; exact ⟨Or.inl rfl, by omega, fun h => by omega⟩
  · rw [if_neg e]
    by_cases e2 : (y.length : Int) ≤ szv p m
    · rw [if_pos e2]; exact ⟨Or.inr (by omega), by omega, fun _ => ⟨h3 (by omega), by omega⟩⟩
    · rw [if_neg e2]; exact ⟨Or.inl rfl, by omega, fun h => by omega⟩

/-! ### laws_toSample laws_toIntSS laws_toIntS -/
theorem toSample (p : List (List Int)) (y : List Int) (h : p.length ≤ 1048576) (hr : ∀ r ∈ p, (r.length : Int) ≤ 1048576) (hy : y.length ≤ 1048576) : Ev (fun k => laws_toSample.f k p y) (p, y) := by
  unfold laws_toSample.f
  exact evb (toIntSS p h hr) (evb (toIntS y (by omega)) (evs rfl))

/-! ### laws_eqSample laws_eqIntSS laws_eqIntS -/
theorem eqSample (p : List (List Int)) (y : List Int) (p' : List (List Int)) (y' : List Int) (h : p.length ≤ 1048576) (hr : ∀ r ∈ p, (r.length : Int) ≤ 1048576) (hy : y.length ≤ 1048576) : Ev (fun k => laws_eqSample.f k p y p' y') (decide (p = p') && decide (y = y')) := by
  unfold laws_eqSample.f
  refine evb (eqIntSS p p' h hr) ?_
  by_cases e : p = p'
  · refine evp (by simpa using e) (evb (eqIntS y y' (by omega)) ?_)
    by_cases e2 : y = y'
    · exact evp (by simpa using e2) (evs (by simp [e, e2]))
    · exact evn (by simpa using e2) (evs (by simp [e2]))
  · exact evn (by simpa using e) (evs (by simp [e]))

/-! ### spec_l2Point spec_l2Numbers -/
theorem l2Point (r : List Int) (hr : r.length ≤ 1048576) : Ev (fun k => spec_l2Point.f k r) (pointB r) := by
  unfold spec_l2Point.f pointB
  rw [l1In]; simp only [Option.bind_some]
  by_cases e : 1 ≤ r.length ∧ r.length ≤ 4
  · refine evp (by simp; omega) (evb (l2Numbers r 9 (by omega) (by omega)) (evs ?_))
    rw [decide_eq_true e, Bool.true_and]
  · exact evn (by simp; omega) (evs (by rw [decide_eq_false e, Bool.false_and]))

/-! ### spec_l2Sample spec_l2Point spec_l2Labels -/
theorem rdL_s (l : List (List Int)) (i : Nat) : rd_L1 l (i : Int) = rdl l i := by simp [rd_L1, rdl]
theorem l2Sample_l0 (p : List (List Int)) (y : List Int) (hx : p.length ≤ 1048576) (hr : ∀ r ∈ p, (r.length : Int) ≤ 1048576) : ∀ (d i : Nat), i + d = p.length →
    Ev (fun k => spec_l2Sample.l0 k (i : Int) p y) ((List.range' i d).all (spok p)) := by
  intro d
  induction d with
  | zero =>
    intro i hi
    exact Ev.step (fun k => spec_l2Sample.l0.eq_2 ..) (evn (by omega) (evs (by simp)))
  | succ d ih =>
    intro i hi
    have hri := hr _ (rdl_mem p i (by omega))
    refine Ev.step (fun k => spec_l2Sample.l0.eq_2 ..) (evp (by omega) (evp (by omega) ?_))
    rw [rdL_s, show rd_L1 p 0 = rdl p 0 from rdL_s p 0, List.range'_succ, List.all_cons]
    refine evb (l2Point _ (by omega)) ?_
    by_cases e1 : pointB (rdl p i) = true
    · refine evp e1 (evp (by omega) ?_)
      by_cases e2 : (rdl p i).length = (rdl p 0).length
      · refine evp (by omega) ?_
        rw [w64s i (by omega)]
        refine evr (ih (i + 1) (by omega)) ?_
        rw [show spok p i = true by unfold spok; rw [e1, decide_eq_true e2]; rfl]; rfl
      · refine evn (by omega) (evs ?_)
        rw [show spok p i = false by unfold spok; rw [decide_eq_false e2, Bool.and_false]]; rfl
    · refine evn e1 (evs ?_)
      rw [show spok p i = false by unfold spok; rw [Bool.eq_false_iff.2 e1]; rfl]; rfl
theorem l2Sample (p : List (List Int)) (y : List Int) (hx : p.length ≤ 1048576) (hr : ∀ r ∈ p, (r.length : Int) ≤ 1048576) (hy : y.length ≤ 1048576) : Ev (fun k => spec_l2Sample.f k p y) (sampB p y) := by
  unfold spec_l2Sample.f sampB
  have no : ∀ b, b = false → Ev (fun k => spec_l2Sample.j0 k true p y) b := fun b e => Ev.step (fun k => spec_l2Sample.j0.eq_2 ..) (evp rfl (evs e.symm))
  by_cases e1 : p.length ≤ 16
  · refine evn (by omega) ?_
    by_cases e2 : y.length = p.length
    · refine evp (by omega) (evb (l2Labels y (by omega)) ?_)
      by_cases e3 : labB y = true
      · refine Ev.step (fun k => spec_l2Sample.j0.eq_2 ..) (evn (by simp [e3]) (evr (l2Sample_l0 p y hx hr p.length 0 (by omega)) ?_))
        rw [decide_eq_true e1, decide_eq_true e2, e3, List.range_eq_range']; rfl
      · rw [Bool.eq_false_iff.2 e3]
        exact no _ (by simp)
    · exact evn (by omega) (no _ (by simp [e2]))
  · exact evp (by omega) (no _ (by simp [e1]))

/-! ### impl_IsPoint impl_allWithin -/
theorem iIsPoint (r : List Int) (hr : r.length ≤ 1048576) : Ev (fun k => impl_IsPoint.f k r) (pointB r) := by
  unfold impl_IsPoint.f pointB
  rw [within]; simp only [Option.bind_some]
  by_cases e : 1 ≤ r.length ∧ r.length ≤ 4
  · refine evp (by simp; omega) (evb (allWithin r (-9) 9 (by omega)) (evs ?_))
    rw [decide_eq_true e, Bool.true_and]; rfl
  · exact evn (by simp; omega) (evs (by rw [decide_eq_false e, Bool.false_and]))

/-! ### impl_IsSample impl_IsPoint impl_isLabel -/
theorem rdL_i (l : List (List Int)) (i : Nat) : rd_L1 l (i : Int) = rdl l i := by simp [rd_L1, rdl]
theorem iIsSample_l0 (p : List (List Int)) (y : List Int) (hx : p.length ≤ 1048576) (hr : ∀ r ∈ p, (r.length : Int) ≤ 1048576) (hy : y.length = p.length) : ∀ (d i : Nat), i + d = p.length →
    Ev (fun k => impl_IsSample.l0 k p (p.length : Int) (i : Int) p y) ((List.range' i d).all fun i => spok p i && lab1 (y.getD i 0)) := by
  intro d
  induction d with
  | zero =>
    intro i hi
    exact Ev.step (fun k => impl_IsSample.l0.eq_2 ..) (evn (by omega) (evs (by simp)))
  | succ d ih =>
    intro i hi
    have hri := hr _ (rdl_mem p i (by omega))
    refine Ev.step (fun k => impl_IsSample.l0.eq_2 ..) (evp (by omega) (evp (by omega) (evp (by omega) ?_)))
    rw [rdL_i, show rd_L1 p 0 = rdl p 0 from rdL_i p 0, List.range'_succ, List.all_cons]
    refine evb (iIsPoint _ (by omega)) ?_
    by_cases e1 : pointB (rdl p i) = true
    · refine evp e1 (evp (by omega) ?_)
      by_cases e2 : (rdl p i).length = (rdl p 0).length
      · refine evp (by omega) (evp (by omega) ?_)
        rw [rd_nat, isLabel]; simp only [Option.bind_some]
        by_cases e3 : lab1 (y.getD i 0) = true
        · refine evp e3 ?_
          rw [w64s i (by omega)]
          refine evr (ih (i + 1) (by omega)) ?_
          rw [show (spok p i && lab1 (y.getD i 0)) = true by unfold spok; rw [e1, decide_eq_true e2, e3]; rfl]; rfl
        · refine evn e3 (evs ?_)
          rw [Bool.eq_false_iff.2 e3, Bool.and_false]; rfl
      · refine evn (by omega) (evs ?_)
        rw [show spok p i = false by unfold spok; rw [decide_eq_false e2, Bool.and_false]]; rfl
    · refine evn e1 (evs ?_)
      rw [show spok p i = false by unfold spok; rw [Bool.eq_false_iff.2 e1]; rfl]; rfl
theorem iIsSample (p : List (List Int)) (y : List Int) (hx : p.length ≤ 1048576) (hr : ∀ r ∈ p, (r.length : Int) ≤ 1048576) : Ev (fun k => impl_IsSample.f k p y) (sampB p y) := by
  unfold impl_IsSample.f sampB
  have no : ∀ b, b = false → Ev (fun k => impl_IsSample.j0 k true p y) b := fun b e => Ev.step (fun k => impl_IsSample.j0.eq_2 ..) (evp rfl (evs e.symm))
  by_cases e1 : p.length ≤ 16
  · refine evn (by omega) ?_
    by_cases e2 : y.length = p.length
    · refine Ev.step (fun k => impl_IsSample.j0.eq_2 ..) (evn (by simp [e2]) (evr (iIsSample_l0 p y hx hr e2 p.length 0 (by omega)) ?_))
      rw [decide_eq_true e1, decide_eq_true e2, ← List.range_eq_range', all_both, labB_range, e2, Bool.true_and, Bool.true_and, Bool.and_comm]
    · rw [show ((y.length : Int) != (p.length : Int)) = true by simp; omega]
      exact no _ (by simp [e2])
  · exact evp (by omega) (no _ (by simp [e1]))

/-! ### spec_l2Both spec_l2Sample spec_l2Plane -/
theorem l2Both (p : List (List Int)) (y : List Int) (l : List Int) (b : Int) (hx : p.length ≤ 1048576) (hr : ∀ r ∈ p, (r.length : Int) ≤ 1048576) (hy : y.length ≤ 1048576) (hl : l.length ≤ 1048576) : Ev (fun k => spec_l2Both.f k p y l b) (suitB p y l b) := by
  unfold spec_l2Both.f suitB
  refine evb (l2Sample p y hx hr hy) ?_
  by_cases e1 : sampB p y = true
  · refine evp e1 (evb (l2Plane l b (by omega)) ?_)
    by_cases e2 : planeB l b = true
    · refine evp e2 ?_
      rw [e1, e2, show rd_L1 p 0 = rdl p 0 from rdL_s p 0]
      by_cases e3 : p.length = 0
      · exact evp (by omega) (evs (by simp [e3]))
      · refine evn (by omega) (evp (by omega) (evs ?_))
        rw [decide_eq_false e3, Bool.true_and, Bool.true_and, Bool.false_or, Bool.eq_iff_iff]; simp; omega
    · exact evn e2 (evs (by simp [e2]))
  · exact evn e1 (evs (by simp [e1]))

/-! ### impl_suits impl_IsSample impl_IsPlane -/
theorem iSuits (p : List (List Int)) (y : List Int) (l : List Int) (b : Int) (hx : p.length ≤ 1048576) (hr : ∀ r ∈ p, (r.length : Int) ≤ 1048576) (hl : l.length ≤ 1048576) : Ev (fun k => impl_suits.f k p y l b) (suitB p y l b) := by
  unfold impl_suits.f suitB
  refine evb (iIsSample p y hx hr) ?_
  by_cases e1 : sampB p y = true
  · refine evp e1 (evb (iIsPlane l b (by omega)) ?_)
    by_cases e2 : planeB l b = true
    · refine evp e2 ?_
      rw [e1, e2, show rd_L1 p 0 = rdl p 0 from rdL_i p 0]
      by_cases e3 : p.length = 0
      · exact evp (by omega) (evs (by simp [e3]))
      · refine evn (by omega) (evp (by omega) (evs ?_))
        rw [decide_eq_false e3, Bool.true_and, Bool.true_and, Bool.false_or, Bool.eq_iff_iff]; simp; omega
    · exact evn e2 (evs (by simp [e2]))
  · exact evn e1 (evs (by simp [e1]))

/-! ### spec_l2Mistakes spec_l2Both spec_l2Side -/
theorem l2Mistakes_l0 {p : List (List Int)} {y : List Int} {l : List Int} {b : Int} (h : suitB p y l b = true) : ∀ (d i : Nat), i + d = p.length →
    Ev (fun k => spec_l2Mistakes.l0 k (errV l b p y i) (i : Int) p y l b) (errV l b p y p.length) := by
  obtain ⟨h1, h2, h3, h4⟩ := suitB_at h
  have hpl := h3.1
  intro d
  induction d with
  | zero =>
    intro i hi
    refine Ev.step (fun k => spec_l2Mistakes.l0.eq_2 ..) (evn (by omega) (evs ?_))
    rw [show i = p.length by omega]
  | succ d ih =>
    intro i hi
    have hp := h4 i (by omega)
    refine Ev.step (fun k => spec_l2Mistakes.l0.eq_2 ..) (evp (by omega) (evp (by omega) ?_))
    rw [show rd_L1 p (i : Int) = rdl p i from rdL_s p i]
    refine evb (l2Side l b (rdl p i) 99 9 (by omega) (by omega) h3.2.1 hp.2 (by omega) (by omega)) (evp (by omega) ?_)
    have hlen := errV_len l b p y i
    have hs := ih (i + 1) (by omega)
    rw [errV_succ] at hs
    rw [rd_nat, w64s i (by omega)]
    by_cases e : sideV l b (rdl p i) = y.getD i 0
    · refine evp e ?_
      rw [if_neg (by unfold errs; rw [decide_eq_false (fun h => h e)]; decide)] at hs
      exact hs
    · refine evn e (evp (by omega) ?_)
      rw [if_pos (by unfold errs; exact decide_eq_true e)] at hs
      exact hs
theorem l2Mistakes {p : List (List Int)} {y : List Int} {l : List Int} {b : Int} (h : suitB p y l b = true) : Ev (fun k => spec_l2Mistakes.f k p y l b) (errV l b p y p.length) := by
  unfold spec_l2Mistakes.f
  have := l2Mistakes_l0 h p.length 0 (by omega)
  exact this

/-! ### impl_Plane_mistakes impl_Plane_side spec_l2Mistakes -/
theorem iMistakes_l0 {p : List (List Int)} {y : List Int} {l : List Int} {b : Int} (h : suitB p y l b = true) : ∀ (d i : Nat), i + d = p.length →
    Ev (fun k => impl_Plane_mistakes.l0 k (errV l b p y i) p (p.length : Int) (i : Int) l b p y) (errV l b p y p.length) := by
  obtain ⟨h1, h2, h3, h4⟩ := suitB_at h
  have hpl := h3.1
  intro d
  induction d with
  | zero =>
    intro i hi
    refine Ev.step (fun k => impl_Plane_mistakes.l0.eq_2 ..) (evn (by omega) (evs ?_))
    rw [show i = p.length by omega]
  | succ d ih =>
    intro i hi
    have hp := h4 i (by omega)
    refine Ev.step (fun k => impl_Plane_mistakes.l0.eq_2 ..) (evp (by omega) (evp (by omega) (evp (by omega) ?_)))
    rw [show rd_L1 p (i : Int) = rdl p i from rdL_i p i]
    refine evb (iSide l b (rdl p i) 99 9 (by omega) (by omega) h3.2.1 hp.2 (by omega) (by omega)) (evp (by omega) ?_)
    have hlen := errV_len l b p y i
    have hs := ih (i + 1) (by omega)
    rw [errV_succ] at hs
    rw [rd_nat, w64s i (by omega)]
    by_cases e : sideV l b (rdl p i) = y.getD i 0
    · refine evp e ?_
      rw [if_neg (by unfold errs; rw [decide_eq_false (fun h => h e)]; decide)] at hs
      exact hs
    · refine evn e (evp (by omega) ?_)
      rw [if_pos (by unfold errs; exact decide_eq_true e)] at hs
      exact hs
theorem iMistakes {p : List (List Int)} {y : List Int} {l : List Int} {b : Int} (h : suitB p y l b = true) : Ev (fun k => impl_Plane_mistakes.f k l b p y) (errV l b p y p.length) := by
  unfold impl_Plane_mistakes.f
  have := iMistakes_l0 h p.length 0 (by omega)
  exact this

/-! ### laws_markIntSS laws_markIntS -/
theorem markRows : ∀ (l : List (List Int)) (a : Int), 0 ≤ a → (∀ r ∈ l, (r.length : Int) ≤ 1048576) → a + l.length * 1048576 < 4611686018427387904 →
    ∃ v, Ev (fun k => laws_markIntSS.g k l a) v ∧ a ≤ v ∧ v ≤ a + l.length * 1048576 := by
  intro l
  induction l with
  | nil => intro a h0 _ _; exact ⟨a, evs rfl, by omega, by simp⟩
  | cons r l ih =>
    intro a h0 hr hb
    have h1 := hr r (by simp)
    rw [List.length_cons, show ((l.length + 1 : Nat) : Int) = (l.length : Int) + 1 by omega, Int.add_mul] at hb
    obtain ⟨v, e, v0, v1⟩ := ih (a + r.length) (by omega) (fun x hx => hr x (by simp [hx])) (by omega)
    refine ⟨v, evb (markIntS r a (by omega) (by omega)) e, by omega, ?_⟩
    rw [List.length_cons, show ((l.length + 1 : Nat) : Int) = (l.length : Int) + 1 by omega, Int.add_mul]; omega
theorem markIntSS (l : List (List Int)) (a : Int) (h0 : 0 ≤ a) (ha : a ≤ 1048576) (hl : l.length ≤ 1048576) (hr : ∀ r ∈ l, (r.length : Int) ≤ 1048576) : ∃ v, Ev (fun k => laws_markIntSS.f k l a) v ∧ a ≤ v ∧ v ≤ a + 1048576 * 1048576 := by
  obtain ⟨v, e, v0, v1⟩ := markRows l a h0 hr (by omega)
  refine ⟨v, ?_, v0, by omega⟩
  unfold laws_markIntSS.f
  exact evp (by omega) e

/-! ### laws_markSample laws_markIntSS laws_markIntS -/
theorem markSample (p : List (List Int)) (y : List Int) (a : Int) (h0 : 0 ≤ a) (ha : a ≤ 1048576) (hl : p.length ≤ 1048576) (hr : ∀ r ∈ p, (r.length : Int) ≤ 1048576) (hy : y.length ≤ 1048576) : ∃ v, Ev (fun k => laws_markSample.f k p y a) v ∧ 0 ≤ v ∧ v ≤ 1100000000000 := by
  obtain ⟨v, e, v0, v1⟩ := markIntSS p a h0 ha hl hr
  refine ⟨_, evb e (evb (markIntS y v (by omega) (by omega)) (evs rfl)), ?_, ?_⟩
  · simp only; omega
  · simp only; omega

/-! ### spec_MistakesOf spec_l2Mistakes -/
def mistV (p : List (List Int)) (y : List Int) (l : List Int) (b : Int) : List Int × Bool := if suitB p y l b = true then (errV l b p y p.length, true) else ([], false)
theorem mistV_len (p : List (List Int)) (y : List Int) (l : List Int) (b : Int) : (mistV p y l b).1.length ≤ 16 := by
  unfold mistV
  split
  · rename_i e
    have := errV_len l b p y p.length
    have := (suitB_at e).1
    simp only; omega
  · simp
theorem sMist (p : List (List Int)) (y : List Int) (l : List Int) (b : Int) (hx : p.length ≤ 1048576) (hr : ∀ r ∈ p, (r.length : Int) ≤ 1048576) (hy : y.length ≤ 1048576) (hl : l.length ≤ 1048576) : Ev (fun k => spec_MistakesOf.f k p y l b) (mistV p y l b) := by
  unfold spec_MistakesOf.f mistV
  refine evb (l2Both p y l b hx hr hy hl) ?_
  by_cases e : suitB p y l b = true
  · exact evp e (evb (l2Mistakes e) (evs (by rw [if_pos e])))
  · exact evn e (evs (by rw [if_neg e]))

/-! ### impl_MistakesOf impl_Plane_mistakes spec_MistakesOf -/
theorem iMist (p : List (List Int)) (y : List Int) (l : List Int) (b : Int) (hx : p.length ≤ 1048576) (hr : ∀ r ∈ p, (r.length : Int) ≤ 1048576) (hy : y.length ≤ 1048576) (hl : l.length ≤ 1048576) : Ev (fun k => impl_MistakesOf.f k p y l b) (mistV p y l b) := by
  unfold impl_MistakesOf.f mistV
  refine evb (iSuits p y l b hx hr hl) ?_
  by_cases e : suitB p y l b = true
  · exact evp e (evb (iMistakes e) (evs (by rw [if_pos e])))
  · exact evn e (evs (by rw [if_neg e]))

/-! ### laws_FnExactMistakesOf -/
theorem law (p : List (List Int)) (y : List Int) (l : List Int) (b : Int) (hp : p.length ≤ maxLen) (hr : ∀ r ∈ p, r.length ≤ maxLen) (hy : y.length ≤ maxLen) (hl : l.length ≤ maxLen) : Ev (fun k => laws_FnExactMistakesOf.f k p y l b) true := by
  unfold laws_FnExactMistakesOf.f
  refine evb (szSample p y 1048576 (by omega) (by omega) hp hr hy) ?_
  obtain ⟨h1, h2, h3⟩ := szS_ok p y 1048576 (by omega)
  by_cases h : 0 ≤ szS p y 1048576
  · obtain ⟨⟨h4, h5⟩, h6⟩ := h3 h
    refine evn (by omega) ?_
    rw [szPlane l b _ h (by omega) hl]; simp only [Option.bind_some]
    by_cases h' : (l.length : Int) ≤ szS p y 1048576
    · rw [if_pos h']
      have hs := sMist p y l b (by omega) h5 (by omega) (by omega)
      have hi := iMist p y l b (by omega) h5 (by omega) (by omega)
      have ht := toSample p y (by omega) h5 (by omega)
      have he := eqSample p y p y (by omega) h5 (by omega)
      rw [decide_eq_true rfl, decide_eq_true rfl, Bool.and_self] at he
      obtain ⟨mv, hm, hm0, hm1⟩ := markSample p y 1 (by omega) (by omega) (by omega) h5 (by omega)
      have hb := mistV_len p y l b
      generalize mistV p y l b = R at *
      repeat (first
    | exact evs rfl
    | dsimp only
    | (with_reducible refine evb hs ?_)
    | (with_reducible refine evb hi ?_)
    | (with_reducible refine evb ht ?_)
    | (with_reducible refine evb he ?_)
    | (with_reducible refine evb hm ?_)
    | ((with_reducible refine evb (toIntS _ ?_) ?_); (focus (first | omega | assumption)))
    | ((with_reducible refine evb (eqIntS _ _ ?_) ?_); (focus (first | omega | assumption)))
    | ((with_reducible refine evb (markIntS _ _ ?_ ?_) ?_); (focus (first | omega | assumption)); (focus (first | omega | assumption)))
    | ((with_reducible refine evb (heldIntS _ _ ?_ ?_) ?_); (focus (first | omega | assumption)); (focus (first | omega | assumption)))
    | ((with_reducible refine evb (toPlane _ _ ?_) ?_); (focus (first | omega | assumption)))
    | ((with_reducible refine evb (eqPlane _ _ _ _ ?_) ?_); (focus (first | omega | assumption)))
    | ((with_reducible refine evb (markPlane _ _ _ ?_ ?_) ?_); (focus (first | omega | assumption)); (focus (first | omega | assumption)))
    | ((with_reducible refine evb (toIntSS _ ?_ ?_) ?_); (focus (first | omega | assumption)); (focus (first | omega | assumption)))
    | ((with_reducible refine evb (eqIntSS _ _ ?_ ?_) ?_); (focus (first | omega | assumption)); (focus (first | omega | assumption)))
    | (refine evp ?_ ?_; focus (first | omega | (simp; done)))
    | (refine evn ?_ ?_; focus (first | omega | (simp; done)))
    | (with_reducible refine Ev.step (fun k => laws_FnExactMistakesOf.j0.eq_2 ..) ?_)
    | (with_reducible refine Ev.step (fun k => laws_FnExactMistakesOf.j1.eq_2 ..) ?_)
    | (with_reducible refine Ev.step (fun k => laws_FnExactMistakesOf.j2.eq_2 ..) ?_)
    )
    · rw [if_neg h']; exact evp (by omega) (evs rfl)
  · exact evp (by omega) (evs rfl)

end Go.Proofs.Ytddpdeoflaigeaa.LFnExactMistakesOf
