-- Own text.
import Derived.Test.YtgidnmpppbkamaaMFnExactPlaneClassx17
import Derived.Test.YtgidnmpppbkamaaZFnExactPlaneClassBase
namespace Go.Proofs.Ytgidnmpppbkamaa.LFnExactPlaneClass
open Go Go.RowKit Go.Proofs.Ytgidnmpppbkamaa.Base Go.Proofs.Ytgidnmpppbkamaa.PFnExactPlaneClass Go.Proofs.YtgidnmpppbkamaaW.PrintWords Go.Proofs.YtgidnmpppbkamaaW.PrintLast Go.Proofs.YtgidnmpppbkamaaW.PrintMore
set_option linter.unusedVariables false
set_option linter.unusedSimpArgs false
set_option maxRecDepth 4000
theorem qP (x0 : List Int) (hx : x0.length < 4611686018427387904) : ∀ (d i : Nat) (x3 : List Int), i + d = x0.length → x3.length = x0.length →
  Ev (fun k => laws_toIntS.l0 k x0 x3 (i : Int)) (x3.take i ++ x0.drop i) := by
 intro d
 induction d with
 | zero =>
  intro i x3 hi hl
  refine Ev.step (fun k => laws_toIntS.l0.eq_2 ..) (evn (by omega) (evs ?_))
  simp [List.take_of_length_le (show x3.length ≤ i by omega), List.drop_of_length_le (show x0.length ≤ i by omega)]
 | succ d ih =>
  intro i x3 hi hl
  refine Ev.step (fun k => laws_toIntS.l0.eq_2 ..) (evp (by omega) (evp (by omega) (evp (by omega) ?_)))
  rw [w64s i (by omega), rd_nat]
  refine evr (ih (i + 1) _ (by omega) (by simpa using hl)) ?_
  rw [Int.toNat_natCast, set_take _ _ _ (by omega), List.drop_eq_getElem_cons (show i < x0.length by omega), List.append_assoc]
  simp [List.getD_eq_getElem?_getD, List.getElem?_eq_getElem (show i < x0.length by omega)]
theorem jP (l : List Int) (h : l.length ≤ 35184372088832) : Ev (fun k => laws_toIntS.f k l) l := by
 unfold laws_toIntS.f
 refine evp (by omega) (evp (by simpa using h) ?_)
 refine evr (qP l (by omega) l.length 0 _ (by omega) (by simp)) (by simp)
theorem qQ (a b : List Int) (hl : a.length = b.length) (hx : a.length < 4611686018427387904) : ∀ (d i : Nat), i + d = a.length →
  Ev (fun k => laws_eqIntS.l0 k a b (i : Int)) (decide (a.drop i = b.drop i)) := by
 intro d
 induction d with
 | zero =>
  intro i hi
  refine Ev.step (fun k => laws_eqIntS.l0.eq_2 ..) (evn (by omega) (evs ?_))
  simp [List.drop_of_length_le (show a.length ≤ i by omega), List.drop_of_length_le (show b.length ≤ i by omega)]
 | succ d ih =>
  intro i hi
  refine Ev.step (fun k => laws_eqIntS.l0.eq_2 ..) (evp (by omega) (evp (by omega) (evp (by omega) ?_)))
  rw [w64s i (by omega), rd_nat, rd_nat]
  have ea := List.drop_eq_getElem_cons (show i < a.length by omega)
  have eb := List.drop_eq_getElem_cons (show i < b.length by omega)
  simp only [List.getD_eq_getElem?_getD, List.getElem?_eq_getElem (show i < a.length by omega), List.getElem?_eq_getElem (show i < b.length by omega), Option.getD_some]
  by_cases e : a[i] = b[i]
  ·
   refine evp e (evr (ih (i + 1) (by omega)) ?_)
   rw [ea, eb, e]; simp only [List.cons.injEq, true_and]
  ·
   refine evn e (evs ?_)
   rw [ea, eb]; simp only [List.cons.injEq, e, false_and, decide_false]
theorem jQ (a b : List Int) (hx : a.length < 4611686018427387904) : Ev (fun k => laws_eqIntS.f k a b) (decide (a = b)) := by
 unfold laws_eqIntS.f
 by_cases h : a.length = b.length
 ·
  refine evp (by omega) (evr (qQ a b h hx a.length 0 (by omega)) (by simp))
 ·
  refine evn (by omega) (evs ?_)
  have : a ≠ b := fun e => h (by rw [e])
  simp [this]
theorem ql (d : Nat) : ∀ (x0 : List Int) (m : Int) (i : Nat), i + d = x0.length → x0.length < 4611686018427387904 → 0 ≤ m → m + d < 4611686018427387904 →
  Ev (fun k => laws_markIntS.l0 k x0 m (i : Int)) (m + d, x0.take i ++ (List.range d).map fun j : Nat => m + (j : Int)) := by
 induction d with
 | zero =>
  intro x0 m i hi hx h0 hm
  refine Ev.step (fun k => laws_markIntS.l0.eq_2 ..) (evn (by omega) (evs ?_))
  simp [List.take_of_length_le (show x0.length ≤ i by omega)]
 | succ d ih =>
  intro x0 m i hi hx h0 hm
  refine Ev.step (fun k => laws_markIntS.l0.eq_2 ..) (evp (by omega) (evp (by omega) ?_))
  rw [w64s i (by omega), w64 (x := m + 1) (by omega) (by omega)]
  refine evr (ih _ _ (i + 1) (by simp; omega) (by simpa using hx) (by omega) (by omega)) ?_
  rw [Int.toNat_natCast, set_take _ _ _ (by omega), List.append_assoc, List.range_succ_eq_map]
  simp only [List.map_cons, List.map_map, Prod.mk.injEq]
  refine ⟨by push_cast; omega, ?_⟩
  congr 1
  simp only [List.cons_append, List.nil_append, List.cons.injEq]
  refine ⟨by simp, List.map_congr_left fun j _ => by simp; omega⟩
theorem jf (l : List Int) (m : Int) (h0 : 0 ≤ m) (h : m + l.length < 4611686018427387904) : Ev (fun k => laws_markIntS.f k l m) (m + l.length, marks l m) := by
 unfold laws_markIntS.f
 exact evr (ql l.length l m 0 (by omega) (by omega) h0 h) (by simp [marks])
theorem qm (l : List Int) (m : Int) (h0 : 0 ≤ m) (hm : m + l.length < 4611686018427387904) (hv : ∀ i, i < l.length → l.getD i 0 = m + i) : ∀ (d i : Nat), i + d = l.length →
  Ev (fun k => laws_heldIntS.l0 k l (m + (i : Int)) (i : Int)) (m + l.length) := by
 intro d
 induction d with
 | zero =>
  intro i hi
  refine Ev.step (fun k => laws_heldIntS.l0.eq_2 ..) (evn (by omega) (evs ?_))
  omega
 | succ d ih =>
  intro i hi
  refine Ev.step (fun k => laws_heldIntS.l0.eq_2 ..) (evp (by omega) (evp (by omega) ?_))
  rw [w64s i (by omega), w64 (x := m + i + 1) (by omega) (by omega), rd_nat]
  refine evp (hv i (by omega)) ?_
  have := ih (i + 1) (by omega)
  rw [show m + ((i + 1 : Nat) : Int) = m + i + 1 by omega] at this
  exact this
theorem jg (l : List Int) (m : Int) (h0 : 0 ≤ m) (hm : m + l.length < 4611686018427387904) : Ev (fun k => laws_heldIntS.f k (marks l m) m) (m + l.length) := by
 unfold laws_heldIntS.f
 have h := qm (marks l m) m h0 (by rw [marks_length]; exact hm) (fun i hi => marks_at l m i (by rwa [marks_length] at hi)) l.length 0 (by rw [marks_length]; omega)
 rw [marks_length] at h
 simpa using h
theorem l1In (a b c : Int) : spec_l1In.f a b c = some (decide (b ≤ a ∧ a ≤ c)) := by
 unfold spec_l1In.f; split <;> simp_all <;> omega
theorem qR (a b c : Int) : impl_within.f a b c = some (decide (b ≤ a ∧ a ≤ c)) := by
 unfold impl_within.f; split <;> simp_all <;> omega
theorem zP (lo up : Int) (l : List Int) (hx : l.length < 4611686018427387904) : ∀ (d i : Nat), i + d = l.length →
  Ev (fun k => impl_allWithin.l0 k lo up l (l.length : Int) (i : Int)) ((l.drop i).all fun x => decide (lo ≤ x ∧ x ≤ up)) := by
 intro d
 induction d with
 | zero =>
  intro i hi
  refine Ev.step (fun k => impl_allWithin.l0.eq_2 ..) (evn (by omega) (evs ?_))
  simp [List.drop_of_length_le (show l.length ≤ i by omega)]
 | succ d ih =>
  intro i hi
  refine Ev.step (fun k => impl_allWithin.l0.eq_2 ..) (evp (by omega) (evp (by omega) (evp (by omega) ?_)))
  rw [w64s i (by omega), rd_nat, qR, List.drop_eq_getElem_cons (show i < l.length by omega)]
  simp only [List.getD_eq_getElem?_getD, List.getElem?_eq_getElem (show i < l.length by omega), Option.getD_some, Option.bind_some, List.all_cons]
  by_cases e : lo ≤ l[i] ∧ l[i] ≤ up
  ·
   refine evp (by simpa using e) (evr (ih (i + 1) (by omega)) (by simp [e]))
  ·
   refine evn (by simpa using e) (evs (by simp [e]))
theorem qS (l : List Int) (lo up : Int) (hx : l.length < 4611686018427387904) : Ev (fun k => impl_allWithin.f k l lo up) (l.all fun x => decide (lo ≤ x ∧ x ≤ up)) := by
 unfold impl_allWithin.f
 exact zP lo up l hx l.length 0 (by omega)
theorem jR (l : List Int) (m : Int) (h0 : 0 ≤ m) (hm : m ≤ 1048576) (hl : l.length ≤ maxLen) : laws_szIntS.f l m = some (if (l.length : Int) ≤ m then m - l.length else -1) := by
 unfold maxLen at hl
 unfold laws_szIntS.f
 rw [w64 (x := m - (l.length : Int)) (by omega) (by omega)]
 by_cases h : (l.length : Int) ≤ m
 ·
  rw [if_neg (by omega), if_pos h]
 ·
  rw [if_pos (by omega), if_neg h]
theorem qt (l : List (List Int)) (i : Nat) : rd_L1 l (i : Int) = rdl l i := by simp [rd_L1, rdl]
theorem qD (l : List (List Int)) (hl : l.length ≤ 1048576) (hr : ∀ r ∈ l, r.length ≤ maxLen) : ∀ (d i : Nat) (m : Int), i + d = l.length → 0 ≤ m → m ≤ 1048576 →
  Ev (fun k => laws_szIntSS.l0 k l m (i : Int)) (rowsz (l.drop i) m) := by
 intro d
 induction d with
 | zero =>
  intro i m hi h0 hm
  exact Ev.step (fun k => laws_szIntSS.l0.eq_2 ..) (evn (by omega) (evs (by rw [List.drop_of_length_le (show l.length ≤ i by omega)]; rfl)))
 | succ d ih =>
  intro i m hi h0 hm
  refine Ev.step (fun k => laws_szIntSS.l0.eq_2 ..) (evp (by omega) (evp (by omega) ?_))
  rw [qt, jR _ m h0 hm (hr _ (rdl_mem l i (by omega))), w64s i (by omega), rdl_drop l i (by omega)]
  simp only [Option.bind_some, rowsz]
  by_cases e : ((rdl l i).length : Int) ≤ m
  ·
   rw [if_pos e, if_pos e]
   exact evn (by omega) (ih (i + 1) _ (by omega) (by omega) (by omega))
  ·
   rw [if_neg e, if_neg e]
   exact evp (by omega) (evs rfl)
theorem jA (l : List (List Int)) (m : Int) (h0 : 0 ≤ m) (hm : m ≤ 1048576) (hl : l.length ≤ maxLen) (hr : ∀ r ∈ l, r.length ≤ maxLen) : Ev (fun k => laws_szIntSS.f k l m) (szv l m) := by
 unfold maxLen at hl
 unfold laws_szIntSS.f szv
 rw [w64 (x := m - (l.length : Int)) (by omega) (by omega)]
 by_cases e : (l.length : Int) ≤ m
 ·
  rw [if_pos e]
  exact evn (by omega) (evr (qD l (by omega) hr l.length 0 _ (by omega) (by omega) (by omega)) (by simp))
 ·
  rw [if_neg e]; exact evp (by omega) (evs rfl)
theorem qE (x0 : List (List Int)) (hx : x0.length ≤ 1048576) (hr : ∀ r ∈ x0, (r.length : Int) ≤ 1048576) : ∀ (d i : Nat) (x3 : List (List Int)), i + d = x0.length → x3.length = x0.length →
  Ev (fun k => laws_toIntSS.l0 k x0 x3 (i : Int)) (x3.take i ++ x0.drop i) := by
 intro d
 induction d with
 | zero =>
  intro i x3 hi hl
  refine Ev.step (fun k => laws_toIntSS.l0.eq_2 ..) (evn (by omega) (evs ?_))
  simp [List.take_of_length_le (show x3.length ≤ i by omega), List.drop_of_length_le (show x0.length ≤ i by omega)]
 | succ d ih =>
  intro i x3 hi hl
  have := hr _ (rdl_mem x0 i (by omega))
  refine Ev.step (fun k => laws_toIntSS.l0.eq_2 ..) (evp (by omega) (evp (by omega) ?_))
  rw [w64s i (by omega), qt]
  refine evb (jP _ (by omega)) (evp (by omega) ?_)
  refine evr (ih (i + 1) _ (by omega) (by simpa using hl)) ?_
  rw [Int.toNat_natCast, setl_take _ _ _ (by omega), rdl_drop x0 i (by omega), List.append_assoc]; rfl
theorem jB (l : List (List Int)) (h : l.length ≤ 1048576) (hr : ∀ r ∈ l, (r.length : Int) ≤ 1048576) : Ev (fun k => laws_toIntSS.f k l) l := by
 unfold laws_toIntSS.f
 refine evp (by omega) (evp (by omega) ?_)
 refine evr (qE l (by omega) hr l.length 0 _ (by omega) (by simp)) (by simp)
theorem qF (a b : List (List Int)) (hl : a.length = b.length) (hx : a.length ≤ 1048576) (hr : ∀ r ∈ a, (r.length : Int) ≤ 1048576) : ∀ (d i : Nat), i + d = a.length →
  Ev (fun k => laws_eqIntSS.l0 k a b (i : Int)) (decide (a.drop i = b.drop i)) := by
 intro d
 induction d with
 | zero =>
  intro i hi
  refine Ev.step (fun k => laws_eqIntSS.l0.eq_2 ..) (evn (by omega) (evs ?_))
  simp [List.drop_of_length_le (show a.length ≤ i by omega), List.drop_of_length_le (show b.length ≤ i by omega)]
 | succ d ih =>
  intro i hi
  have := hr _ (rdl_mem a i (by omega))
  refine Ev.step (fun k => laws_eqIntSS.l0.eq_2 ..) (evp (by omega) (evp (by omega) (evp (by omega) ?_)))
  rw [w64s i (by omega), show rd_L1 a (i : Int) = rdl a i by simp [rd_L1, rdl], show rd_L1 b (i : Int) = rdl b i by simp [rd_L1, rdl]]
  refine evb (jQ _ _ (by omega)) ?_
  rw [rdl_drop a i (by omega), rdl_drop b i (by omega)]
  by_cases e : rdl a i = rdl b i
  ·
   refine evp (by simpa using e) (evr (ih (i + 1) (by omega)) ?_)
   rw [e]; simp only [List.cons.injEq, true_and]
  ·
   refine evn (by simpa using e) (evs ?_)
   simp only [List.cons.injEq, e, false_and, decide_false]
theorem qu (a b : List (List Int)) (hx : a.length ≤ 1048576) (hr : ∀ r ∈ a, (r.length : Int) ≤ 1048576) : Ev (fun k => laws_eqIntSS.f k a b) (decide (a = b)) := by
 unfold laws_eqIntSS.f
 by_cases h : a.length = b.length
 ·
  refine evp (by omega) (evr (qF a b h hx hr a.length 0 (by omega)) (by simp))
 ·
  refine evn (by omega) (evs ?_)
  have : a ≠ b := fun e => h (by rw [e])
  simp [this]
theorem qo (l : List Int) (hx : l.length < 4611686018427387904) : ∀ (d i : Nat), i + d = l.length →
  Ev (fun k => spec_l2Labels.l0 k l (i : Int)) (labB (l.drop i)) := by
 intro d
 induction d with
 | zero =>
  intro i hi
  exact Ev.step (fun k => spec_l2Labels.l0.eq_2 ..) (evn (by omega) (evs (by rw [List.drop_of_length_le (show l.length ≤ i by omega)]; rfl)))
 | succ d ih =>
  intro i hi
  refine Ev.step (fun k => spec_l2Labels.l0.eq_2 ..) (evp (by omega) (evp (by omega) ?_))
  rw [w64s i (by omega), rd_nat, List.drop_eq_getElem_cons (show i < l.length by omega)]
  simp only [List.getD_eq_getElem?_getD, List.getElem?_eq_getElem (show i < l.length by omega), Option.getD_some, labB, List.all_cons]
  by_cases e : l[i] = 1
  ·
   exact evp e (evr (ih (i + 1) (by omega)) (by rw [decide_eq_true (.inl e)]; rfl))
  ·
   refine evn e ?_
   by_cases e' : l[i] = -1
   ·
    exact evp e' (evr (ih (i + 1) (by omega)) (by rw [decide_eq_true (.inr e')]; rfl))
   ·
    exact evn e' (evs (by rw [decide_eq_false (fun h => h.elim e e')]; rfl))
theorem jh (l : List Int) (hx : l.length < 4611686018427387904) : Ev (fun k => spec_l2Labels.f k l) (labB l) := by
 unfold spec_l2Labels.f
 exact qo l hx l.length 0 (by omega)
theorem jC (x : Int) : impl_isLabel.f x = some (decide (x = 1 ∨ x = -1)) := by
 unfold impl_isLabel.f
 by_cases e : x = 1
 ·
  rw [if_pos e, decide_eq_true (.inl e)]
 ·
  rw [if_neg e]; congr 1; rw [Bool.eq_iff_iff]; simp [e]
theorem zQ (l : List Int) (b : Int) (hb : 0 ≤ b ∧ b ≤ 1000000000) (hx : l.length < 4611686018427387904) : ∀ (d i : Nat), i + d = l.length →
  Ev (fun k => spec_l2Numbers.l0 k l b (i : Int)) (inB (-b) b (l.drop i)) := by
 intro d
 induction d with
 | zero =>
  intro i hi
  exact Ev.step (fun k => spec_l2Numbers.l0.eq_2 ..) (evn (by omega) (evs (by rw [List.drop_of_length_le (show l.length ≤ i by omega)]; rfl)))
 | succ d ih =>
  intro i hi
  refine Ev.step (fun k => spec_l2Numbers.l0.eq_2 ..) (evp (by omega) (evp (by omega) ?_))
  rw [w64s i (by omega), rd_nat, w64 (x := -b) (by omega) (by omega), l1In, List.drop_eq_getElem_cons (show i < l.length by omega)]
  simp only [List.getD_eq_getElem?_getD, List.getElem?_eq_getElem (show i < l.length by omega), Option.getD_some, Option.bind_some, inB, List.all_cons]
  by_cases e : -b ≤ l[i] ∧ l[i] ≤ b
  ·
   exact evp (by simpa using e) (evr (ih (i + 1) (by omega)) (by rw [decide_eq_true e]; rfl))
  ·
   exact evn (by simpa using e) (evs (by rw [decide_eq_false e]; rfl))
theorem qT (l : List Int) (b : Int) (hb : 0 ≤ b ∧ b ≤ 1000000000) (hx : l.length < 4611686018427387904) : Ev (fun k => spec_l2Numbers.f k l b) (inB (-b) b l) := by
 unfold spec_l2Numbers.f
 exact zQ l b hb hx l.length 0 (by omega)
theorem jD (r : List Int) (hr : r.length ≤ 1048576) : Ev (fun k => spec_l2Point.f k r) (pointB r) := by
 unfold spec_l2Point.f pointB
 rw [l1In]; simp only [Option.bind_some]
 by_cases e : 1 ≤ r.length ∧ r.length ≤ 4
 ·
  refine evp (by simp; omega) (evb (qT r 9 (by omega) (by omega)) (evs ?_))
  rw [decide_eq_true e, Bool.true_and]
 ·
  exact evn (by simp; omega) (evs (by rw [decide_eq_false e, Bool.false_and]))
theorem zO (l : List (List Int)) (i : Nat) : rd_L1 l (i : Int) = rdl l i := by simp [rd_L1, rdl]
theorem qp (p : List (List Int)) (y : List Int) (hx : p.length ≤ 1048576) (hr : ∀ r ∈ p, (r.length : Int) ≤ 1048576) : ∀ (d i : Nat), i + d = p.length →
  Ev (fun k => spec_l2Sample.l0 k (i : Int) p y) ((List.range' i d).all (spok p)) := by
 intro d
 induction d with
 | zero =>
  intro i hi
  exact Ev.step (fun k => spec_l2Sample.l0.eq_2 ..) (evn (by omega) (evs (by simp)))
 | succ d ih =>
  intro i hi
  have hri := hr _ (rdl_mem p i (by omega))
  refine Ev.step (fun k => spec_l2Sample.l0.eq_2 ..) (evp (by omega) (evp (by omega) ?_))
  rw [zO, show rd_L1 p 0 = rdl p 0 from zO p 0, List.range'_succ, List.all_cons]
  refine evb (jD _ (by omega)) ?_
  by_cases e1 : pointB (rdl p i) = true
  ·
   refine evp e1 (evp (by omega) ?_)
   by_cases e2 : (rdl p i).length = (rdl p 0).length
   ·
    refine evp (by omega) ?_
    rw [w64s i (by omega)]
    refine evr (ih (i + 1) (by omega)) ?_
    rw [show spok p i = true by unfold spok; rw [e1, decide_eq_true e2]; rfl]; rfl
   ·
    refine evn (by omega) (evs ?_)
    rw [show spok p i = false by unfold spok; rw [decide_eq_false e2, Bool.and_false]]; rfl
  ·
   refine evn e1 (evs ?_)
   rw [show spok p i = false by unfold spok; rw [Bool.eq_false_iff.2 e1]; rfl]; rfl
theorem zR (p : List (List Int)) (y : List Int) (hx : p.length ≤ 1048576) (hr : ∀ r ∈ p, (r.length : Int) ≤ 1048576) (hy : y.length ≤ 1048576) : Ev (fun k => spec_l2Sample.f k p y) (sampB p y) := by
 unfold spec_l2Sample.f sampB
 have no : ∀ b, b = false → Ev (fun k => spec_l2Sample.j0 k true p y) b := fun b e => Ev.step (fun k => spec_l2Sample.j0.eq_2 ..) (evp rfl (evs e.symm))
 by_cases e1 : p.length ≤ 16
 ·
  refine evn (by omega) ?_
  by_cases e2 : y.length = p.length
  ·
   refine evp (by omega) (evb (jh y (by omega)) ?_)
   by_cases e3 : labB y = true
   ·
    refine Ev.step (fun k => spec_l2Sample.j0.eq_2 ..) (evn (by simp [e3]) (evr (qp p y hx hr p.length 0 (by omega)) ?_))
    rw [decide_eq_true e1, decide_eq_true e2, e3, List.range_eq_range']; rfl
   ·
    rw [Bool.eq_false_iff.2 e3]
    exact no _ (by simp)
  ·
   exact evn (by omega) (no _ (by simp [e2]))
 ·
  exact evp (by omega) (no _ (by simp [e1]))
theorem ji (r : List Int) (hr : r.length ≤ 1048576) : Ev (fun k => impl_IsPoint.f k r) (pointB r) := by
 unfold impl_IsPoint.f pointB
 rw [qR]; simp only [Option.bind_some]
 by_cases e : 1 ≤ r.length ∧ r.length ≤ 4
 ·
  refine evp (by simp; omega) (evb (qS r (-9) 9 (by omega)) (evs ?_))
  rw [decide_eq_true e, Bool.true_and]; rfl
 ·
  exact evn (by simp; omega) (evs (by rw [decide_eq_false e, Bool.false_and]))
theorem jv (l : List (List Int)) (i : Nat) : rd_L1 l (i : Int) = rdl l i := by simp [rd_L1, rdl]
theorem zS (p : List (List Int)) (y : List Int) (hx : p.length ≤ 1048576) (hr : ∀ r ∈ p, (r.length : Int) ≤ 1048576) (hy : y.length = p.length) : ∀ (d i : Nat), i + d = p.length →
  Ev (fun k => impl_IsSample.l0 k p (p.length : Int) (i : Int) p y) ((List.range' i d).all fun i => spok p i && lab1 (y.getD i 0)) := by
 intro d
 induction d with
 | zero =>
  intro i hi
  exact Ev.step (fun k => impl_IsSample.l0.eq_2 ..) (evn (by omega) (evs (by simp)))
 | succ d ih =>
  intro i hi
  have hri := hr _ (rdl_mem p i (by omega))
  refine Ev.step (fun k => impl_IsSample.l0.eq_2 ..) (evp (by omega) (evp (by omega) (evp (by omega) ?_)))
  rw [jv, show rd_L1 p 0 = rdl p 0 from jv p 0, List.range'_succ, List.all_cons]
  refine evb (ji _ (by omega)) ?_
  by_cases e1 : pointB (rdl p i) = true
  ·
   refine evp e1 (evp (by omega) ?_)
   by_cases e2 : (rdl p i).length = (rdl p 0).length
   ·
    refine evp (by omega) (evp (by omega) ?_)
    rw [rd_nat, jC]; simp only [Option.bind_some]
    by_cases e3 : lab1 (y.getD i 0) = true
    ·
     refine evp e3 ?_
     rw [w64s i (by omega)]
     refine evr (ih (i + 1) (by omega)) ?_
     rw [show (spok p i && lab1 (y.getD i 0)) = true by unfold spok; rw [e1, decide_eq_true e2, e3]; rfl]; rfl
    ·
     refine evn e3 (evs ?_)
     rw [Bool.eq_false_iff.2 e3, Bool.and_false]; rfl
   ·
    refine evn (by omega) (evs ?_)
    rw [show spok p i = false by unfold spok; rw [decide_eq_false e2, Bool.and_false]]; rfl
  ·
   refine evn e1 (evs ?_)
   rw [show spok p i = false by unfold spok; rw [Bool.eq_false_iff.2 e1]; rfl]; rfl
theorem qU (p : List (List Int)) (y : List Int) (hx : p.length ≤ 1048576) (hr : ∀ r ∈ p, (r.length : Int) ≤ 1048576) : Ev (fun k => impl_IsSample.f k p y) (sampB p y) := by
 unfold impl_IsSample.f sampB
 have no : ∀ b, b = false → Ev (fun k => impl_IsSample.j0 k true p y) b := fun b e => Ev.step (fun k => impl_IsSample.j0.eq_2 ..) (evp rfl (evs e.symm))
 by_cases e1 : p.length ≤ 16
 ·
  refine evn (by omega) ?_
  by_cases e2 : y.length = p.length
  ·
   refine Ev.step (fun k => impl_IsSample.j0.eq_2 ..) (evn (by simp [e2]) (evr (zS p y hx hr e2 p.length 0 (by omega)) ?_))
   rw [decide_eq_true e1, decide_eq_true e2, ← List.range_eq_range', all_both, labB_range, e2, Bool.true_and, Bool.true_and, Bool.and_comm]
  ·
   rw [show ((y.length : Int) != (p.length : Int)) = true by simp; omega]
   exact no _ (by simp [e2])
 ·
  exact evp (by omega) (no _ (by simp [e1]))
def zk : List (List Int) → Int
 | [] => 0
 | r :: l => r.length + zk l
def ze : List (List Int) → Int → List (List Int)
 | [], _ => []
 | r :: l, a => marks r a :: ze l (a + r.length)
theorem zo : ∀ l, 0 ≤ zk l
 | [] => Int.le_refl _
 | r :: l => by have := zo l; simp only [zk]; omega
theorem zG : ∀ l, (∀ r ∈ l, (r.length : Int) ≤ 1048576) → zk l ≤ l.length * 1048576
 | [], _ => by simp [zk]
 | r :: l, h => by
  have h1 := zG l (fun x hx => h x (by simp [hx]))
  have h2 := h r (by simp)
  simp only [zk, List.length_cons]
  rw [show ((l.length + 1 : Nat) : Int) = (l.length : Int) + 1 by omega, Int.add_mul]; omega
theorem qV : ∀ (l : List (List Int)) (a : Int), 0 ≤ a → a + zk l < 4611686018427387904 → Ev (fun k => laws_markIntSS.g k l a) (a + zk l, ze l a) := by
 intro l
 induction l with
 | nil => intro a h0 _; exact evs (by simp [zk, ze])
 | cons r l ih =>
  intro a h0 hb
  have hn := zo l
  simp only [zk] at hb ⊢
  refine evr (evb (jf r a h0 (by omega)) (evb (ih (a + r.length) (by omega) (by omega)) (evs rfl))) ?_
  simp only [ze, Prod.mk.injEq]
  exact ⟨by omega, trivial⟩
theorem zJ (l : List (List Int)) (a : Int) (h0 : 0 ≤ a) (hl : l.length ≤ 1048576) (h : a + zk l < 4611686018427387904) : Ev (fun k => laws_markIntSS.f k l a) (a + zk l, ze l a) := by
 unfold laws_markIntSS.f
 exact evp (by omega) (qV l a h0 h)
theorem jj : ∀ (l pre : List (List Int)) (a : Int), 0 ≤ a → pre.length + l.length ≤ 1048576 → a + zk l < 4611686018427387904 →
  Ev (fun k => laws_heldIntSS.l0 k (pre ++ ze l a) a (pre.length : Int)) (a + zk l) := by
 intro l
 induction l with
 | nil =>
  intro pre a h0 hl hb
  exact Ev.step (fun k => laws_heldIntSS.l0.eq_2 ..) (evn (by simp [ze]) (evs (by simp [zk])))
 | cons r l ih =>
  intro pre a h0 hl hb
  have hn := zo l
  simp only [zk, List.length_cons] at hb hl ⊢
  have e : pre ++ ze (r :: l) a = (pre ++ [marks r a]) ++ ze l (a + r.length) := by simp [ze]
  refine Ev.step (fun k => laws_heldIntSS.l0.eq_2 ..) (evp (by simp [ze]; omega) (evp (by omega) ?_))
  have er : rd_L1 (pre ++ ze (r :: l) a) (pre.length : Int) = marks r a := by simp [rd_L1, ze]
  rw [er]
  refine evb (jg r a h0 (by omega)) (evn (by omega) ?_)
  have h1 := ih (pre ++ [marks r a]) (a + r.length) (by omega) (by simp; omega) (by omega)
  rw [w64s pre.length (by omega), e]
  rw [List.length_append, List.length_singleton] at h1
  exact evr h1 (by omega)
theorem qW (l : List (List Int)) (a : Int) (h0 : 0 ≤ a) (hl : l.length ≤ 1048576) (h : a + zk l < 4611686018427387904) : Ev (fun k => laws_heldIntSS.f k (ze l a) a) (a + zk l) := by
 unfold laws_heldIntSS.f
 have := jj l [] a h0 (by simpa using hl) h
 simpa using this
namespace Gz
def sm (f : Nat → Int) : Nat → Int
 | 0 => 0
 | n + 1 => sm f n + f n
theorem sm_congr {f g : Nat → Int} : ∀ {n : Nat}, (∀ k, k < n → f k = g k) → sm f n = sm g n
 | 0, _ => rfl
 | n + 1, h => by simp only [sm]; rw [sm_congr (fun k hk => h k (by omega)), h n (by omega)]
theorem zp (f g : Nat → Int) : ∀ n, sm (fun k => f k + g k) n = sm f n + sm g n
 | 0 => rfl
 | n + 1 => by simp only [sm]; rw [zp f g n]; omega
theorem zd (c : Int) (f : Nat → Int) : ∀ n, sm (fun k => c * f k) n = c * sm f n
 | 0 => by simp [sm]
 | n + 1 => by simp only [sm]; rw [zd c f n, Int.mul_add]
theorem zj {f : Nat → Int} : ∀ {n : Nat}, (∀ k, k < n → f k = 0) → sm f n = 0
 | 0, _ => rfl
 | n + 1, h => by simp only [sm]; rw [zj (fun k hk => h k (by omega)), h n (by omega)]; rfl
theorem zm {f : Nat → Int} (p : Nat) : ∀ {n : Nat}, p < n → (∀ k, k < n → k ≠ p → f k = 0) → sm f n = f p
 | 0, hp, _ => by omega
 | n + 1, hp, h => by
  simp only [sm]
  by_cases e : p = n
  ·
   subst e; rw [zj (fun k hk => h k (by omega) (by omega)), Int.zero_add]
  ·
   rw [zm p (by omega) (fun k hk => h k (by omega)), h n (by omega) (fun x => e x.symm), Int.add_zero]
theorem jw {f : Nat → Int} (b : Int) : ∀ {n : Nat}, (∀ k, k < n → -b ≤ f k ∧ f k ≤ b) → -(b * n) ≤ sm f n ∧ sm f n ≤ b * n
 | 0, _ => by simp [sm]
 | n + 1, h => by
  have h1 := jw (n := n) b (fun k hk => h k (by omega))
  have h2 := h n (by omega)
  simp only [sm]; rw [show ((n + 1 : Nat) : Int) = (n : Int) + 1 by omega, Int.mul_add]; omega
theorem jx {f : Nat → Int} (b : Int) : ∀ {n : Nat}, (∀ k, k < n → 0 ≤ f k ∧ f k ≤ b) → 0 ≤ sm f n ∧ sm f n ≤ b * n
 | 0, _ => by simp [sm]
 | n + 1, h => by
  have h1 := jx (n := n) b (fun k hk => h k (by omega))
  have h2 := h n (by omega)
  simp only [sm]; rw [show ((n + 1 : Nat) : Int) = (n : Int) + 1 by omega, Int.mul_add]; omega
theorem zH (f : Nat → Nat → Int) (m : Nat) : ∀ n, sm (fun i => sm (f i) m) n = sm (fun j => sm (fun i => f i j) n) m
 | 0 => by simp only [sm]; exact (zj (fun _ _ => rfl)).symm
 | n + 1 => by
  simp only [sm]
  rw [zH f m n, ← zp]
theorem jS : ∀ (M N : Nat) (f : Nat → Nat), M < N → (∀ i, i < N → f i < M) → ∃ i j, i < j ∧ j < N ∧ f i = f j := by
 intro M
 induction M with
 | zero => intro N f h1 h2; exact absurd (h2 0 h1) (by omega)
 | succ M ih =>
  intro N f h1 h2
  by_cases e : ∃ i, i < N - 1 ∧ f i = f (N - 1)
  ·
   obtain ⟨i, hi, e⟩ := e
   exact ⟨i, N - 1, hi, by omega, e⟩
  ·
   have hne : ∀ i, i < N - 1 → f i ≠ f (N - 1) := fun i hi h => e ⟨i, hi, h⟩
   have hv := h2 (N - 1) (by omega)
   obtain ⟨i, j, hij, hj, he⟩ := ih (N - 1) (fun i => if f i < f (N - 1) then f i else f i - 1) (by omega) (fun i hi => by
    have := hne i hi; have := h2 i (by omega)
    split <;> omega)
   refine ⟨i, j, hij, by omega, ?_⟩
   have := hne i (by omega); have := hne j hj
   split at he <;> split at he <;> omega
def dg (b k i : Nat) : Nat := i / b ^ k % b
theorem jT (b : Nat) (hb : 0 < b) : ∀ n i j, i < b ^ n → j < b ^ n → (∀ k, k < n → dg b k i = dg b k j) → i = j := by
 intro n
 induction n with
 | zero => intro i j hi hj _; simp at hi hj; omega
 | succ n ih =>
  intro i j hi hj h
  have h0 := h 0 (by omega)
  simp only [dg, Nat.pow_zero, Nat.div_one] at h0
  have hq := ih (i / b) (j / b) (by rw [Nat.div_lt_iff_lt_mul hb, ← Nat.pow_succ]; exact hi) (by rw [Nat.div_lt_iff_lt_mul hb, ← Nat.pow_succ]; exact hj) (fun k hk => by
   have := h (k + 1) (by omega)
   simp only [dg, Nat.pow_succ'] at this ⊢
   rw [Nat.div_div_eq_div_mul, Nat.div_div_eq_div_mul]; exact this)
  rw [← Nat.div_add_mod i b, ← Nat.div_add_mod j b, hq, h0]
def zw (b : Nat) (v : Nat → Nat) : Nat → Nat
 | 0 => 0
 | m + 1 => zw b v m + v m * b ^ m
theorem zz (b : Nat) (v : Nat → Nat) : ∀ m, (∀ j, j < m → v j < b) → zw b v m < b ^ m
 | 0, _ => by simp [zw]
 | m + 1, h => by
  have h1 := zz b v m (fun j hj => h j (by omega))
  have h2 := h m (by omega)
  have h3 : (v m + 1) * b ^ m ≤ b * b ^ m := Nat.mul_le_mul_right _ h2
  rw [Nat.add_mul, Nat.one_mul] at h3
  simp only [zw, Nat.pow_succ']; omega
theorem zT (b : Nat) (v u : Nat → Nat) : ∀ m, (∀ j, j < m → v j < b) → (∀ j, j < m → u j < b) → zw b v m = zw b u m → ∀ j, j < m → v j = u j
 | 0, _, _, _ => fun j hj => by omega
 | m + 1, hv, hu, h => by
  have h1 := zz b v m (fun j hj => hv j (by omega))
  have h2 := zz b u m (fun j hj => hu j (by omega))
  simp only [zw] at h
  have hp : 0 < b ^ m := by omega
  have e : v m = u m := by
   have e1 := congrArg (· / b ^ m) h
   rwa [Nat.add_mul_div_right _ _ hp, Nat.add_mul_div_right _ _ hp, Nat.div_eq_of_lt h1, Nat.div_eq_of_lt h2, Nat.zero_add, Nat.zero_add] at e1
  rw [e] at h
  intro j hj
  by_cases ej : j = m
  ·
   rw [ej]; exact e
  ·
   exact zT b v u m (fun j hj => hv j (by omega)) (fun j hj => hu j (by omega)) (by omega) j (by omega)
theorem zt (m a : Nat) (ha : 1 ≤ a) (A : Nat → Nat → Int) (hA : ∀ k j, k < m + 1 → j < m → -(a : Int) ≤ A k j ∧ A k j ≤ a) :
  ∃ y : Nat → Int, (∃ k, k < m + 1 ∧ y k ≠ 0) ∧ (∀ k, -((((m + 1) * a) ^ m : Nat) : Int) ≤ y k ∧ y k ≤ (((m + 1) * a) ^ m : Nat)) ∧ ∀ j, j < m → sm (fun k => y k * A k j) (m + 1) = 0 := by
 obtain ⟨c, hc⟩ : ∃ c, c = (m + 1) * a := ⟨_, rfl⟩
 obtain ⟨B, hB⟩ : ∃ B, B = c ^ m := ⟨_, rfl⟩
 rw [← hc, ← hB]
 have hc1 : 1 ≤ c := by rw [hc]; exact Nat.mul_pos (by omega) ha
 let off : Nat → Nat → Int := fun k j => if 0 ≤ A k j then 0 else -(A k j) * B
 let V : Nat → Nat → Int := fun i j => sm (fun k => (dg (B + 1) k i : Int) * A k j + off k j) (m + 1)
 have hV : ∀ i j, j < m → 0 ≤ V i j ∧ V i j ≤ ((c * B : Nat) : Int) := by
  intro i j hj
  have h := jx (f := fun k => (dg (B + 1) k i : Int) * A k j + off k j) ((a * B : Nat) : Int) (n := m + 1) (fun k hk => by
   have h1 := hA k j hk hj
   have h2 : dg (B + 1) k i < B + 1 := Nat.mod_lt _ (by omega)
   simp only [off]
   obtain ⟨q, hq⟩ : ∃ q : Nat, q = dg (B + 1) k i := ⟨_, rfl⟩
   rw [← hq] at h2 ⊢
   by_cases e : 0 ≤ A k j
   ·
    rw [if_pos e]
    obtain ⟨x, hx⟩ := Int.eq_ofNat_of_zero_le e
    rw [hx] at h1 ⊢
    have : q * x ≤ a * B := by rw [Nat.mul_comm]; exact Nat.mul_le_mul (by omega) (by omega)
    have h3 : ((q * x : Nat) : Int) ≤ ((a * B : Nat) : Int) := by exact_mod_cast this
    rw [show ((q : Int) * (x : Int)) = ((q * x : Nat) : Int) by simp]; omega
   ·
    rw [if_neg e]
    obtain ⟨x, hx⟩ : ∃ x : Nat, A k j = -(x : Int) := ⟨(-(A k j)).toNat, by omega⟩
    rw [hx] at h1 ⊢
    have : x * (B - q) ≤ a * B := Nat.mul_le_mul (by omega) (by omega)
    have h3 : ((x * (B - q) : Nat) : Int) ≤ ((a * B : Nat) : Int) := by exact_mod_cast this
    rw [show ((q : Int) * -(x : Int) + -(-(x : Int)) * (B : Int)) = ((x * (B - q) : Nat) : Int) by
     rw [Int.natCast_mul, Int.ofNat_sub (by omega), Int.mul_sub, Int.mul_neg, Int.neg_neg, Int.mul_comm (q : Int)]; omega]
    omega)
  refine ⟨h.1, Int.le_trans h.2 ?_⟩
  rw [hc, show ((a * B : Nat) : Int) * ((m + 1 : Nat) : Int) = (((m + 1) * a * B : Nat) : Int) by rw [← Int.natCast_mul]; congr 1; rw [Nat.mul_comm, Nat.mul_assoc]]
  exact Int.le_refl _
 obtain ⟨i, j, hij, hj, he⟩ := jS ((c * B + 1) ^ m) ((B + 1) ^ (m + 1)) (fun i => zw (c * B + 1) (fun j => (V i j).toNat) m) (by
  have h1 : (c * B + 1) ^ m ≤ (c * (B + 1)) ^ m := Nat.pow_le_pow_left (by rw [Nat.mul_add]; omega) m
  rw [Nat.mul_pow, ← hB] at h1
  have h2 : 0 < (B + 1) ^ m := Nat.pow_pos (by omega)
  have h3 : (B + 1) ^ (m + 1) = B * (B + 1) ^ m + (B + 1) ^ m := by rw [Nat.pow_succ', Nat.add_mul, Nat.one_mul]
  omega) (fun i hi => zz _ _ _ (fun j hj => by have := hV i j hj; omega))
 have hv : ∀ l, l < m → V i l = V j l := fun l hl => by
  have h1 := zT _ _ _ m (fun l hl => by have := hV i l hl; omega) (fun l hl => by have := hV j l hl; omega) he l hl
  have := hV i l hl; have := hV j l hl
  omega
 refine ⟨fun k => (dg (B + 1) k i : Int) - dg (B + 1) k j, ?_, fun k => ?_, fun l hl => ?_⟩
 ·
  refine Classical.byContradiction fun hn => ?_
  have := jT (B + 1) (by omega) (m + 1) i j (by omega) hj (fun k hk => Classical.byContradiction fun h => hn ⟨k, hk, by simp only; omega⟩)
  omega
 ·
  have h1 : dg (B + 1) k i < B + 1 := Nat.mod_lt _ (by omega)
  have h2 : dg (B + 1) k j < B + 1 := Nat.mod_lt _ (by omega)
  simp only; omega
 ·
  have h1 := hv l hl
  simp only [V] at h1
  rw [zp, zp] at h1
  have h2 : sm (fun k => ((dg (B + 1) k i : Int) - dg (B + 1) k j) * A k l) (m + 1) = sm (fun k => (dg (B + 1) k i : Int) * A k l) (m + 1) + sm (fun k => -1 * ((dg (B + 1) k j : Int) * A k l)) (m + 1) := by
   rw [← zp]
   refine sm_congr fun k _ => ?_
   rw [Int.sub_mul]; omega
  rw [h2, zd]; omega
structure Gs (m n : Nat) (a : Nat) (A0 A M : Nat → Nat → Int) (r c : Nat) (p : Nat → Nat) : Prop where
 hr : r ≤ m
 hc : c ≤ n
 ps : ∀ l, l < r → p l < c
 asc : ∀ l k, l < k → k < r → p l < p k
 diag : ∀ l, l < r → M l (p l) ≠ 0
 off : ∀ l, l < r → ∀ i, i < m → i ≠ l → M i (p l) = 0
 low : ∀ i, i < m → r ≤ i → ∀ j, j < c → M i j = 0
 indep : ∀ y : Nat → Int, (∀ j, j < n → sm (fun k => y k * A k j) r = 0) → ∀ k, k < r → y k = 0
 comb : ∃ u : Int, u ≠ 0 ∧ ∃ X : Nat → Nat → Int, ∃ x : Nat → Int, (∀ i, i < m → r ≤ i → x i ≠ 0) ∧ (∀ i, i < r → x i = 0) ∧ ∀ i, i < m → ∀ j, j < n → u * A i j = sm (fun l => X i l * M l j) r + x i * M i j
 bnd : ∀ i, i < m → ∀ j, j < n → -(a : Int) ≤ A i j ∧ A i j ≤ a
 ker : ∀ z : Nat → Int, (∀ i, i < m → sm (fun j => A0 i j * z j) n = 0) ↔ (∀ i, i < m → sm (fun j => M i j * z j) n = 0)
theorem Gs.start {m n a : Nat} {A : Nat → Nat → Int} (hb : ∀ i, i < m → ∀ j, j < n → -(a : Int) ≤ A i j ∧ A i j ≤ a) (p : Nat → Nat) : Gs m n a A A A 0 0 p where
 hr := by omega
 hc := by omega
 ps := fun l h => by omega
 asc := fun l k _ h => by omega
 diag := fun l h => by omega
 off := fun l h => by omega
 low := fun i _ _ j h => by omega
 indep := fun y _ k h => by omega
 comb := ⟨1, by decide, fun _ _ => 0, fun _ => 1, fun _ _ _ => (by simp), fun i h => by omega, fun i _ j _ => by simp [sm]⟩
 bnd := hb
 ker := fun z => Iff.rfl
theorem Gs.skip {m n a : Nat} {A0 A M : Nat → Nat → Int} {r c : Nat} {p : Nat → Nat} (h : Gs m n a A0 A M r c p) (hc : c < n) (h0 : ∀ i, i < m → r ≤ i → M i c = 0) : Gs m n a A0 A M r (c + 1) p :=
 { h with
  hc := hc
  ps := fun l hl => by have := h.ps l hl; omega
  low := fun i hi hr j hj => by
   by_cases e : j = c
   ·
    rw [e]; exact h0 i hi hr
   ·
    exact h.low i hi hr j (by omega) }
def swp (M : Nat → Nat → Int) (r i : Nat) : Nat → Nat → Int := fun k => if k = r then M i else if k = i then M r else M k
theorem Gs.swap {m n a : Nat} {A0 A M : Nat → Nat → Int} {r c : Nat} {p : Nat → Nat} (h : Gs m n a A0 A M r c p) (i : Nat) (hi : i < m) (hri : r ≤ i) : Gs m n a A0 (swp A r i) (swp M r i) r c p := by
 have hlt : ∀ (B : Nat → Nat → Int) k, k < r → swp B r i k = B k := fun B k hk => by unfold swp; rw [if_neg (by omega), if_neg (by omega)]
 obtain ⟨τ, hτ⟩ : ∃ τ : Nat → Nat, τ = fun k => if k = r then i else if k = i then r else k := ⟨_, rfl⟩
 have hsw : ∀ (B : Nat → Nat → Int) k, swp B r i k = B (τ k) := fun B k => by
  rw [hτ]; unfold swp; simp only
  by_cases e : k = r
  ·
   rw [if_pos e, if_pos e]
  ·
   by_cases e2 : k = i
   ·
    rw [if_neg e, if_neg e, if_pos e2, if_pos e2]
   ·
    rw [if_neg e, if_neg e, if_neg e2, if_neg e2]
 have hτm : ∀ k, k < m → τ k < m := fun k hk => by rw [hτ]; simp only; split; exact hi; split <;> omega
 have hτr : ∀ k, r ≤ k → r ≤ τ k := fun k hk => by rw [hτ]; simp only; split; exact hri; split <;> omega
 have hτl : ∀ k, k < r → τ k = k := fun k hk => by rw [hτ]; simp only; rw [if_neg (by omega), if_neg (by omega)]
 have hττ : ∀ k, τ (τ k) = k := fun k => by rw [hτ]; simp only; split <;> (try split) <;> (try split) <;> omega
 refine { hr := h.hr, hc := h.hc, ps := h.ps, asc := h.asc, diag := fun l hl => ?_, off := fun l hl k hk hne => ?_, low := fun k hk hrk j hj => ?_, indep := fun y hy => ?_, comb := ?_, bnd := fun k hk => ?_, ker := fun z => ?_ }
 ·
  rw [hlt M l hl]; exact h.diag l hl
 ·
  rw [hsw]
  refine h.off l hl (τ k) (hτm k hk) (fun e => hne ?_)
  rw [← hττ k, e, hτl l hl]
 ·
  rw [hsw]; exact h.low _ (hτm k hk) (hτr k hrk) j hj
 ·
  refine h.indep y (fun j hj => ?_)
  rw [← hy j hj]
  exact sm_congr fun k hk => by rw [hlt A k hk]
 ·
  obtain ⟨u, hu, X, x, h1, h2, h3⟩ := h.comb
  refine ⟨u, hu, fun k => X (τ k), fun k => x (τ k), fun k hk hr => h1 _ (hτm k hk) (hτr k hr), fun k hk => ?_, fun k hk j hj => ?_⟩
  ·
   simp only; rw [hτl k hk]; exact h2 k hk
  ·
   rw [hsw, hsw, h3 _ (hτm k hk) j hj]
   congr 1
   exact sm_congr fun l hl => by rw [hlt M l hl]
 ·
  rw [hsw]; exact h.bnd _ (hτm k hk)
 ·
  rw [h.ker z]
  constructor
  ·
   intro H k hk; rw [hsw]; exact H _ (hτm k hk)
  ·
   intro H k hk
   have := H _ (hτm k hk)
   rw [hsw, hττ] at this; exact this
theorem Gs.scale {m n a : Nat} {A0 A M M' : Nat → Nat → Int} {r c : Nat} {p : Nat → Nat} (h : Gs m n a A0 A M r c p) (g : Nat → Int) (hg : ∀ k, k < m → g k ≠ 0) (hM : ∀ k, k < m → ∀ j, j < n → M k j = g k * M' k j) : Gs m n a A0 A M' r c p := by
 have hr := h.hr; have hc := h.hc
 have hz : ∀ k, k < m → ∀ j, j < n → (M k j = 0 ↔ M' k j = 0) := fun k hk j hj => by
  rw [hM k hk j hj, Int.mul_eq_zero]
  exact ⟨fun h => h.resolve_left (hg k hk), Or.inr⟩
 refine { hr := h.hr, hc := h.hc, ps := h.ps, asc := h.asc, diag := fun l hl => ?_, off := fun l hl k hk hne => ?_, low := fun k hk hrk j hj => ?_, indep := h.indep, comb := ?_, bnd := h.bnd, ker := fun z => ?_ }
 ·
  have := h.ps l hl
  exact fun e => h.diag l hl ((hz l (by omega) _ (by omega)).2 e)
 ·
  have := h.ps l hl
  exact (hz k hk _ (by omega)).1 (h.off l hl k hk hne)
 ·
  exact (hz k hk j (by omega)).1 (h.low k hk hrk j hj)
 ·
  obtain ⟨u, hu, X, x, h1, h2, h3⟩ := h.comb
  refine ⟨u, hu, fun k l => X k l * g l, fun k => x k * g k, fun k hk hr => fun e => ?_, fun k hk => ?_, fun k hk j hj => ?_⟩
  ·
   rcases Int.mul_eq_zero.1 e with e | e
   ·
    exact h1 k hk hr e
   ·
    exact hg k hk e
  ·
   simp only; rw [h2 k hk, Int.zero_mul]
  ·
   rw [h3 k hk j hj, hM k hk j hj, Int.mul_assoc]
   congr 1
   exact sm_congr fun l hl => by rw [hM l (by omega) j hj, Int.mul_assoc]
 ·
  rw [h.ker z]
  have e : ∀ k, k < m → sm (fun j => M k j * z j) n = g k * sm (fun j => M' k j * z j) n := fun k hk => by
   rw [← zd]
   exact sm_congr fun j hj => by rw [hM k hk j hj, Int.mul_assoc]
  constructor
  ·
   intro H k hk
   have := H k hk
   rw [e k hk, Int.mul_eq_zero] at this
   exact this.resolve_left (hg k hk)
  ·
   intro H k hk; rw [e k hk, H k hk, Int.mul_zero]
theorem zD {m n r N : Nat} {A M : Nat → Nat → Int} {u : Int} {X : Nat → Nat → Int} {x : Nat → Int} (h3 : ∀ i, i < m → ∀ j, j < n → u * A i j = sm (fun l => X i l * M l j) r + x i * M i j)
  (κ : Nat → Nat) (hκ : ∀ k, k < N → κ k < m) (y : Nat → Int) (j : Nat) (hj : j < n) :
  u * sm (fun k => y k * A (κ k) j) N = sm (fun l => sm (fun k => y k * X (κ k) l) N * M l j) r + sm (fun k => y k * x (κ k) * M (κ k) j) N := by
 rw [← zd]
 have e1 : sm (fun k => u * (y k * A (κ k) j)) N = sm (fun k => sm (fun l => y k * X (κ k) l * M l j) r + y k * x (κ k) * M (κ k) j) N := by
  refine sm_congr fun k hk => ?_
  have := h3 (κ k) (hκ k hk) j hj
  rw [show u * (y k * A (κ k) j) = y k * (u * A (κ k) j) by rw [← Int.mul_assoc, Int.mul_comm u, Int.mul_assoc], this, Int.mul_add, ← zd, Int.mul_assoc]
  congr 1
  exact sm_congr fun l _ => by rw [Int.mul_assoc]
 rw [e1, zp, zH]
 congr 1
 refine sm_congr fun l _ => ?_
 rw [Int.mul_comm, ← zd]
 exact sm_congr fun k _ => by rw [Int.mul_comm]
theorem Gs.coef {m n a : Nat} {A0 A M : Nat → Nat → Int} {r c : Nat} {p : Nat → Nat} (h : Gs m n a A0 A M r c p) (C : Nat → Int) (l : Nat) (hl : l < r) : sm (fun k => C k * M k (p l)) r = C l * M l (p l) :=
 zm (f := fun k => C k * M k (p l)) l hl (fun k hk hne => by
  have := h.hr
  rw [h.off l hl k (by omega) hne, Int.mul_zero])
theorem Gs.elim {m n a : Nat} {A0 A M M' : Nat → Nat → Int} {r c : Nat} {p : Nat → Nat} (h : Gs m n a A0 A M r c p) (hr : r < m) (hc : c < n) (h0 : M r c ≠ 0) (g : Nat → Int) (hg : ∀ k, k < m → k ≠ r → g k ≠ 0)
  (hM : ∀ k, k < m → k ≠ r → ∀ j, j < n → g k * M' k j = M r c * M k j - M k c * M r j) (hMr : ∀ j, j < n → M' r j = M r j) : Gs m n a A0 A M' (r + 1) (c + 1) (fun l => if l = r then c else p l) := by
 have hpl : ∀ l, l < r → M r (p l) = 0 := fun l hl => h.off l hl r hr (by omega)
 have hzero : ∀ k, k < m → k ≠ r → ∀ j, j < n → M r c * M k j - M k c * M r j = 0 → M' k j = 0 := fun k hk hne j hj e => by
  have := hM k hk hne j hj
  rw [e, Int.mul_eq_zero] at this
  exact this.resolve_left (hg k hk hne)
 obtain ⟨u, hu, X, x, h1, h2, h3⟩ := h.comb
 refine { hr := hr, hc := hc, ps := fun l hl => ?_, asc := fun l k hlk hk => ?_, diag := fun l hl => ?_, off := fun l hl k hk hne => ?_, low := fun k hk hrk j hj => ?_, indep := fun y hy => ?_, comb := ?_, bnd := h.bnd, ker := fun z => ?_ }
 ·
  split
  ·
   omega
  ·
   have := h.ps l (by omega); omega
 ·
  rw [if_neg (show ¬ l = r by omega)]
  split
  ·
   exact h.ps l (by omega)
  ·
   exact h.asc l k hlk (by omega)
 ·
  by_cases e : l = r
  ·
   rw [if_pos e, e, hMr c hc]; exact h0
  ·
   rw [if_neg e]
   have hp := h.ps l (by omega)
   intro e2
   have := hM l (by omega) e (p l) (by omega)
   rw [e2, Int.mul_zero, hpl l (by omega), Int.mul_zero, Int.sub_zero] at this
   rcases Int.mul_eq_zero.1 this.symm with e3 | e3
   ·
    exact h0 e3
   ·
    exact h.diag l (by omega) e3
 ·
  by_cases e : l = r
  ·
   rw [if_pos e]
   rw [e] at hne
   refine hzero k hk hne c hc ?_
   rw [Int.mul_comm]; omega
  ·
   rw [if_neg e]
   have hp := h.ps l (by omega)
   by_cases ek : k = r
   ·
    rw [ek, hMr _ (by omega)]; exact hpl l (by omega)
   ·
    refine hzero k hk ek _ (by omega) ?_
    rw [hpl l (by omega), h.off l (by omega) k hk hne]; simp
 ·
  have hkr : k ≠ r := by omega
  refine hzero k hk hkr j (by omega) ?_
  by_cases e : j = c
  ·
   rw [e, Int.mul_comm]; omega
  ·
   rw [h.low k hk (by omega) j (by omega), h.low r hr (Nat.le_refl _) j (by omega)]; simp
 ·
  have hex := fun j hj => zD (N := r + 1) h3 (fun k => k) (fun k hk => by omega) y j hj
  have hC : ∀ l, l < r → sm (fun k => y k * X k l) (r + 1) = 0 := fun l hl => by
   have hp := h.ps l hl
   have := hex (p l) (by omega)
   rw [hy (p l) (by omega), Int.mul_zero, h.coef _ l hl, zj (f := fun k => y k * x k * M k (p l)) (n := r + 1) (fun k hk => by
    by_cases e : k < r
    ·
     rw [h2 k e]; simp
    ·
     rw [show k = r by omega, hpl l hl, Int.mul_zero]), Int.add_zero] at this
   exact (Int.mul_eq_zero.1 this.symm).resolve_right (h.diag l hl)
  have hyr : y r = 0 := by
   have := hex c hc
   rw [hy c hc, Int.mul_zero, zj (n := r) (fun l hl => by rw [hC l hl, Int.zero_mul]), Int.zero_add, zm r (by omega) (fun k hk hne => by rw [h2 k (by omega)]; simp)] at this
   rcases Int.mul_eq_zero.1 this.symm with e | e
   ·
    exact (Int.mul_eq_zero.1 e).resolve_right (h1 r hr (Nat.le_refl _))
   ·
    exact absurd e h0
  intro k hk
  by_cases e : k = r
  ·
   rw [e]; exact hyr
  ·
   refine h.indep y (fun j hj => ?_) k (by omega)
   have := hy j hj
   simp only [sm] at this
   rw [hyr, Int.zero_mul, Int.add_zero] at this; exact this
 ·
  refine ⟨u * M r c, fun e => (Int.mul_eq_zero.1 e).elim hu h0, fun i l => if l = r then sm (fun l => X i l * M l c) r + x i * M i c else X i l * g l, fun i => if i = r then 0 else x i * g i, fun i hi hri => ?_, fun i hi => ?_, fun i hi j hj => ?_⟩
  ·
   simp only; rw [if_neg (by omega)]
   exact fun e => (Int.mul_eq_zero.1 e).elim (h1 i hi (by omega)) (hg i hi (by omega))
  ·
   simp only; split
   ·
    rfl
   ·
    rw [h2 i (by omega), Int.zero_mul]
  ·
   rw [show u * M r c * A i j = M r c * (u * A i j) by rw [Int.mul_comm u, Int.mul_assoc], h3 i hi j hj, Int.mul_add, ← zd]
   simp only [sm, if_pos]
   have e1 : sm (fun l => M r c * (X i l * M l j)) r = sm (fun l => (if l = r then sm (fun l => X i l * M l c) r + x i * M i c else X i l * g l) * M' l j) r + M r j * sm (fun l => X i l * M l c) r := by
    rw [← zd, ← zp]
    refine sm_congr fun l hl => ?_
    have := hM l (by omega) (by omega) j hj
    rw [if_neg (by omega), Int.mul_assoc (X i l), this, Int.mul_sub]
    simp only [Int.mul_left_comm, Int.mul_comm]
    omega
   rw [e1, hMr j hj]
   by_cases ei : i = r
   ·
    rw [if_pos ei, ei, Int.zero_mul, Int.add_zero, Int.add_mul]
    simp only [Int.mul_left_comm, Int.mul_comm]
    omega
   ·
    have := hM i hi ei j hj
    rw [if_neg ei, Int.mul_assoc (x i), this, Int.add_mul, Int.mul_sub]
    simp only [Int.mul_left_comm, Int.mul_comm]
    omega
 ·
  rw [h.ker z]
  have e : ∀ k, k < m → k ≠ r → g k * sm (fun j => M' k j * z j) n = M r c * sm (fun j => M k j * z j) n - M k c * sm (fun j => M r j * z j) n := fun k hk hne => by
   rw [← zd, ← zd, ← zd, show ∀ a b : Int, a - b = a + -1 * b from fun a b => by omega, ← zd, ← zp]
   refine sm_congr fun j hj => ?_
   rw [← Int.mul_assoc, hM k hk hne j hj, Int.sub_mul, Int.mul_assoc, Int.mul_assoc]; omega
  have er : sm (fun j => M' r j * z j) n = sm (fun j => M r j * z j) n := sm_congr fun j hj => by rw [hMr j hj]
  constructor
  ·
   intro H k hk
   by_cases ek : k = r
   ·
    rw [ek, er]; exact H r hr
   ·
    have := e k hk ek
    rw [H k hk, H r hr] at this
    simp only [Int.mul_zero, Int.sub_self] at this
    exact (Int.mul_eq_zero.1 this).resolve_left (hg k hk ek)
  ·
   intro H k hk
   by_cases ek : k = r
   ·
    rw [ek, ← er]; exact H r hr
   ·
    have := e k hk ek
    rw [H k hk, ← er, H r hr, Int.mul_zero, Int.mul_zero, Int.sub_zero] at this
    exact (Int.mul_eq_zero.1 this.symm).resolve_left h0
def Fair (n : Nat) (R : Nat → Int) : Prop := (∀ j, j < n → R j = 0) ∨ ∃ (e : Nat → Int) (g : Int), 1 ≤ g ∧ g ≤ 9 ∧ sm (fun j => e j * R j) n = g
theorem qv {n : Nat} {R s : Nat → Int} {u lam S : Int} (hu : u ≠ 0) (hl : lam ≠ 0) (hs : ∀ j, j < n → u * s j = lam * R j) (hS : ∀ j, j < n → -S ≤ s j ∧ s j ≤ S) (hf : Fair n R) (hS0 : 0 ≤ S) : ∀ j, j < n → -(9 * S) ≤ R j ∧ R j ≤ 9 * S := by
 rcases hf with hf | ⟨e, g, h1, h9, hg⟩
 ·
  intro j hj; rw [hf j hj]; omega
 ·
  obtain ⟨q, hq⟩ : ∃ q, q = sm (fun j => e j * s j) n := ⟨_, rfl⟩
  have hlg : lam * g = u * q := by
   rw [← hg, hq, ← zd, ← zd]
   refine sm_congr fun j hj => ?_
   have := hs j hj
   rw [← Int.mul_assoc, Int.mul_comm lam, Int.mul_assoc, ← this, ← Int.mul_assoc, Int.mul_comm (e j), Int.mul_assoc]
  have hq0 : q ≠ 0 := fun e0 => by
   rw [e0, Int.mul_zero] at hlg
   rcases Int.mul_eq_zero.1 hlg with h | h
   ·
    exact hl h
   ·
    omega
  intro j hj
  have hk : g * s j = q * R j := by
   have : u * (g * s j) = u * (q * R j) := by
    rw [← Int.mul_assoc u q, ← hlg, Int.mul_assoc, Int.mul_left_comm lam, ← hs j hj, Int.mul_left_comm]
   exact Int.eq_of_mul_eq_mul_left hu this
  have hb := hS j hj
  have ha : (R j).natAbs ≤ (g * s j).natAbs := by
   rw [hk, Int.natAbs_mul]
   exact Nat.le_mul_of_pos_left _ (by omega)
  rw [Int.natAbs_mul] at ha
  have hc : g.natAbs * (s j).natAbs ≤ 9 * S.toNat := Nat.mul_le_mul (by omega) (by omega)
  omega
theorem prod_bd {a b x y : Int} (ha : 0 ≤ a) (hb : 0 ≤ b) (hx : -a ≤ x ∧ x ≤ a) (hy : -b ≤ y ∧ y ≤ b) : -(a * b) ≤ x * y ∧ x * y ≤ a * b := by
 have h : (x * y).natAbs ≤ a.toNat * b.toNat := by rw [Int.natAbs_mul]; exact Nat.mul_le_mul (by omega) (by omega)
 have e : ((a.toNat * b.toNat : Nat) : Int) = a * b := by rw [Int.natCast_mul, Int.toNat_of_nonneg ha, Int.toNat_of_nonneg hb]
 omega
theorem Gs.small {m n a : Nat} {A0 A M : Nat → Nat → Int} {r c : Nat} {p : Nat → Nat} (h : Gs m n a A0 A M r c p) (ha : 1 ≤ a) (hm : 1 ≤ m) (i : Nat) (hi : i < m) (hf : Fair n (M i)) :
  ∀ j, j < n → -(9 * (((m * a) ^ m : Nat) : Int)) ≤ M i j ∧ M i j ≤ 9 * (((m * a) ^ m : Nat) : Int) := by
 have hr := h.hr; have hcn := h.hc
 obtain ⟨u, hu, X, x, h1, h2, h3⟩ := h.comb
 have hma : 1 ≤ m * a := Nat.mul_pos hm ha
 have key : ∀ N, N + 1 ≤ m → ∀ (κ : Nat → Nat), (∀ k, k < N + 1 → κ k < m) → ∀ y : Nat → Int, (∀ k, -((((N + 1) * a) ^ N : Nat) : Int) ≤ y k ∧ y k ≤ (((N + 1) * a) ^ N : Nat)) → ∀ j, j < n → -(((m * a) ^ m : Nat) : Int) ≤ sm (fun k => y k * A (κ k) j) (N + 1) ∧ sm (fun k => y k * A (κ k) j) (N + 1) ≤ ((m * a) ^ m : Nat) := by
  intro N hN κ hκ y hy j hj
  have hb := jw (f := fun k => y k * A (κ k) j) ((((((N + 1) * a) ^ N : Nat) : Int)) * (a : Int)) (n := N + 1) (fun k hk => prod_bd (by omega) (by omega) (hy k) (h.bnd _ (hκ k hk) j hj))
  have e : ((((N + 1) * a) ^ N : Nat) : Int) * (a : Int) * ((N + 1 : Nat) : Int) = (((((N + 1) * a) ^ (N + 1)) : Nat) : Int) := by
   rw [Nat.pow_succ, ← Int.natCast_mul, ← Int.natCast_mul, Nat.mul_assoc, Nat.mul_comm a]
  have h4 : ((N + 1) * a) ^ (N + 1) ≤ (m * a) ^ m := Nat.le_trans (Nat.pow_le_pow_left (Nat.mul_le_mul_right a hN) _) (Nat.pow_le_pow_right hma hN)
  rw [e] at hb
  omega
 by_cases hir : r ≤ i
 ·
  obtain ⟨y, ⟨k0, hk0, hy0⟩, hyb, hys⟩ := zt r a ha (fun k j => A (if k < r then k else i) (p j)) (fun k j hk hj => by
   have := h.ps j hj
   exact h.bnd _ (by split <;> omega) _ (by omega))
  have hκ : ∀ k, k < r + 1 → (if k < r then k else i) < m := fun k hk => by split <;> omega
  have hex := fun j hj => zD (N := r + 1) h3 (fun k => if k < r then k else i) hκ y j hj
  have hx : ∀ j, sm (fun k => y k * x (if k < r then k else i) * M (if k < r then k else i) j) (r + 1) = y r * x i * M i j := fun j => by
   rw [zm r (by omega) (fun k hk hne => by rw [if_pos (by omega), h2 k (by omega)]; simp)]
   simp only [Nat.lt_irrefl, if_false]
  have hC : ∀ l, l < r → sm (fun k => y k * X (if k < r then k else i) l) (r + 1) = 0 := fun l hl => by
   have hp := h.ps l hl
   have := hex (p l) (by omega)
   rw [hys l hl, Int.mul_zero, h.coef _ l hl, hx, h.off l hl i hi (by omega), Int.mul_zero, Int.add_zero] at this
   exact (Int.mul_eq_zero.1 this.symm).resolve_right (h.diag l hl)
  have hlam : ∀ j, j < n → u * sm (fun k => y k * A (if k < r then k else i) j) (r + 1) = y r * x i * M i j := fun j hj => by
   rw [hex j hj, zj (n := r) (fun l hl => by rw [hC l hl, Int.zero_mul]), Int.zero_add, hx]
  by_cases hyr : y r = 0
  ·
   exfalso
   have := h.indep y (fun j hj => by
    have := hlam j hj
    rw [hyr, Int.zero_mul, Int.zero_mul, Int.mul_eq_zero] at this
    have := this.resolve_left hu
    simp only [sm] at this
    rw [hyr, Int.zero_mul, Int.add_zero] at this
    rw [← this]
    exact sm_congr fun k hk => by rw [if_pos hk])
   by_cases e : k0 = r
   ·
    rw [e] at hy0; exact hy0 hyr
   ·
    exact hy0 (this k0 (by omega))
  ·
   exact qv hu (fun e => (Int.mul_eq_zero.1 e).elim hyr (h1 i hi hir)) hlam (key r (by omega) _ hκ y hyb) hf (by omega)
 ·
  have hir' : i < r := by omega
  obtain ⟨N, rfl⟩ : ∃ N, r = N + 1 := ⟨r - 1, by omega⟩
  obtain ⟨y, ⟨k0, hk0, hy0⟩, hyb, hys⟩ := zt N a ha (fun k j => A k (p (if j < i then j else j + 1))) (fun k j hk hj => by
   have := h.ps (if j < i then j else j + 1) (by split <;> omega)
   exact h.bnd _ (by omega) _ (by omega))
  have hex := fun j hj => zD (N := N + 1) h3 (fun k => k) (fun k hk => by omega) y j hj
  have hx : ∀ j, sm (fun k => y k * x k * M k j) (N + 1) = 0 := fun j => zj fun k hk => by rw [h2 k hk]; simp
  have hC : ∀ l, l < N + 1 → l ≠ i → sm (fun k => y k * X k l) (N + 1) = 0 := fun l hl hne => by
   have hp := h.ps l hl
   have := hex (p l) (by omega)
   have hs := hys (if l < i then l else l - 1) (by split <;> omega)
   rw [show (if (if l < i then l else l - 1) < i then (if l < i then l else l - 1) else (if l < i then l else l - 1) + 1) = l by by_cases e : l < i; (rw [if_pos e, if_pos e]); (rw [if_neg e, if_neg (by omega)]; omega)] at hs
   rw [hs, Int.mul_zero, h.coef _ l hl, hx, Int.add_zero] at this
   exact (Int.mul_eq_zero.1 this.symm).resolve_right (h.diag l hl)
  have hlam : ∀ j, j < n → u * sm (fun k => y k * A k j) (N + 1) = sm (fun k => y k * X k i) (N + 1) * M i j := fun j hj => by
   rw [hex j hj, hx, Int.add_zero, zm i hir' (fun l hl hne => by rw [hC l hl hne, Int.zero_mul])]
  by_cases hl0 : sm (fun k => y k * X k i) (N + 1) = 0
  ·
   exfalso
   exact hy0 (h.indep y (fun j hj => by
    have := hlam j hj
    rw [hl0, Int.zero_mul, Int.mul_eq_zero] at this
    exact this.resolve_left hu) k0 hk0)
  ·
   exact qv hu hl0 hlam (key N (by omega) (fun k => k) (fun k hk => by omega) y hyb) hf (by omega)
def InKer (m n : Nat) (A : Nat → Nat → Int) (z : Nat → Int) : Prop := ∀ i, i < m → sm (fun j => A i j * z j) n = 0
def PosRel (m n : Nat) (A : Nat → Nat → Int) : Prop := ∃ z : Nat → Int, (∀ j, j < n → 0 < z j) ∧ InKer m n A z ∧ ∀ z', InKer m n A z' → ∀ j, j < n → ∀ k, k < n → z j * z' k = z k * z' j
theorem jE (m n : Nat) (M : Nat → Nat → Int) : ∃ a : Nat, 1 ≤ a ∧ ∀ i, i < m → ∀ j, j < n → -(a : Int) ≤ M i j ∧ M i j ≤ a := by
 have h1 : ∀ (f : Nat → Int) (n : Nat), ∃ a : Nat, ∀ j, j < n → -(a : Int) ≤ f j ∧ f j ≤ a := by
  intro f n
  induction n with
  | zero => exact ⟨0, fun j hj => by omega⟩
  | succ n ih =>
   obtain ⟨a, ha⟩ := ih
   refine ⟨a + (f n).natAbs, fun j hj => ?_⟩
   by_cases e : j = n
   ·
    subst e; omega
   ·
    have := ha j (by omega); omega
 induction m with
 | zero => exact ⟨1, by omega, fun i hi => by omega⟩
 | succ m ih =>
  obtain ⟨a, h0, ha⟩ := ih
  obtain ⟨b, hb⟩ := h1 (M m) n
  refine ⟨a + b, by omega, fun i hi j hj => ?_⟩
  by_cases e : i = m
  ·
   subst e; have := hb j hj; omega
  ·
   have := ha i (by omega) j hj; omega
theorem zA (m : Nat) (A : Nat → Nat → Int) : ∃ y : Nat → Int, (∃ k, k < m + 1 ∧ y k ≠ 0) ∧ ∀ j, j < m → sm (fun k => y k * A k j) (m + 1) = 0 := by
 obtain ⟨a, h1, h2⟩ := jE (m + 1) m A
 obtain ⟨y, h3, _, h4⟩ := zt m a h1 A (fun k j hk hj => h2 k hk j hj)
 exact ⟨y, h3, h4⟩
theorem jU {f : Nat → Int} (p q : Nat) (hpq : p ≠ q) {n : Nat} (hp : p < n) (hq : q < n) (h : ∀ k, k < n → k ≠ p → k ≠ q → f k = 0) : sm f n = f p + f q := by
 have e : sm f n = sm (fun k => (if k = p then f k else 0) + (if k = p then 0 else f k)) n := sm_congr fun k _ => by split <;> omega
 rw [e, zp, zm p hp (fun k _ hk => if_neg hk), zm q hq (fun k hk hne => by
  by_cases e : k = p
  ·
   rw [if_pos e]
  ·
   rw [if_neg e]; exact h k hk e hne), if_pos rfl, if_neg (fun e => hpq e.symm)]
section Final
variable {m n a : Nat} {A0 A M : Nat → Nat → Int} {r : Nat} {p : Nat → Nat}
theorem Gs.places (h : Gs m n a A0 A M r n p) : ∀ l, l < r → l ≤ p l ∧ p l + r ≤ l + n := by
 have h1 : ∀ l, l < r → l ≤ p l := by
  intro l
  induction l with
  | zero => intro _; omega
  | succ l ih => intro hl; have := ih (by omega); have := h.asc l (l + 1) (by omega) hl; omega
 have h2 : ∀ d l, l < r → l + d + 1 = r → p l + r ≤ l + n := by
  intro d
  induction d with
  | zero => intro l hl e; have := h.ps l hl; omega
  | succ d ih => intro l hl e; have := ih (l + 1) (by omega) (by omega); have := h.asc l (l + 1) (by omega) (by omega); omega
 exact fun l hl => ⟨h1 l hl, h2 (r - l - 1) l hl (by omega)⟩
theorem Gs.rank (h : Gs m n a A0 A M r n p) : r ≤ n := by
 by_cases e : r = 0
 ·
  omega
 ·
  have := h.places (r - 1) (by omega); have := h.ps (r - 1) (by omega); omega
theorem Gs.zeros (h : Gs m n a A0 A M r n p) (z : Nat → Int) : (∀ i, i < m → sm (fun j => M i j * z j) n = 0) ↔ ∀ i, i < r → sm (fun j => M i j * z j) n = 0 := by
 have := h.hr
 refine ⟨fun H i hi => H i (by omega), fun H i hi => ?_⟩
 by_cases e : i < r
 ·
  exact H i e
 ·
  exact zj fun j hj => by rw [h.low i hi (by omega) j hj, Int.zero_mul]
def Free (n r : Nat) (p : Nat → Nat) (f : Nat) : Prop := f ≤ r ∧ (∀ l, l < f → p l = l) ∧ ∀ l, f ≤ l → l < r → p l = l + 1
theorem Gs.free_at (h : Gs m n a A0 A M r n p) (hrn : r + 1 = n) (f : Nat) (hf : f ≤ r) (h1 : ∀ l, l < f → p l = l) (h2 : f < r → p f ≠ f) : Free n r p f := by
 refine ⟨hf, h1, fun l hl hr => ?_⟩
 have hp := h.places l hr
 have hpf := h.places f (by omega)
 have h3 := h2 (by omega)
 by_cases e : l = f
 ·
  subst e; omega
 ·
  have : ∀ d, f + d < r → f + d + 1 ≤ p (f + d) := by
   intro d
   induction d with
   | zero => intro _; simp only [Nat.add_zero]; omega
   | succ d ih => intro hd; have := ih (by omega); have := h.asc (f + d) (f + (d + 1)) (by omega) hd; omega
  have := this (l - f) (by omega)
  rw [show f + (l - f) = l by omega] at this
  omega
theorem Gs.row (h : Gs m n a A0 A M r n p) (hrn : r + 1 = n) {f : Nat} (hf : Free n r p f) (l : Nat) (hl : l < r) (z : Nat → Int) : sm (fun j => M l j * z j) n = M l (p l) * z (p l) + M l f * z f := by
 have hr := h.hr
 have hfp : p l ≠ f := by
  by_cases e : l < f
  ·
   rw [hf.2.1 l e]; omega
  ·
   rw [hf.2.2 l (by omega) hl]; omega
 refine jU (f := fun j => M l j * z j) (p l) f hfp (h.ps l hl) (by have := hf.1; omega) (fun k hk h1 h2 => ?_)
 obtain ⟨l', hl', e⟩ : ∃ l', l' < r ∧ p l' = k := by
  by_cases e : k < f
  ·
   exact ⟨k, by have := hf.1; omega, hf.2.1 k e⟩
  ·
   exact ⟨k - 1, by omega, by rw [hf.2.2 (k - 1) (by omega) (by omega)]; omega⟩
 rw [← e, h.off l' hl' l (by omega) (fun x => h1 (by rw [x, e])), Int.zero_mul]
theorem Gs.ker_iff (h : Gs m n a A0 A M r n p) (hrn : r + 1 = n) {f : Nat} (hf : Free n r p f) (z : Nat → Int) : InKer m n A0 z ↔ ∀ l, l < r → M l (p l) * z (p l) + M l f * z f = 0 := by
 unfold InKer
 rw [h.ker z, h.zeros z]
 exact ⟨fun H l hl => by rw [← h.row hrn hf l hl z]; exact H l hl, fun H l hl => by rw [h.row hrn hf l hl z]; exact H l hl⟩
theorem Gs.cover (h : Gs m n a A0 A M r n p) (hrn : r + 1 = n) {f : Nat} (hf : Free n r p f) (j : Nat) (hj : j < n) : j = f ∨ ∃ l, l < r ∧ p l = j := by
 by_cases e : j = f
 ·
  exact Or.inl e
 ·
  by_cases e2 : j < f
  ·
   exact Or.inr ⟨j, by have := hf.1; omega, hf.2.1 j e2⟩
  ·
   exact Or.inr ⟨j - 1, by omega, by rw [hf.2.2 (j - 1) (by omega) (by omega)]; omega⟩
theorem Gs.posrel (h : Gs m n a A0 A M r n p) (hrn : r + 1 = n) {f : Nat} (hf : Free n r p f) (out : Nat → Int) (h0 : 0 < out f) (ho : ∀ l, l < r → M l (p l) * out (p l) + M l f * out f = 0) :
  PosRel m n A0 ↔ ∀ j, j < n → 0 < out j := by
 have hfn : f < n := by have := hf.1; omega
 have hmul : ∀ z, InKer m n A0 z → ∀ j, j < n → out f * z j = out j * z f := by
  intro z hz j hj
  rcases h.cover hrn hf j hj with rfl | ⟨l, hl, rfl⟩
  ·
   rfl
  ·
   have h1 := (h.ker_iff hrn hf z).1 hz l hl
   have h2 := ho l hl
   refine Int.eq_of_mul_eq_mul_left (h.diag l hl) ?_
   have e1 : M l (p l) * (out f * z (p l)) = out f * (M l (p l) * z (p l)) := Int.mul_left_comm _ _ _
   have e2 : M l (p l) * (out (p l) * z f) = (M l (p l) * out (p l)) * z f := (Int.mul_assoc _ _ _).symm
   rw [e1, e2, show M l (p l) * z (p l) = -(M l f * z f) by omega, show M l (p l) * out (p l) = -(M l f * out f) by omega, Int.mul_neg, Int.neg_mul, Int.mul_left_comm, Int.mul_assoc]
 have hk : InKer m n A0 out := (h.ker_iff hrn hf out).2 ho
 constructor
 ·
  rintro ⟨z, hz, hzk, _⟩ j hj
  have h1 := hmul z hzk j hj
  have h2 := Int.mul_pos h0 (hz j hj)
  rw [h1] at h2
  exact Int.pos_of_mul_pos_left h2 (hz f hfn)
 ·
  intro hp
  refine ⟨out, hp, hk, fun z' hz' j hj k hk' => ?_⟩
  have h1 := hmul z' hz' j hj
  have h2 := hmul z' hz' k hk'
  refine Int.eq_of_mul_eq_mul_left (show out f ≠ 0 by omega) ?_
  rw [Int.mul_left_comm, h2, Int.mul_left_comm (out f), h1, Int.mul_left_comm]
theorem Gs.norel (h : Gs m n a A0 A M r n p) (hn : 1 ≤ n) (hrn : r + 1 ≠ n) : ¬ PosRel m n A0 := by
 rintro ⟨z, hz, hzk, hz1⟩
 have hrk := h.rank
 have hr := h.hr
 have hz2 := (h.zeros z).1 ((h.ker z).1 hzk)
 by_cases e : r = n
 ·
  have hp : ∀ l, l < n → p l = l := fun l hl => by have := h.places l (by omega); omega
  have h1 := hz2 0 (by omega)
  rw [zm (f := fun j => M 0 j * z j) 0 (by omega) (fun k hk hne => by
   have := h.off k (by omega) 0 (by omega) (fun x => hne x.symm)
   rw [hp k hk] at this
   rw [this, Int.zero_mul])] at h1
  have h2 := h.diag 0 (by omega)
  rw [hp 0 (by omega)] at h2
  have h3 := hz 0 (by omega)
  rcases Int.mul_eq_zero.1 h1 with e | e
  ·
   exact h2 e
  ·
   omega
 ·
  obtain ⟨y, ⟨k0, hk0, hy0⟩, hy⟩ := zA r (fun k j => M j k)
  have hyk : InKer m n A0 (fun k => if k < r + 1 then y k else 0) := by
   refine (h.ker _).2 ((h.zeros _).2 (fun i hi => ?_))
   have h1 := hy i hi
   have h2 : ∀ d, sm (fun j => M i j * (if j < r + 1 then y j else 0)) (r + 1 + d) = 0 := by
    intro d
    induction d with
    | zero =>
     rw [← h1]
     exact sm_congr fun k hk => by rw [if_pos hk, Int.mul_comm]
    | succ d ih =>
     rw [show r + 1 + (d + 1) = (r + 1 + d) + 1 by omega]
     simp only [sm]
     rw [ih, if_neg (by omega), Int.mul_zero]; rfl
   have := h2 (n - (r + 1))
   rw [show r + 1 + (n - (r + 1)) = n by omega] at this
   exact this
  have h3 := hz1 _ hyk k0 (by omega) (n - 1) (by omega)
  rw [if_neg (by omega), Int.mul_zero, if_pos hk0] at h3
  rcases Int.mul_eq_zero.1 h3.symm with e | e
  ·
   have := hz (n - 1) (by omega); omega
  ·
   exact hy0 e
theorem Gs.back (h : Gs m n a A0 A M r n p) (l : Nat) (hl : l < r) : ∃ t : Int, t ≠ 0 ∧ ∃ Y : Nat → Int, ∀ j, j < n → t * M l j = sm (fun k => Y k * A k j) r := by
 have hr := h.hr
 obtain ⟨u, hu, X, x, h1, h2, h3⟩ := h.comb
 obtain ⟨y, ⟨k0, hk0, hy0⟩, hy⟩ := zA r (fun k j => if k < r then X k j else if j = l then u else 0)
 have hC : ∀ j, j < r → sm (fun k => y k * X k j) r = -(y r * (if j = l then u else 0)) := fun j hj => by
  have := hy j hj
  simp only [sm] at this
  rw [sm_congr (g := fun k => y k * X k j) (fun k hk => by rw [if_pos hk]), if_neg (Nat.lt_irrefl _)] at this
  omega
 have hex : ∀ j, j < n → u * sm (fun k => y k * A k j) r = -(u * (y r * M l j)) := fun j hj => by
  have := zD (N := r) h3 (fun k => k) (fun k hk => by omega) y j hj
  rw [this, zj (n := r) (f := fun k => y k * x k * M k j) (fun k hk => by rw [h2 k hk]; simp), Int.add_zero, zm l hl (fun k hk hne => by rw [hC k hk, if_neg hne]; simp), hC l hl, if_pos rfl, Int.neg_mul]
  congr 1
  rw [Int.mul_comm (y r) u, Int.mul_assoc]
 have hex2 : ∀ j, j < n → sm (fun k => y k * A k j) r = -(y r * M l j) := fun j hj => by
  refine Int.eq_of_mul_eq_mul_left hu ?_
  rw [hex j hj, Int.mul_neg]
 have hyr : y r ≠ 0 := fun e => by
  have := h.indep y (fun j hj => by rw [hex2 j hj, e]; simp)
  by_cases e0 : k0 = r
  ·
   rw [e0] at hy0; exact hy0 e
  ·
   exact hy0 (this k0 (by omega))
 exact ⟨-(y r), by omega, y, fun j hj => by rw [hex2 j hj, Int.neg_mul]⟩
theorem Gs.tame (h : Gs m n a A0 A M r n p) (ha : 1 ≤ a) (hrn : r + 1 = n) {f : Nat} (hf : Free n r p f) :
  ∃ z : Nat → Int, z f ≠ 0 ∧ (∀ j, -(((n * a) ^ r : Nat) : Int) ≤ z j ∧ z j ≤ ((n * a) ^ r : Nat)) ∧ ∀ l, l < r → M l (p l) * z (p l) + M l f * z f = 0 := by
 have hr := h.hr
 obtain ⟨z, ⟨k0, hk0, hz0⟩, hzb, hz⟩ := zt r a ha (fun k j => A j k) (fun k j hk hj => h.bnd j (by omega) k (by omega))
 have hrow : ∀ l, l < r → M l (p l) * z (p l) + M l f * z f = 0 := fun l hl => by
  rw [← h.row hrn hf l hl z]
  obtain ⟨t, ht, Y, hY⟩ := h.back l hl
  refine (Int.mul_eq_zero.1 (show t * sm (fun j => M l j * z j) n = 0 from ?_)).resolve_left ht
  rw [← zd, sm_congr (g := fun j => sm (fun k => Y k * (A k j * z j)) r) (fun j hj => by
   rw [← Int.mul_assoc, hY j hj, Int.mul_comm, ← zd]
   exact sm_congr fun k _ => by rw [Int.mul_comm (z j), Int.mul_assoc])]
  rw [zH]
  refine zj fun k hk => ?_
  rw [zd, ← hrn, sm_congr (g := fun j => z j * A k j) (fun j _ => Int.mul_comm _ _), hz k hk, Int.mul_zero]
 refine ⟨z, fun e => ?_, fun j => by rw [← hrn]; exact hzb j, hrow⟩
 rcases h.cover hrn hf k0 (by omega) with rfl | ⟨l, hl, rfl⟩
 ·
  exact hz0 e
 ·
  have := hrow l hl
  rw [e, Int.mul_zero, Int.add_zero] at this
  exact (Int.mul_eq_zero.1 this).elim (h.diag l hl) hz0
theorem Gs.pivot_dvd (h : Gs m n a A0 A M r n p) (hrn : r + 1 = n) {f : Nat} (hf : Free n r p f) (hfair : ∀ l, l < r → Fair n (M l)) (z : Nat → Int) (hz : ∀ l, l < r → M l (p l) * z (p l) + M l f * z f = 0) (l : Nat) (hl : l < r) : M l (p l) ∣ 2520 * z f := by
 rcases hfair l hl with h0 | ⟨e, g, h1, h9, hg⟩
 ·
  exact absurd (h0 _ (h.ps l hl)) (h.diag l hl)
 ·
  have hrow := h.row hrn hf l hl e
  have hg' : M l (p l) * e (p l) + M l f * e f = g := by
   rw [← hrow, ← hg]; exact sm_congr fun j _ => Int.mul_comm _ _
  have hd : M l (p l) ∣ g * z f := by
   refine ⟨e (p l) * z f - e f * z (p l), ?_⟩
   have h2 := hz l hl
   have h3 : M l f * z f * e f = -(M l (p l) * z (p l)) * e f := by rw [show M l f * z f = -(M l (p l) * z (p l)) by omega]
   rw [← hg', Int.add_mul, Int.mul_sub, Int.mul_assoc (M l (p l)), Int.mul_right_comm (M l f), h3, Int.neg_mul, Int.mul_assoc, Int.mul_comm (z (p l))]
   omega
  obtain ⟨k, hk⟩ : ∃ k, 2520 = k * g := by
   have : g = 1 ∨ g = 2 ∨ g = 3 ∨ g = 4 ∨ g = 5 ∨ g = 6 ∨ g = 7 ∨ g = 8 ∨ g = 9 := by omega
   rcases this with rfl | rfl | rfl | rfl | rfl | rfl | rfl | rfl | rfl
   ·
    exact ⟨2520, rfl⟩
   ·
    exact ⟨1260, rfl⟩
   ·
    exact ⟨840, rfl⟩
   ·
    exact ⟨630, rfl⟩
   ·
    exact ⟨504, rfl⟩
   ·
    exact ⟨420, rfl⟩
   ·
    exact ⟨360, rfl⟩
   ·
    exact ⟨315, rfl⟩
   ·
    exact ⟨280, rfl⟩
  rw [hk, Int.mul_assoc]
  exact Int.dvd_trans hd (Int.dvd_mul_left _ _)
end Final
theorem bez (a b : Nat) : ∃ x y : Int, x * a + y * b = (Nat.gcd a b : Nat) := by
 induction a, b using Nat.gcd.induction with
 | H0 n => exact ⟨0, 1, by simp⟩
 | H1 m n hm ih =>
  obtain ⟨x, y, h⟩ := ih
  refine ⟨y - x * ((n / m : Nat) : Int), x, ?_⟩
  rw [Nat.gcd_rec, ← h]
  have e : ((n % m : Nat) : Int) = (n : Int) - (m : Int) * ((n / m : Nat) : Int) := by
   have := Nat.mod_add_div n m
   have h2 : ((n % m + m * (n / m) : Nat) : Int) = (n : Int) := by rw [this]
   rw [Int.natCast_add, Int.natCast_mul] at h2; omega
  rw [e, Int.sub_mul, Int.mul_sub, Int.mul_assoc, Int.mul_comm (n / m : Nat) (m : Int)]; omega
def gl (l : List Int) : Nat := l.foldl (fun g x => Nat.gcd g x.natAbs) 0
theorem jF (l : List Int) (x : Int) : gl (l ++ [x]) = Nat.gcd (gl l) x.natAbs := by simp [gl]
theorem gl_take (l : List Int) (i : Nat) (h : i < l.length) : gl (l.take (i + 1)) = Nat.gcd (gl (l.take i)) (l.getD i 0).natAbs := by
 rw [List.take_succ_eq_append_getElem h, jF]
 simp [List.getD_eq_getElem?_getD, List.getElem?_eq_getElem h]
theorem gl_bd (l : List Int) (B : Nat) (h : ∀ j, j < l.length → (l.getD j 0).natAbs ≤ B) : ∀ i, i ≤ l.length → gl (l.take i) ≤ B := by
 intro i
 induction i with
 | zero => intro _; simp [gl]
 | succ i ih =>
  intro hi
  rw [gl_take l i (by omega)]
  have h1 := h i (by omega)
  rcases Nat.eq_zero_or_pos (l.getD i 0).natAbs with e | e
  ·
   rw [e, Nat.gcd_zero_right]; exact ih (by omega)
  ·
   exact Nat.le_trans (Nat.gcd_le_right _ e) h1
theorem zU (l : List Int) : ∀ i, i ≤ l.length → ∀ j, j < i → (gl (l.take i) : Int) ∣ l.getD j 0 := by
 intro i
 induction i with
 | zero => intro _ j h; omega
 | succ i ih =>
  intro hi j hj
  rw [gl_take l i (by omega)]
  by_cases e : j = i
  ·
   subst e; exact Int.dvd_trans (Int.natCast_dvd_natCast.2 (Nat.gcd_dvd_right _ _)) (Int.natAbs_dvd.2 (Int.dvd_refl _))
  ·
   exact Int.dvd_trans (Int.natCast_dvd_natCast.2 (Nat.gcd_dvd_left _ _)) (ih (by omega) j (by omega))
theorem jV (l : List Int) : ∀ i, i ≤ l.length → ∃ e : Nat → Int, sm (fun j => e j * l.getD j 0) i = (gl (l.take i) : Nat) := by
 intro i
 induction i with
 | zero => intro _; exact ⟨fun _ => 0, by simp [sm, gl]⟩
 | succ i ih =>
  intro hi
  obtain ⟨e, he⟩ := ih (by omega)
  obtain ⟨x, y, hxy⟩ := bez (gl (l.take i)) (l.getD i 0).natAbs
  have hs : ∃ s : Int, ((l.getD i 0).natAbs : Int) = s * l.getD i 0 := by
   rcases Int.natAbs_eq (l.getD i 0) with h | h
   ·
    exact ⟨1, by omega⟩
   ·
    exact ⟨-1, by omega⟩
  obtain ⟨s, hs⟩ := hs
  refine ⟨fun j => if j = i then y * s else x * e j, ?_⟩
  rw [gl_take l i (by omega), ← hxy]
  simp only [sm, if_true]
  rw [sm_congr (g := fun j => x * (e j * l.getD j 0)) (fun j hj => by rw [if_neg (by omega), Int.mul_assoc]), zd, he, hs, Int.mul_assoc]
theorem jG (l : List Int) (h : gl l = 0) (j : Nat) : l.getD j 0 = 0 := by
 rcases Nat.lt_or_ge j l.length with hj | hj
 ·
  have := zU l l.length (Nat.le_refl _) j hj
  rw [List.take_length, h] at this
  exact Int.zero_dvd.1 this
 ·
  rw [List.getD_eq_getElem?_getD, List.getElem?_eq_none hj]; rfl
def cut (l : List Int) : List Int := if gl l > 1 then l.map (fun x => Int.tdiv x (gl l : Int)) else l
theorem cut_len (l : List Int) : (cut l).length = l.length := by unfold cut; split <;> simp
theorem cut_at (l : List Int) : ∃ g : Int, 1 ≤ g ∧ ∀ j, l.getD j 0 = g * (cut l).getD j 0 := by
 unfold cut
 by_cases h : gl l > 1
 ·
  refine ⟨(gl l : Nat), by omega, fun j => ?_⟩
  rw [if_pos h]
  rcases Nat.lt_or_ge j l.length with hj | hj
  ·
   have hd := zU l l.length (Nat.le_refl _) j hj
   rw [List.take_length] at hd
   have e : (l.map (fun x => Int.tdiv x (gl l : Int))).getD j 0 = Int.tdiv (l.getD j 0) (gl l : Int) := by
    simp [List.getD_eq_getElem?_getD, List.getElem?_map, List.getElem?_eq_getElem hj]
   rw [e, Int.mul_tdiv_cancel' hd]
  ·
   rw [List.getD_eq_getElem?_getD, List.getElem?_eq_none hj, List.getD_eq_getElem?_getD, List.getElem?_eq_none (by simpa using hj)]; simp
 ·
  exact ⟨1, Int.le_refl _, fun j => by rw [if_neg h, Int.one_mul]⟩
theorem cut_fair (l : List Int) : Fair l.length (fun j => (cut l).getD j 0) := by
 obtain ⟨e, he⟩ := jV l l.length (Nat.le_refl _)
 rw [List.take_length] at he
 rcases Nat.eq_zero_or_pos (gl l) with h0 | h0
 ·
  refine Or.inl fun j hj => ?_
  obtain ⟨g, hg, h⟩ := cut_at l
  have := jG l h0 j
  rw [h j] at this
  exact (Int.mul_eq_zero.1 this).resolve_left (by omega)
 ·
  refine Or.inr ⟨e, 1, by omega, by omega, ?_⟩
  unfold cut
  by_cases h : gl l > 1
  ·
   rw [if_pos h]
   have hc : ∀ j, j < l.length → (gl l : Int) * (l.map (fun x => Int.tdiv x (gl l : Int))).getD j 0 = l.getD j 0 := fun j hj => by
    have hd := zU l l.length (Nat.le_refl _) j hj
    rw [List.take_length] at hd
    rw [show (l.map (fun x => Int.tdiv x (gl l : Int))).getD j 0 = Int.tdiv (l.getD j 0) (gl l : Int) by simp [List.getD_eq_getElem?_getD, List.getElem?_map, List.getElem?_eq_getElem hj], Int.mul_tdiv_cancel' hd]
   refine Int.eq_of_mul_eq_mul_left (show (gl l : Int) ≠ 0 by omega) ?_
   rw [← zd, Int.mul_one]
   refine Eq.trans (sm_congr fun j hj => ?_) he
   show (gl l : Int) * (e j * (l.map (fun x => Int.tdiv x (gl l : Int))).getD j 0) = e j * l.getD j 0
   rw [Int.mul_left_comm, hc j hj]
  ·
   rw [if_neg h, he]; omega
theorem small_fair (n : Nat) (R : Nat → Int) (h : ∀ j, j < n → -9 ≤ R j ∧ R j ≤ 9) : Fair n R := by
 by_cases c : ∀ j, j < n → R j = 0
 ·
  exact Or.inl c
 ·
  obtain ⟨j, hj⟩ := Classical.not_forall.1 c
  obtain ⟨hj, h0⟩ := Classical.not_imp.1 hj
  have hb := h j hj
  refine Or.inr ⟨fun k => if k = j then (if 0 < R j then 1 else -1) else 0, if 0 < R j then R j else -R j, by split <;> omega, by split <;> omega, ?_⟩
  rw [zm j hj (fun k hk hne => by simp only [if_neg hne, Int.zero_mul])]
  simp only [if_true]
  split <;> omega
theorem Fair.congr {n : Nat} {R S : Nat → Int} (h : Fair n R) (e : ∀ j, j < n → S j = R j) : Fair n S := by
 rcases h with h | ⟨w, g, h1, h2, h3⟩
 ·
  exact Or.inl fun j hj => by rw [e j hj, h j hj]
 ·
  exact Or.inr ⟨w, g, h1, h2, by rw [← h3]; exact sm_congr fun j hj => by rw [e j hj]⟩
def mt (R : List (List Int)) : Nat → Nat → Int := fun i j => (R.getD i []).getD j 0
def pv (p : List Int) : Nat → Nat := fun l => (p.getD l 0).toNat
def Shape (m n : Nat) (R : List (List Int)) : Prop := R.length = m ∧ ∀ i, i < m → (R.getD i []).length = n
theorem Shape.set {m n : Nat} {R : List (List Int)} (h : Shape m n R) (i : Nat) (s : List Int) (hs : s.length = n) : Shape m n (R.set i s) := by
 refine ⟨by rw [List.length_set]; exact h.1, fun k hk => ?_⟩
 by_cases e : i = k
 ·
  subst e; rw [List.getD_eq_getElem?_getD, List.getElem?_set_self (by rw [h.1]; exact hk)]; exact hs
 ·
  rw [List.getD_eq_getElem?_getD, List.getElem?_set_ne e, ← List.getD_eq_getElem?_getD]; exact h.2 k hk
theorem getD_row (R : List (List Int)) (i k : Nat) (s : List Int) (hk : k < R.length) : (R.set i s).getD k [] = if k = i then s else R.getD k [] := by
 by_cases e : k = i
 ·
  subst e; rw [if_pos rfl, List.getD_eq_getElem?_getD, List.getElem?_set_self hk]; rfl
 ·
  rw [if_neg e, List.getD_eq_getElem?_getD, List.getElem?_set_ne (fun h => e h.symm), ← List.getD_eq_getElem?_getD]
theorem mt_set {m n : Nat} {R : List (List Int)} (h : Shape m n R) (i : Nat) (s : List Int) (k : Nat) (hk : k < m) : mt (R.set i s) k = if k = i then (fun j => s.getD j 0) else mt R k := by
 funext j
 unfold mt
 rw [getD_row R i k s (by rw [h.1]; exact hk)]
 by_cases e : k = i
 ·
  rw [if_pos e, if_pos e]
 ·
  rw [if_neg e, if_neg e]
theorem Gs.congr {m n a : Nat} {A0 A M M' : Nat → Nat → Int} {r c : Nat} {p p' : Nat → Nat} (h : Gs m n a A0 A M r c p) (hM : ∀ i, i < m → ∀ j, j < n → M' i j = M i j) (hp : ∀ l, l < r → p' l = p l) : Gs m n a A0 A M' r c p' := by
 have h1 := h.scale (M' := M') (fun _ => 1) (fun _ _ => by decide) (fun k hk j hj => by rw [hM k hk j hj, Int.one_mul])
 exact { h1 with
  ps := fun l hl => by rw [hp l hl]; exact h1.ps l hl
  asc := fun l k hlk hk => by rw [hp l (by omega), hp k hk]; exact h1.asc l k hlk hk
  diag := fun l hl => by rw [hp l hl]; exact h1.diag l hl
  off := fun l hl i hi hne => by rw [hp l hl]; exact h1.off l hl i hi hne }
def NzRel (m n : Nat) (A : Nat → Nat → Int) : Prop := ∃ z : Nat → Int, (∀ j, j < n → z j ≠ 0) ∧ InKer m n A z ∧ ∀ z', InKer m n A z' → ∀ j, j < n → ∀ k, k < n → z j * z' k = z k * z' j
theorem Gs.norelNz {m n a : Nat} {A0 A M : Nat → Nat → Int} {r : Nat} {p : Nat → Nat} (h : Gs m n a A0 A M r n p) (hn : 1 ≤ n) (hrn : r + 1 ≠ n) : ¬ NzRel m n A0 := by
 rintro ⟨z, hz, hzk, hz1⟩
 have hrk := h.rank
 have hr := h.hr
 have hz2 := (h.zeros z).1 ((h.ker z).1 hzk)
 by_cases e : r = n
 ·
  have hp : ∀ l, l < n → p l = l := fun l hl => by have := h.places l (by omega); omega
  have h1 := hz2 0 (by omega)
  rw [zm (f := fun j => M 0 j * z j) 0 (by omega) (fun k hk hne => by
   have := h.off k (by omega) 0 (by omega) (fun x => hne x.symm)
   rw [hp k hk] at this
   rw [this, Int.zero_mul])] at h1
  have h2 := h.diag 0 (by omega)
  rw [hp 0 (by omega)] at h2
  have h3 := hz 0 (by omega)
  rcases Int.mul_eq_zero.1 h1 with e | e
  ·
   exact h2 e
  ·
   exact h3 e
 ·
  obtain ⟨y, ⟨k0, hk0, hy0⟩, hy⟩ := zA r (fun k j => M j k)
  have hyk : InKer m n A0 (fun k => if k < r + 1 then y k else 0) := by
   refine (h.ker _).2 ((h.zeros _).2 (fun i hi => ?_))
   have h1 := hy i hi
   have h2 : ∀ d, sm (fun j => M i j * (if j < r + 1 then y j else 0)) (r + 1 + d) = 0 := by
    intro d
    induction d with
    | zero =>
     rw [← h1]
     exact sm_congr fun k hk => by rw [if_pos hk, Int.mul_comm]
    | succ d ih =>
     rw [show r + 1 + (d + 1) = (r + 1 + d) + 1 by omega]
     simp only [sm]
     rw [ih, if_neg (by omega), Int.mul_zero]; rfl
   have := h2 (n - (r + 1))
   rw [show r + 1 + (n - (r + 1)) = n by omega] at this
   exact this
  have h3 := hz1 _ hyk k0 (by omega) (n - 1) (by omega)
  rw [if_neg (by omega), Int.mul_zero, if_pos hk0] at h3
  rcases Int.mul_eq_zero.1 h3.symm with e | e
  ·
   exact hz (n - 1) (by omega) e
  ·
   exact hy0 e
theorem Gs.mults {m n a : Nat} {A0 A M : Nat → Nat → Int} {r : Nat} {p : Nat → Nat} (h : Gs m n a A0 A M r n p) (hrn : r + 1 = n) {f : Nat} (hf : Free n r p f) (out : Nat → Int) (ho : ∀ l, l < r → M l (p l) * out (p l) + M l f * out f = 0) :
  InKer m n A0 out ∧ ∀ z, InKer m n A0 z → ∀ j, j < n → out f * z j = out j * z f := by
 refine ⟨(h.ker_iff hrn hf out).2 ho, fun z hz j hj => ?_⟩
 rcases h.cover hrn hf j hj with rfl | ⟨l, hl, rfl⟩
 ·
  rfl
 ·
  have h1 := (h.ker_iff hrn hf z).1 hz l hl
  have h2 := ho l hl
  refine Int.eq_of_mul_eq_mul_left (h.diag l hl) ?_
  have e1 : M l (p l) * (out f * z (p l)) = out f * (M l (p l) * z (p l)) := Int.mul_left_comm _ _ _
  have e2 : M l (p l) * (out (p l) * z f) = (M l (p l) * out (p l)) * z f := (Int.mul_assoc _ _ _).symm
  rw [e1, e2, show M l (p l) * z (p l) = -(M l f * z f) by omega, show M l (p l) * out (p l) = -(M l f * out f) by omega, Int.mul_neg, Int.neg_mul, Int.mul_left_comm, Int.mul_assoc]
theorem InKer.scale {m n : Nat} {A : Nat → Nat → Int} {z z' : Nat → Int} (h : InKer m n A z) (g : Int) (hg : g ≠ 0) (e : ∀ j, j < n → z j = g * z' j) : InKer m n A z' := fun i hi => by
 have h1 := h i hi
 rw [sm_congr (g := fun j => g * (A i j * z' j)) (fun j hj => by rw [e j hj, Int.mul_left_comm]), zd] at h1
 exact (Int.mul_eq_zero.1 h1).resolve_left hg
theorem InKer.mul {m n : Nat} {A : Nat → Nat → Int} {z : Nat → Int} (h : InKer m n A z) (g : Int) : InKer m n A (fun j => g * z j) := fun i hi => by
 rw [sm_congr (g := fun j => g * (A i j * z j)) (fun j _ => Int.mul_left_comm _ _ _), zd, h i hi, Int.mul_zero]
theorem InKer.congr {m n : Nat} {A : Nat → Nat → Int} {z z' : Nat → Int} (h : InKer m n A z) (e : ∀ j, j < n → z' j = z j) : InKer m n A z' := fun i hi => by
 rw [← h i hi]; exact sm_congr fun j hj => by rw [e j hj]
theorem jy (a b c d : Int) : a * (b * (c * d)) = c * (a * b) * d := by rw [← Int.mul_assoc a b, ← Int.mul_assoc (a * b) c, Int.mul_comm (a * b) c]
theorem twist_pos {m n : Nat} {A B : Nat → Nat → Int} (y : Nat → Int) (hy : ∀ j, j < n → y j * y j = 1) (hAB : ∀ z, InKer m n A z ↔ InKer m n B (fun j => y j * z j)) (L : Nat → Int) (f : Nat) (hf : f < n) (hLf : 0 < L f) (hL : InKer m n B L) (hmul : ∀ u, InKer m n B u → ∀ j, j < n → L f * u j = L j * u f) :
  PosRel m n A ↔ ∀ j, j < n → 0 < y f * (y j * L j) := by
 constructor
 ·
  rintro ⟨z, hz, hzk, _⟩ j hj
  have h1 : L f * (y j * z j) = L j * (y f * z f) := hmul _ ((hAB z).1 hzk) j hj
  have h2 : L f * z j = (y f * (y j * L j)) * z f := by
   have h3 : y j * (L f * (y j * z j)) = y j * (L j * (y f * z f)) := by rw [h1]
   rw [Int.mul_left_comm, ← Int.mul_assoc (y j) (y j), hy j hj, Int.one_mul] at h3
   rw [h3]; exact jy _ _ _ _
  have h3 := Int.mul_pos hLf (hz j hj)
  rw [h2] at h3
  exact Int.pos_of_mul_pos_left h3 (hz f hf)
 ·
  intro hp
  have key : ∀ z', InKer m n A z' → ∀ j, j < n → L f * z' j = (y f * (y j * L j)) * z' f := fun z' hz' j hj => by
   have h1 : L f * (y j * z' j) = L j * (y f * z' f) := hmul _ ((hAB z').1 hz') j hj
   have h3 : y j * (L f * (y j * z' j)) = y j * (L j * (y f * z' f)) := by rw [h1]
   rw [Int.mul_left_comm, ← Int.mul_assoc (y j) (y j), hy j hj, Int.one_mul] at h3
   rw [h3]; exact jy _ _ _ _
  refine ⟨fun j => y f * (y j * L j), hp, (hAB _).2 ((hL.mul (y f)).congr (fun j hj => ?_)), fun z' hz' j hj k hk => ?_⟩
  ·
   rw [Int.mul_left_comm, ← Int.mul_assoc (y j) (y j), hy j hj, Int.one_mul]
  ·
   have h1 := key z' hz' j hj
   have h2 := key z' hz' k hk
   refine Int.eq_of_mul_eq_mul_left (show L f ≠ 0 by omega) ?_
   show L f * ((y f * (y j * L j)) * z' k) = L f * ((y f * (y k * L k)) * z' j)
   rw [Int.mul_left_comm, h2, Int.mul_left_comm (L f), h1, Int.mul_left_comm]
theorem twist_no {m n : Nat} {A B : Nat → Nat → Int} (y : Nat → Int) (hy : ∀ j, j < n → y j * y j = 1) (hAB : ∀ z, InKer m n A z ↔ InKer m n B (fun j => y j * z j)) (h : ¬ NzRel m n B) : ¬ PosRel m n A := by
 rintro ⟨z, hz, hzk, hu⟩
 have hyn : ∀ j, j < n → y j ≠ 0 := fun j hj e => by have := hy j hj; rw [e] at this; exact absurd this (by decide)
 refine h ⟨fun j => y j * z j, fun j hj e => ?_, (hAB z).1 hzk, fun u hu' j hj k hk => ?_⟩
 ·
  rcases Int.mul_eq_zero.1 e with e | e
  ·
   exact hyn j hj e
  ·
   have := hz j hj; omega
 ·
  have hk' : InKer m n A (fun j => y j * u j) := (hAB _).2 (hu'.congr (fun i hi => by rw [← Int.mul_assoc, hy i hi, Int.one_mul]))
  have h1 : z j * (y k * u k) = z k * (y j * u j) := hu _ hk' j hj k hk
  show y j * z j * u k = y k * z k * u j
  have h2 : y j * (y k * (z j * (y k * u k))) = y j * (y k * (z k * (y j * u j))) := by rw [h1]
  have e1 : y j * (y k * (z j * (y k * u k))) = y j * z j * u k := by
   rw [Int.mul_left_comm (y k) (z j), ← Int.mul_assoc (y k) (y k), hy k hk, Int.one_mul, Int.mul_assoc]
  have e2 : y j * (y k * (z k * (y j * u j))) = y k * z k * u j := by
   rw [Int.mul_left_comm (y j) (y k), Int.mul_left_comm (y j) (z k), ← Int.mul_assoc (y j) (y j), hy j hj, Int.one_mul, Int.mul_assoc]
  rw [e1, e2] at h2; exact h2
theorem sign_pick (n : Nat) (hn : 1 ≤ n) (L y : Nat → Int) (hy : ∀ j, j < n → y j = 1 ∨ y j = -1) (f : Nat) (hf : f < n) (hLf : 0 < L f) :
  (∀ j, j < n → 0 < (if L 0 * y 0 < 0 then (-1 : Int) else 1) * L j * y j) ↔ ∀ j, j < n → 0 < y f * (y j * L j) := by
 constructor
 ·
  intro h j hj
  have h1 := h f hf; have h2 := h j hj
  rcases hy f hf with e | e <;> rcases hy j hj with e2 | e2 <;> rw [e] at h1 ⊢ <;> rw [e2] at h2 ⊢ <;> split at h1 <;> split at h2 <;> omega
 ·
  intro h j hj
  have h0 := h 0 (by omega); have h2 := h j hj
  rcases hy f hf with e | e <;> rcases hy j hj with e2 | e2 <;> rcases hy 0 (by omega) with e3 | e3 <;> rw [e, e3] at h0 <;> rw [e, e2] at h2 <;> rw [e2, e3] <;> split <;> omega
theorem PosRel_congr {m n : Nat} {A B : Nat → Nat → Int} (h : ∀ i, i < m → ∀ j, j < n → A i j = B i j) : PosRel m n A ↔ PosRel m n B := by
 have e : ∀ z, InKer m n A z ↔ InKer m n B z := fun z => by
  have hsm : ∀ i, i < m → sm (fun j => A i j * z j) n = sm (fun j => B i j * z j) n := fun i hi => sm_congr fun j hj => by rw [h i hi j hj]
  exact ⟨fun h i hi => (hsm i hi).symm.trans (h i hi), fun h i hi => (hsm i hi).trans (h i hi)⟩
 unfold PosRel
 simp only [e]
end Gz
namespace Gw
theorem qG (l : List Int) (i : Nat) (hi : i < 1000000) (R : Int) : ∀ (N : Nat) (x3 x5 : Int), x5.natAbs ≤ N → (∀ g' : Int, g'.natAbs = Nat.gcd x3.natAbs x5.natAbs → Ev (fun k => impl_divisor.l0 k g' l (l.length : Int) ((i + 1 : Nat) : Int)) R) → Ev (fun k => impl_divisor.l1 k x3 x5 l (l.length : Int) (i : Int)) R := by
 intro N
 induction N with
 | zero =>
  intro x3 x5 h hR
  refine Ev.step (fun k => impl_divisor.l1.eq_2 ..) (evp (by omega) ?_)
  rw [w64s i (by omega)]
  exact hR x3 (by rw [show x5.natAbs = 0 by omega, Nat.gcd_zero_right])
 | succ N ih =>
  intro x3 x5 h hR
  by_cases c : x5 = 0
  ·
   refine Ev.step (fun k => impl_divisor.l1.eq_2 ..) (evp c ?_)
   rw [w64s i (by omega)]
   exact hR x3 (by rw [c, show (0 : Int).natAbs = 0 from rfl, Nat.gcd_zero_right])
  ·
   refine Ev.step (fun k => impl_divisor.l1.eq_2 ..) (evn c ?_)
   have h5 : 0 < x5.natAbs := by omega
   have hm := Nat.mod_lt x3.natAbs h5
   refine ih x5 (Int.tmod x3 x5) (by rw [Int.natAbs_tmod]; omega) (fun g' hg => hR g' ?_)
   rw [hg, Int.natAbs_tmod, Nat.gcd_comm x3.natAbs, Nat.gcd_rec x5.natAbs x3.natAbs, Nat.gcd_comm]
theorem qH (l : List Int) (hl : l.length < 1000000) (hB : ∀ j, j < l.length → (l.getD j 0).natAbs ≤ 9223372036854775800) : ∀ (d i : Nat) (g : Int), i + d = l.length → g.natAbs = Gz.gl (l.take i) → Ev (fun k => impl_divisor.l0 k g l (l.length : Int) (i : Int)) ((Gz.gl l : Nat) : Int) := by
 intro d
 induction d with
 | zero =>
  intro i g hi hg
  have hb := Gz.gl_bd l _ hB i (by omega)
  rw [show i = l.length by omega, List.take_length] at hg
  rw [show i = l.length by omega, List.take_length] at hb
  refine Ev.step (fun k => impl_divisor.l0.eq_2 ..) (evn (by omega) (evs ?_))
  rw [w64 (by omega) (by omega), ← hg]
  unfold mx; split <;> omega
 | succ d ih =>
  intro i g hi hg
  have er : rd l (i : Int) = l.getD i 0 := by show l.getD ((i : Int)).toNat 0 = _; rw [Int.toNat_natCast]
  refine Ev.step (fun k => impl_divisor.l0.eq_2 ..) (evp (by omega) (evp (by omega) (evp (by omega) ?_)))
  rw [er]
  refine qG l i (by omega) _ _ _ _ (Nat.le_refl _) (fun g' hg' => ih (i + 1) g' (by omega) ?_)
  rw [hg', Gz.gl_take l i (by omega), hg]
theorem zV (l : List Int) (hl : l.length < 1000000) (hB : ∀ j, j < l.length → (l.getD j 0).natAbs ≤ 9223372036854775800) : Ev (fun k => impl_divisor.f k l) ((Gz.gl l : Nat) : Int) := by
 unfold impl_divisor.f
 exact qH l hl hB l.length 0 0 (by omega) (by simp [Gz.gl])
def zs (f : Int → Int) (l : List Int) (i : Nat) : List Int := (l.map f).take i ++ l.drop i
theorem zB (f : Int → Int) (l : List Int) (i : Nat) (h : i ≤ l.length) : (zs f l i).length = l.length := by simp [zs]; omega
theorem qw (f : Int → Int) (l : List Int) (i : Nat) (h : i < l.length) : rd (zs f l i) (i : Int) = l.getD i 0 := by
 show (zs f l i).getD ((i : Int)).toNat 0 = _
 rw [Int.toNat_natCast]
 unfold zs
 rw [List.getD_eq_getElem?_getD, List.getElem?_append_right (by simp; omega), List.length_take, List.length_map, Nat.min_eq_left (by omega), Nat.sub_self, List.getElem?_drop, List.getD_eq_getElem?_getD, Nat.add_zero]
theorem zW (f : Int → Int) (l : List Int) (i : Nat) (h : i < l.length) : (zs f l i).set i (f (l.getD i 0)) = zs f l (i + 1) := by
 unfold zs
 rw [List.set_append_right _ _ (by simp; omega), List.length_take, List.length_map, Nat.min_eq_left (by omega), Nat.sub_self, List.drop_eq_getElem_cons h, List.set_cons_zero, List.take_succ_eq_append_getElem (by simpa using h), List.append_assoc]
 simp [List.getD_eq_getElem?_getD, List.getElem?_eq_getElem h]
theorem zX (f : Int → Int) (l : List Int) : zs f l l.length = l.map f := by unfold zs; rw [List.drop_length, List.append_nil, List.take_of_length_le (by simp)]
theorem zY (l : List Int) (g : Nat) (hg : 1 < g) (hl : l.length < 1000000) (hB : ∀ j, j < l.length → (l.getD j 0).natAbs ≤ 9223372036854775800) : ∀ (d i : Nat), i + d = l.length → Ev (fun k => impl_shortened.l0 k (zs (fun x => Int.tdiv x (g : Int)) l i) (g : Int) (l.length : Int) (i : Int)) (l.map (fun x => Int.tdiv x (g : Int))) := by
 intro d
 induction d with
 | zero =>
  intro i hi
  refine Ev.step (fun k => impl_shortened.l0.eq_2 ..) (evn (by omega) (evs ?_))
  rw [show i = l.length by omega, zX]
 | succ d ih =>
  intro i hi
  have hb := hB i (by omega)
  have hq : (Int.tdiv (l.getD i 0) (g : Int)).natAbs ≤ (l.getD i 0).natAbs := by rw [Int.natAbs_tdiv]; exact Nat.div_le_self _ _
  refine Ev.step (fun k => impl_shortened.l0.eq_2 ..) (evp (by omega) (evp (by omega) (evp (by rw [zB _ _ _ (by omega)]; omega) (evn (by omega) ?_))))
  rw [qw _ _ _ (by omega), Int.toNat_natCast, w64 (by omega) (by omega), zW _ _ _ (by omega), w64s i (by omega)]
  exact ih (i + 1) (by omega)
theorem zZ (l : List Int) (hl : l.length < 1000000) (hB : ∀ j, j < l.length → (l.getD j 0).natAbs ≤ 9223372036854775800) : Ev (fun k => impl_shortened.f k l) (Gz.cut l) := by
 unfold impl_shortened.f Gz.cut
 refine evb (zV l hl hB) ?_
 by_cases c : Gz.gl l > 1
 ·
  refine evp (by omega) ?_
  rw [if_pos c]
  exact zY l _ c hl hB l.length 0 (by omega)
 ·
  exact evn (by omega) (evs (by rw [if_neg c]))
theorem zl (R : List (List Int)) (i c : Nat) : rd (R.getD i []) (c : Int) = Gz.mt R i c := by
 show (R.getD i []).getD ((c : Int)).toNat 0 = _
 rw [Int.toNat_natCast]; rfl
theorem zE {m n : Nat} {R : List (List Int)} (h : Gz.Shape m n R) (W : Int) (hW : 0 ≤ W) (hb : ∀ i, i < m → ∀ j, j < n → -W ≤ Gz.mt R i j ∧ Gz.mt R i j ≤ W) (i j : Nat) : -W ≤ Gz.mt R i j ∧ Gz.mt R i j ≤ W := by
 by_cases hi : i < m
 ·
  by_cases hj : j < n
  ·
   exact hb i hi j hj
  ·
   have : Gz.mt R i j = 0 := by unfold Gz.mt; rw [List.getD_eq_getElem?_getD, List.getElem?_eq_none (by rw [h.2 i hi]; omega)]; rfl
   omega
 ·
  have : Gz.mt R i j = 0 := by
   unfold Gz.mt
   rw [show R.getD i [] = [] by rw [List.getD_eq_getElem?_getD, List.getElem?_eq_none (by rw [h.1]; omega)]; rfl]; rfl
  omega
def za (n : Nat) (a b : Int) (x p : List Int) : List Int := (List.range n).map fun j : Nat => a * x.getD j 0 - b * p.getD j 0
theorem qa (n : Nat) (a b : Int) (x p : List Int) (j : Nat) (h : j < n) : (za n a b x p).getD j 0 = a * x.getD j 0 - b * p.getD j 0 := by
 simp [za, List.getD_eq_getElem?_getD, List.getElem?_map, List.getElem?_range h]
theorem qb (n : Nat) (a b : Int) (x p : List Int) (W : Int) (hW : 0 ≤ W ∧ 2 * (W * W) ≤ 9223372036854775800) (ha : -W ≤ a ∧ a ≤ W) (hb : -W ≤ b ∧ b ≤ W) (hx : ∀ j, -W ≤ x.getD j 0 ∧ x.getD j 0 ≤ W) (hp : ∀ j, -W ≤ p.getD j 0 ∧ p.getD j 0 ≤ W) (j : Nat) (hj : j < (za n a b x p).length) : ((za n a b x p).getD j 0).natAbs ≤ 9223372036854775800 := by
 have hj' : j < n := by simpa [za] using hj
 rw [qa n a b x p j hj']
 have h1 := Gz.prod_bd hW.1 hW.1 ha (hx j)
 have h2 := Gz.prod_bd hW.1 hW.1 hb (hp j)
 omega
theorem irow (n : Nat) (a b : Int) (x p : List Int) (hxl : x.length = n) (W : Int) (hW : 0 ≤ W ∧ 2 * (W * W) ≤ 9223372036854775800) (ha : -W ≤ a ∧ a ≤ W) (hb : -W ≤ b ∧ b ≤ W) (hx : ∀ j, -W ≤ x.getD j 0 ∧ x.getD j 0 ≤ W) (hp : ∀ j, -W ≤ p.getD j 0 ∧ p.getD j 0 ≤ W) : impl_reduced.row a b x p = za n a b x p := by
 unfold impl_reduced.row za
 rw [hxl]
 refine List.map_congr_left fun j hj => ?_
 have e1 : rd x (j : Int) = x.getD j 0 := by show x.getD ((j : Int)).toNat 0 = _; rw [Int.toNat_natCast]
 have e2 : rd p (j : Int) = p.getD j 0 := by show p.getD ((j : Int)).toNat 0 = _; rw [Int.toNat_natCast]
 have h1 := Gz.prod_bd hW.1 hW.1 ha (hx j)
 have h2 := Gz.prod_bd hW.1 hW.1 hb (hp j)
 rw [e1, e2, w64 (x := a * x.getD j 0) (by omega) (by omega), w64 (x := b * p.getD j 0) (by omega) (by omega), w64 (by omega) (by omega)]
def qc (n r c : Nat) (R0 : List (List Int)) (k : Nat) (s : List Int) : Prop :=
 Gz.Fair n (fun j => s.getD j 0) ∧ ∃ g : Int, g ≠ 0 ∧ ∀ j, j < n → g * s.getD j 0 = Gz.mt R0 r c * Gz.mt R0 k j - Gz.mt R0 k c * Gz.mt R0 r j
theorem qd (n r c : Nat) (R0 : List (List Int)) (k : Nat) (x p : List Int) (hx : R0.getD k [] = x) (hp : R0.getD r [] = p) : qc n r c R0 k (Gz.cut (za n (Gz.mt R0 r c) (Gz.mt R0 k c) x p)) := by
 have hl : (za n (Gz.mt R0 r c) (Gz.mt R0 k c) x p).length = n := by simp [za]
 have hf := Gz.cut_fair (za n (Gz.mt R0 r c) (Gz.mt R0 k c) x p)
 rw [hl] at hf
 obtain ⟨g, hg, h⟩ := Gz.cut_at (za n (Gz.mt R0 r c) (Gz.mt R0 k c) x p)
 refine ⟨hf, g, by omega, fun j hj => ?_⟩
 rw [← h j, qa n _ _ x p j hj, ← hx, ← hp]
 rfl
theorem kq (m n r c : Nat) (hr : r < m) (hm : m ≤ 1000) (hn : n < 1000000) (R0 : List (List Int)) (h0 : Gz.Shape m n R0) (W : Int) (hW : 0 ≤ W ∧ 2 * (W * W) ≤ 9223372036854775800) (hb : ∀ i j, -W ≤ Gz.mt R0 i j ∧ Gz.mt R0 i j ≤ W) (hf : ∀ i, i < m → Gz.Fair n (Gz.mt R0 i)) (hpc : Gz.mt R0 r c ≠ 0) :
  ∀ d i R, i + d = m → Gz.Shape m n R → (∀ k, k < m → (k = r ∨ i ≤ k) → R.getD k [] = R0.getD k []) → (∀ k, k < i → k ≠ r → qc n r c R0 k (R.getD k [])) →
  ∃ R2, Ev (fun k => impl_reduced.rows k r c i d R) R2 ∧ Gz.Shape m n R2 ∧ R2.getD r [] = R0.getD r [] ∧ ∀ k, k < m → k ≠ r → qc n r c R0 k (R2.getD k []) := by
 intro d
 induction d with
 | zero =>
  intro i R hi hS h1 h2
  refine ⟨R, ?_, hS, h1 r hr (.inl rfl), fun k hk hne => h2 k (by omega) hne⟩
  unfold impl_reduced.rows
  exact evs rfl
 | succ d ih =>
  intro i R hi hS h1 h2
  have hRi := h1 i (by omega) (.inr (Nat.le_refl i))
  have hRr := h1 r hr (.inl rfl)
  unfold impl_reduced.rows
  by_cases c1 : i = r ∨ rd (R.getD i []) (c : Int) = 0
  ·
   obtain ⟨R2, hE, h⟩ := ih (i + 1) R (by omega) hS (fun k hk hor => h1 k hk (hor.imp_right (by omega))) (fun k hk hne => by
    by_cases e : k = i
    ·
     subst e
     have hz : Gz.mt R0 k c = 0 := by
      have := c1.resolve_left hne
      rw [hRi, zl] at this; exact this
     rw [hRi]
     exact ⟨hf k (by omega), Gz.mt R0 r c, hpc, fun j hj => by rw [hz, Int.zero_mul, Int.sub_zero]; rfl⟩
    ·
     exact h2 k (by omega) hne)
   exact ⟨R2, evp c1 hE, h⟩
  ·
   have hne : i ≠ r := fun e => c1 (.inl e)
   have hl : (R0.getD i []).length = n := h0.2 i (by omega)
   have e1 : impl_reduced.row (rd (R.getD r []) (c : Int)) (rd (R.getD i []) (c : Int)) (R.getD i []) (R.getD r []) = za n (Gz.mt R0 r c) (Gz.mt R0 i c) (R0.getD i []) (R0.getD r []) := by
    rw [hRi, hRr, zl, zl]
    exact irow n _ _ _ _ hl W hW (hb r c) (hb i c) (fun j => hb i j) (fun j => hb r j)
   have hs := zZ (za n (Gz.mt R0 r c) (Gz.mt R0 i c) (R0.getD i []) (R0.getD r [])) (by simp [za]; omega) (qb n _ _ _ _ W hW (hb r c) (hb i c) (fun j => hb i j) (fun j => hb r j))
   have hcl : (Gz.cut (za n (Gz.mt R0 r c) (Gz.mt R0 i c) (R0.getD i []) (R0.getD r []))).length = n := by rw [Gz.cut_len]; simp [za]
   have hget := fun k (hk : k < m) => Gz.getD_row R i k (Gz.cut (za n (Gz.mt R0 r c) (Gz.mt R0 i c) (R0.getD i []) (R0.getD r []))) (by rw [hS.1]; exact hk)
   obtain ⟨R2, hE, h⟩ := ih (i + 1) (R.set i (Gz.cut (za n (Gz.mt R0 r c) (Gz.mt R0 i c) (R0.getD i []) (R0.getD r [])))) (by omega) (hS.set i _ hcl) (fun k hk hor => by
    rw [hget k hk, if_neg (by rcases hor with e | e <;> omega)]
    exact h1 k hk (hor.imp_right (by omega))) (fun k hk hkr => by
    rw [hget k (by omega)]
    by_cases e : k = i
    ·
     rw [if_pos e, e]; exact qd n r c R0 i _ _ rfl rfl
    ·
     rw [if_neg e]; exact h2 k (by omega) hkr)
   refine ⟨R2, evn c1 ?_, h⟩
   rw [e1]
   exact evb hs hE
theorem kr (R : List (List Int)) (c : Nat) : ∀ d i, i + d = R.length → i ≤ impl_reduced.find R c i d ∧ impl_reduced.find R c i d ≤ R.length ∧ (∀ k, i ≤ k → k < impl_reduced.find R c i d → Gz.mt R k c = 0) ∧ (impl_reduced.find R c i d < R.length → Gz.mt R (impl_reduced.find R c i d) c ≠ 0) := by
 intro d
 induction d with
 | zero => intro i h; simp only [impl_reduced.find]; exact ⟨Nat.le_refl _, by omega, fun k _ _ => by omega, fun _ => by omega⟩
 | succ d ih =>
  intro i h
  simp only [impl_reduced.find]
  rw [zl]
  by_cases e : Gz.mt R i c = 0
  ·
   rw [if_pos e]
   obtain ⟨h1, h2, h3, h4⟩ := ih (i + 1) (by omega)
   refine ⟨by omega, h2, fun k hk hlt => ?_, h4⟩
   by_cases e2 : k = i
   ·
    rw [e2]; exact e
   ·
    exact h3 k (by omega) hlt
  ·
   rw [if_neg e]
   exact ⟨Nat.le_refl _, by omega, fun k h1 h2 => by omega, fun _ => e⟩
theorem jk (m : Nat) (h : m ≤ 5) : 9 * (((m * 9) ^ m : Nat) : Int) ≤ 1660753125 := by
 have h1 : (m * 9) ^ m ≤ 45 ^ m := Nat.pow_le_pow_left (by omega) m
 have h2 : 45 ^ m ≤ 45 ^ 5 := Nat.pow_le_pow_right (by decide) h
 have h3 : (45 : Nat) ^ 5 = 184528125 := by decide
 omega
theorem jW (R : List (List Int)) (m : Nat) (hm : R.length = m) (r i : Nat) (hr : r < m) (hi : i < m) (k : Nat) (hk : k < m) : (impl_reduced.swp R r i).getD k [] = if k = r then R.getD i [] else if k = i then R.getD r [] else R.getD k [] := by
 unfold impl_reduced.swp
 rw [Gz.getD_row _ i k _ (by rw [List.length_set, hm]; exact hk), Gz.getD_row R r k _ (by rw [hm]; exact hk)]
 by_cases e1 : k = i
 ·
  rw [if_pos e1]
  by_cases e2 : k = r
  ·
   rw [if_pos e2, ← e1, e2]
  ·
   rw [if_neg e2, if_pos e1]
 ·
  rw [if_neg e1]
  by_cases e2 : k = r
  ·
   rw [if_pos e2, if_pos e2]
  ·
   rw [if_neg e2, if_neg e2, if_neg e1]
theorem zF (p : List Int) (c : Nat) (l : Nat) (hl : l < p.length + 1) : Gz.pv (p ++ [(c : Int)]) l = if l = p.length then c else Gz.pv p l := by
 unfold Gz.pv
 by_cases e : l = p.length
 ·
  rw [if_pos e, e]; simp [List.getD_eq_getElem?_getD]
 ·
  rw [if_neg e, List.getD_eq_getElem?_getD, List.getElem?_append_left (by omega), ← List.getD_eq_getElem?_getD]
theorem ks (m n : Nat) (hm : 1 ≤ m ∧ m ≤ 5) (hn : n < 1000000) (A0 : Nat → Nat → Int) : ∀ d c R p A, c + d = n → Gz.Shape m n R → (∀ i, i < m → Gz.Fair n (Gz.mt R i)) → (∀ l, l < p.length → p.getD l 0 = ((Gz.pv p l : Nat) : Int)) → Gz.Gs m n 9 A0 A (Gz.mt R) p.length c (Gz.pv p) →
  ∃ R2 p2 A2, Ev (fun k => impl_reduced.cols k c d R p) (p2, R2) ∧ Gz.Shape m n R2 ∧ (∀ i, i < m → Gz.Fair n (Gz.mt R2 i)) ∧ (∀ l, l < p2.length → p2.getD l 0 = ((Gz.pv p2 l : Nat) : Int)) ∧ Gz.Gs m n 9 A0 A2 (Gz.mt R2) p2.length n (Gz.pv p2) := by
 intro d
 induction d with
 | zero =>
  intro c R p A hc hS hF hp hG
  obtain rfl : c = n := by omega
  refine ⟨R, p, A, ?_, hS, hF, hp, hG⟩
  unfold impl_reduced.cols
  exact evs rfl
 | succ d ih =>
  intro c R p A hc hS hF hp hG
  have hrm := hG.hr
  obtain ⟨f1, f2, f3, f4⟩ := kr R c (R.length - p.length) p.length (by rw [hS.1]; omega)
  unfold impl_reduced.cols
  by_cases c1 : impl_reduced.find R c p.length (R.length - p.length) = R.length
  ·
   rw [c1] at f3
   obtain ⟨R2, p2, A2, hE, h⟩ := ih (c + 1) R p A (by omega) hS hF hp (hG.skip (by omega) (fun i hi hri => f3 i hri (by rw [hS.1]; exact hi)))
   exact ⟨R2, p2, A2, evp c1 hE, h⟩
  ·
   generalize hfd : impl_reduced.find R c p.length (R.length - p.length) = f at f1 f2 f3 f4 c1 ⊢
   have hfm : f < m := by rw [← hS.1]; omega
   have hpf := f4 (by omega)
   have hrm2 : p.length < m := by omega
   have hsw := fun k hk => jW R m hS.1 p.length f hrm2 hfm k hk
   generalize hR1 : impl_reduced.swp R p.length f = R1 at hsw ⊢
   have hS1 : Gz.Shape m n R1 := by
    refine ⟨by rw [← hR1]; unfold impl_reduced.swp; simp only [List.length_set]; exact hS.1, fun k hk => ?_⟩
    rw [hsw k hk]
    split
    ·
     exact hS.2 f hfm
    ·
     split
     ·
      exact hS.2 _ hrm2
     ·
      exact hS.2 k hk
   have hM1 : ∀ k, k < m → Gz.mt R1 k = Gz.swp (Gz.mt R) p.length f k := fun k hk => by
    unfold Gz.swp
    show (fun j => (R1.getD k []).getD j 0) = _
    rw [hsw k hk]
    by_cases e1 : k = p.length
    ·
     rw [if_pos e1, if_pos e1]; rfl
    ·
     rw [if_neg e1, if_neg e1]
     by_cases e2 : k = f
     ·
      rw [if_pos e2, if_pos e2]; rfl
     ·
      rw [if_neg e2, if_neg e2]; rfl
   have hG1 : Gz.Gs m n 9 A0 (Gz.swp A p.length f) (Gz.mt R1) p.length c (Gz.pv p) := (hG.swap f hfm f1).congr (fun k hk j _ => by rw [hM1 k hk]) (fun _ _ => rfl)
   have hF1 : ∀ k, k < m → Gz.Fair n (Gz.mt R1 k) := fun k hk => by
    rw [hM1 k hk]
    unfold Gz.swp
    split
    ·
     exact hF f hfm
    ·
     split
     ·
      exact hF _ hrm2
     ·
      exact hF k hk
   have hpc1 : Gz.mt R1 p.length c ≠ 0 := by
    rw [hM1 _ hrm2]; unfold Gz.swp; rw [if_pos rfl]; exact hpf
   have h5 := jk m hm.2
   have hb1 : ∀ i, i < m → ∀ j, j < n → -1660753125 ≤ Gz.mt R1 i j ∧ Gz.mt R1 i j ≤ 1660753125 := fun i hi j hj => by
    have := hG1.small (by decide) hm.1 i hi (hF1 i hi) j hj
    omega
   have hb1a := zE hS1 1660753125 (by decide) hb1
   have hs := zZ (R1.getD p.length []) (by rw [hS1.2 _ hrm2]; exact hn) (fun j _ => by have := hb1a p.length j; unfold Gz.mt at this; omega)
   obtain ⟨g, hg, hcut⟩ := Gz.cut_at (R1.getD p.length [])
   have hcf := Gz.cut_fair (R1.getD p.length [])
   rw [hS1.2 _ hrm2] at hcf
   have hcl : (Gz.cut (R1.getD p.length [])).length = n := by rw [Gz.cut_len]; exact hS1.2 _ hrm2
   generalize Gz.cut (R1.getD p.length []) = s at hs hcut hcf hcl
   have hS2 := hS1.set p.length s hcl
   have hM2 := fun k hk => Gz.mt_set hS1 p.length s k hk
   have hG2 : Gz.Gs m n 9 A0 (Gz.swp A p.length f) (Gz.mt (R1.set p.length s)) p.length c (Gz.pv p) := by
    refine hG1.scale (fun k => if k = p.length then g else 1) (fun k _ => by split <;> omega) (fun k hk j _ => ?_)
    rw [hM2 k hk]
    by_cases e : k = p.length
    ·
     rw [if_pos e, if_pos e, e]; exact hcut j
    ·
     rw [if_neg e, if_neg e, Int.one_mul]
   have hF2 : ∀ k, k < m → Gz.Fair n (Gz.mt (R1.set p.length s) k) := fun k hk => by
    rw [hM2 k hk]
    split
    ·
     exact hcf
    ·
     exact hF1 k hk
   have hpc2 : Gz.mt (R1.set p.length s) p.length c ≠ 0 := by
    rw [hM2 _ hrm2, if_pos rfl]
    intro e
    apply hpc1
    have := hcut c
    rw [e, Int.mul_zero] at this
    exact this
   have hb2 : ∀ i, i < m → ∀ j, j < n → -1660753125 ≤ Gz.mt (R1.set p.length s) i j ∧ Gz.mt (R1.set p.length s) i j ≤ 1660753125 := fun i hi j hj => by
    have := hG2.small (by decide) hm.1 i hi (hF2 i hi) j hj
    omega
   have hb2a := zE hS2 1660753125 (by decide) hb2
   generalize hRp : R1.set p.length s = Rp at hS2 hM2 hG2 hF2 hpc2 hb2a
   obtain ⟨R2, hE2, hSR, hrr, hdone⟩ := kq m n p.length c hrm2 (by omega) hn Rp hS2 1660753125 (by decide) hb2a hF2 hpc2 m 0 Rp (by omega) hS2 (fun _ _ _ => rfl) (fun k hk => by omega)
   have hMr : ∀ j, j < n → Gz.mt R2 p.length j = Gz.mt Rp p.length j := fun j _ => by unfold Gz.mt; rw [hrr]
   have hgs : ∃ gg : Nat → Int, ∀ k, k < m → k ≠ p.length → gg k ≠ 0 ∧ ∀ j, j < n → gg k * Gz.mt R2 k j = Gz.mt Rp p.length c * Gz.mt Rp k j - Gz.mt Rp k c * Gz.mt Rp p.length j := by
    refine ⟨fun k => if h : k < m ∧ k ≠ p.length then (hdone k h.1 h.2).2.choose else 1, fun k hk hne => ?_⟩
    have e : (if h : k < m ∧ k ≠ p.length then (hdone k h.1 h.2).2.choose else 1) = (hdone k hk hne).2.choose := dif_pos ⟨hk, hne⟩
    show (if h : k < m ∧ k ≠ p.length then (hdone k h.1 h.2).2.choose else 1) ≠ 0 ∧ ∀ j, j < n → (if h : k < m ∧ k ≠ p.length then (hdone k h.1 h.2).2.choose else 1) * Gz.mt R2 k j = _
    rw [e]
    exact (hdone k hk hne).2.choose_spec
   obtain ⟨gg, hgg⟩ := hgs
   have hG3 := hG2.elim (M' := Gz.mt R2) hrm2 (by omega) hpc2 gg (fun k hk hne => (hgg k hk hne).1) (fun k hk hne j hj => (hgg k hk hne).2 j hj) hMr
   have hF3 : ∀ k, k < m → Gz.Fair n (Gz.mt R2 k) := fun k hk => by
    by_cases e : k = p.length
    ·
     subst e; exact (hF2 _ hk).congr hMr
    ·
     exact (hdone k hk e).1
   have hG4 : Gz.Gs m n 9 A0 (Gz.swp A p.length f) (Gz.mt R2) (p ++ [(c : Int)]).length (c + 1) (Gz.pv (p ++ [(c : Int)])) := by
    rw [List.length_append]
    exact hG3.congr (fun _ _ _ _ => rfl) (fun l hl => zF p c l hl)
   obtain ⟨R3, p3, A3, hE3, h⟩ := ih (c + 1) R2 (p ++ [(c : Int)]) _ (by omega) hSR hF3 (fun l hl => by
    rw [zF p c l (by simpa using hl)]
    by_cases e : l = p.length
    ·
     rw [if_pos e, e]; simp [List.getD_eq_getElem?_getD]
    ·
     rw [if_neg e, ← hp l (by simp at hl; omega), List.getD_eq_getElem?_getD, List.getElem?_append_left (by simp at hl; omega), ← List.getD_eq_getElem?_getD]) hG4
   refine ⟨R3, p3, A3, evn c1 (evb hs ?_), h⟩
   rw [hRp, hS.1]
   exact evb hE2 hE3
theorem jl (m n : Nat) (hm : 1 ≤ m ∧ m ≤ 5) (hn : 1 ≤ n ∧ n ≤ 1000) (R : List (List Int)) (hS : Gz.Shape m n R) (hb : ∀ i, i < m → ∀ j, j < n → -9 ≤ Gz.mt R i j ∧ Gz.mt R i j ≤ 9) :
  ∃ R2 p2 A2, Ev (fun k => impl_reduced.f k R (n : Int)) (p2, R2) ∧ Gz.Shape m n R2 ∧ (∀ i, i < m → Gz.Fair n (Gz.mt R2 i)) ∧ (∀ l, l < p2.length → p2.getD l 0 = ((Gz.pv p2 l : Nat) : Int)) ∧ Gz.Gs m n 9 (Gz.mt R) A2 (Gz.mt R2) p2.length n (Gz.pv p2) := by
 obtain ⟨R2, p2, A2, hE, h⟩ := ks m n hm (by omega) (Gz.mt R) n 0 R [] (Gz.mt R) (by omega) hS (fun i hi => Gz.small_fair n _ (hb i hi)) (fun l h => by simp at h) (Gz.Gs.start hb _)
 refine ⟨R2, p2, A2, ?_, h⟩
 unfold impl_reduced.f
 refine evp ⟨by have := hS.1; omega, fun r hr => ?_⟩ (by rw [Int.toNat_natCast]; exact hE)
 obtain ⟨i, hi, rfl⟩ := List.getElem_of_mem hr
 have := hS.2 i (by rw [← hS.1]; exact hi)
 rw [List.getD_eq_getElem?_getD, List.getElem?_eq_getElem hi] at this
 simp only [Option.getD_some] at this
 omega
theorem zf (V : List (List Int)) (i : Nat) : rd_L1 V (i : Int) = V.getD i [] := by
 show V.getD ((i : Int)).toNat [] = _
 rw [Int.toNat_natCast]
theorem zh (l : List Int) (i : Nat) : rd l (i : Int) = l.getD i 0 := by
 show l.getD ((i : Int)).toNat 0 = _
 rw [Int.toNat_natCast]
def col (V : List (List Int)) (i : Nat) : List Int := V.map fun v => v.getD i 0
def trans (V : List (List Int)) (m : Nat) : List (List Int) := (List.range m).map (col V)
theorem jX (V : List (List Int)) (i j : Nat) (h : j < V.length) : (col V i).getD j 0 = Gz.mt V j i := by
 unfold col Gz.mt
 simp [List.getD_eq_getElem?_getD, List.getElem?_map, List.getElem?_eq_getElem h]
theorem zu (V : List (List Int)) (m : Nat) : Gz.Shape m V.length (trans V m) := by
 refine ⟨by simp [trans], fun i hi => ?_⟩
 simp [trans, List.getD_eq_getElem?_getD, List.getElem?_map, List.getElem?_range hi, col]
theorem zC (V : List (List Int)) (m i j : Nat) (hi : i < m) (hj : j < V.length) : Gz.mt (trans V m) i j = Gz.mt V j i := by
 rw [← jX V i j hj]
 unfold Gz.mt trans
 simp [List.getD_eq_getElem?_getD, List.getElem?_map, List.getElem?_range hi]
theorem jY (V : List (List Int)) (m : Nat) (hm : m < 1000) (hV : V.length < 1000) (hS : ∀ i, i < V.length → (V.getD i []).length = m) (X : List (List Int)) (hX : X.length < 1000) (c : Nat) (hc : c < m) (R : List Int × Bool) (hR : Ev (fun k => impl_balance.l0 k V (V.length : Int) (X ++ [col V c]) (m : Int) (((c + 1 : Nat) : Int))) R) :
  ∀ d i, i + d = V.length → Ev (fun k => impl_balance.l1 k V (V.length : Int) X (c : Int) ((col V c).take i) (m : Int) (c : Int) V (V.length : Int) (i : Int)) R := by
 intro d
 induction d with
 | zero =>
  intro i hi
  refine Ev.step (fun k => impl_balance.l1.eq_2 ..) (evn (by omega) (evp (by omega) ?_))
  rw [show i = V.length by omega, w64s c (by omega), List.take_of_length_le (by simp [col])]
  exact hR
 | succ d ih =>
  intro i hi
  refine Ev.step (fun k => impl_balance.l1.eq_2 ..) (evp (by omega) (evp (by omega) (evp (by omega) (evp (by omega) (evp (by rw [zf, hS i (by omega)]; omega) (evp (by rw [List.length_take]; omega) ?_))))))
  rw [zf, zh, w64s i (by omega)]
  have e : (col V c).take i ++ [(V.getD i []).getD c 0] = (col V c).take (i + 1) := by
   rw [List.take_succ_eq_append_getElem (by simp [col]; omega)]
   congr 1
   simp [col, List.getD_eq_getElem?_getD, List.getElem?_eq_getElem (show i < V.length by omega)]
  rw [e]
  exact ih (i + 1) (by omega)
theorem jZ (V : List (List Int)) (m : Nat) (hm : m < 1000) (hV : V.length < 1000) (hS : ∀ i, i < V.length → (V.getD i []).length = m) (R : List Int × Bool) (hR : Ev (fun k => impl_balance.l0 k V (V.length : Int) (trans V m) (m : Int) (m : Int)) R) :
  ∀ d c, c + d = m → Ev (fun k => impl_balance.l0 k V (V.length : Int) ((trans V m).take c) (m : Int) (c : Int)) R := by
 intro d
 induction d with
 | zero =>
  intro c hc
  obtain rfl : c = m := by omega
  rw [List.take_of_length_le (by simp [trans])]
  exact hR
 | succ d ih =>
  intro c hc
  refine Ev.step (fun k => impl_balance.l0.eq_2 ..) (evp (by omega) ?_)
  have e : (trans V m).take c ++ [col V c] = (trans V m).take (c + 1) := by
   rw [List.take_succ_eq_append_getElem (by simp [trans]; omega)]
   congr 1
   simp [trans]
  have h := ih (c + 1) (by omega)
  rw [← e] at h
  have h2 := jY V m hm hV hS ((trans V m).take c) (by rw [List.length_take]; omega) c (by omega) R h V.length 0 (by omega)
  rw [List.take_zero] at h2
  exact h2
theorem ka (O : List Int) (hO : O.length < 1000) : ∀ d i, i + d = O.length → ∃ r, Ev (fun k => impl_balance.l5 k O O (O.length : Int) (i : Int)) r ∧ (r.2 = true ↔ ∀ j, i ≤ j → j < O.length → 0 < O.getD j 0) := by
 intro d
 induction d with
 | zero =>
  intro i hi
  exact ⟨(O, true), Ev.step (fun k => impl_balance.l5.eq_2 ..) (evn (by omega) (evs rfl)), by simp; intro j h1 h2; omega⟩
 | succ d ih =>
  intro i hi
  by_cases c : O.getD i 0 ≤ 0
  ·
   refine ⟨([], false), Ev.step (fun k => impl_balance.l5.eq_2 ..) (evp (by omega) (evp (by omega) (evp (by omega) (evp (by rw [zh]; exact c) (evs rfl))))), ?_⟩
   constructor
   ·
    intro h; cases h
   ·
    intro h; have := h i (Nat.le_refl _) (by omega); omega
  ·
   obtain ⟨r, hr, h⟩ := ih (i + 1) (by omega)
   refine ⟨r, Ev.step (fun k => impl_balance.l5.eq_2 ..) (evp (by omega) (evp (by omega) (evp (by omega) (evn (by rw [zh]; exact c) ?_)))), ?_⟩
   ·
    rw [w64s i (by omega)]; exact hr
   ·
    rw [h]
    constructor
    ·
     intro h j h1 h2
     by_cases e : j = i
     ·
      rw [e]; omega
     ·
      exact h j (by omega) h2
    ·
     intro h j h1 h2; exact h j (by omega) h2
theorem kb (n : Nat) (hn : n < 1000) (R2 : List (List Int)) (p : List Int) (hpl : p.length + 1 = n) (hp : ∀ l, l < p.length → p.getD l 0 = ((Gz.pv p l : Nat) : Int)) (Q : List Int × Bool → Prop) (hQ : ∀ f, f ≤ p.length → (∀ l, l < f → Gz.pv p l = l) → (f < p.length → Gz.pv p f ≠ f) → ∃ r, Ev (fun k => impl_balance.j3 k (n : Int) R2 p (f : Int)) r ∧ Q r) :
  ∀ d i, i + d = p.length → (∀ l, l < i → Gz.pv p l = l) → ∃ r, Ev (fun k => impl_balance.l2 k (n : Int) R2 p ((p.length : Nat) : Int) p (p.length : Int) (i : Int)) r ∧ Q r := by
 intro d
 induction d with
 | zero =>
  intro i hi h
  obtain ⟨r, hr, hq⟩ := hQ i (by omega) h (fun h => by omega)
  refine ⟨r, Ev.step (fun k => impl_balance.l2.eq_2 ..) (evn (by omega) ?_), hq⟩
  rw [show p.length = i by omega]; exact hr
 | succ d ih =>
  intro i hi h
  by_cases c : Gz.pv p i = i
  ·
   obtain ⟨r, hr, hq⟩ := ih (i + 1) (by omega) (fun l hl => by
    by_cases e : l = i
    ·
     rw [e]; exact c
    ·
     exact h l (by omega))
   refine ⟨r, Ev.step (fun k => impl_balance.l2.eq_2 ..) (evp (by omega) (evp (by omega) (evp (by omega) (evp (by rw [zh, hp i (by omega), c]) ?_)))), hq⟩
   rw [w64s i (by omega)]; exact hr
  ·
   obtain ⟨r, hr, hq⟩ := hQ i (by omega) h (fun _ => c)
   exact ⟨r, Ev.step (fun k => impl_balance.l2.eq_2 ..) (evp (by omega) (evp (by omega) (evp (by omega) (evn (by rw [zh, hp i (by omega)]; omega) hr)))), hq⟩
theorem jz (n r : Nat) (hn : n ≤ 6) (hr : r ≤ 5) : (((n * 9) ^ r : Nat) : Int) ≤ 459165024 := by
 have h1 : (n * 9) ^ r ≤ 54 ^ r := Nat.pow_le_pow_left (by omega) r
 have h2 : 54 ^ r ≤ 54 ^ 5 := Nat.pow_le_pow_right (by decide) hr
 have h3 : (54 : Nat) ^ 5 = 459165024 := by decide
 omega
theorem zi {a : Int} {w : Nat} {B : Nat} (h : (w : Int) ∣ a) (h0 : a ≠ 0) (hB : a.natAbs ≤ B) : w ≤ B := by
 have := Int.natAbs_dvd_natAbs.2 h
 rw [Int.natAbs_natCast] at this
 exact Nat.le_trans (Nat.le_of_dvd (by omega) this) hB
theorem qe (w : Nat) (a : Int) (hw : 1 ≤ w) (ha : a ≠ 0) : w / Nat.gcd w a.natAbs * a.natAbs = Nat.lcm w a.natAbs := by
 unfold Nat.lcm
 rw [Nat.mul_comm w, Nat.mul_div_assoc _ (Nat.gcd_dvd_left _ _), Nat.mul_comm]
theorem kc (a : Int) (h : -9223372036854775807 ≤ a ∧ a ≤ 9223372036854775807) : mx a (wrap64 (-a)) = (a.natAbs : Int) := by
 rw [w64 (by omega) (by omega)]; unfold mx; split <;> omega
structure Fin (m n : Nat) (A0 A2 : Nat → Nat → Int) (R2 : List (List Int)) (p : List Int) (f : Nat) (z : Nat → Int) : Prop where
 hm : 1 ≤ m ∧ m ≤ 5
 hn : n ≤ 6
 S : Gz.Shape m n R2
 F : ∀ i, i < m → Gz.Fair n (Gz.mt R2 i)
 P : ∀ l, l < p.length → p.getD l 0 = ((Gz.pv p l : Nat) : Int)
 G : Gz.Gs m n 9 A0 A2 (Gz.mt R2) p.length n (Gz.pv p)
 hr : p.length + 1 = n
 fr : Gz.Free n p.length (Gz.pv p) f
 z0 : z f ≠ 0
 zb : ∀ j, -459165024 ≤ z j ∧ z j ≤ 459165024
 zr : ∀ l, l < p.length → Gz.mt R2 l (Gz.pv p l) * z (Gz.pv p l) + Gz.mt R2 l f * z f = 0
section
variable {m n : Nat} {A0 A2 : Nat → Nat → Int} {R2 : List (List Int)} {p : List Int} {f : Nat} {z : Nat → Int}
theorem Fin.fn (h : Fin m n A0 A2 R2 p f z) : f < n := by have := h.fr.1; have := h.hr; omega
theorem Fin.pn (h : Fin m n A0 A2 R2 p f z) (l : Nat) (hl : l < p.length) : Gz.pv p l < n := h.G.ps l hl
theorem Fin.rm (h : Fin m n A0 A2 R2 p f z) : p.length ≤ m := h.G.hr
theorem Fin.bd (h : Fin m n A0 A2 R2 p f z) (i j : Nat) : -1660753125 ≤ Gz.mt R2 i j ∧ Gz.mt R2 i j ≤ 1660753125 :=
 zE h.S 1660753125 (by decide) (fun i hi j hj => by
  have := h.G.small (by decide) h.hm.1 i hi (h.F i hi) j hj
  have := jk m h.hm.2
  omega) i j
theorem Fin.ne (h : Fin m n A0 A2 R2 p f z) (l : Nat) (hl : l < p.length) : Gz.pv p l ≠ f := by
 rcases Nat.lt_or_ge l f with c | c
 ·
  rw [h.fr.2.1 l c]; omega
 ·
  rw [h.fr.2.2 l c hl]; omega
theorem Fin.inj (h : Fin m n A0 A2 R2 p f z) (k l : Nat) (hk : k < p.length) (hl : l < p.length) (hne : k ≠ l) : Gz.pv p k ≠ Gz.pv p l := by
 rcases Nat.lt_or_ge k l with c | c
 ·
  have := h.G.asc k l c hl; omega
 ·
  have := h.G.asc l k (by omega) hk; omega
theorem Fin.big (h : Fin m n A0 A2 R2 p f z) : (2520 * z f).natAbs ≤ 1157095860480 ∧ 2520 * z f ≠ 0 := by
 have := h.zb f; have := h.z0; omega
theorem Fin.out (h : Fin m n A0 A2 R2 p f z) (w : Nat) (hw : (w : Int) ∣ 2520 * z f) (l : Nat) (hl : l < p.length) (hd : Gz.mt R2 l (Gz.pv p l) ∣ (w : Int)) :
  (-(Gz.mt R2 l f) * Int.tdiv (w : Int) (Gz.mt R2 l (Gz.pv p l))).natAbs ≤ 1157095860480 ∧ Gz.mt R2 l (Gz.pv p l) * (-(Gz.mt R2 l f) * Int.tdiv (w : Int) (Gz.mt R2 l (Gz.pv p l))) + Gz.mt R2 l f * (w : Int) = 0 := by
 have ha := h.G.diag l hl
 have hz := h.zr l hl
 have hq : Gz.mt R2 l (Gz.pv p l) * Int.tdiv (w : Int) (Gz.mt R2 l (Gz.pv p l)) = (w : Int) := Int.mul_tdiv_cancel' hd
 generalize Int.tdiv (w : Int) (Gz.mt R2 l (Gz.pv p l)) = q at hq ⊢
 generalize Gz.mt R2 l (Gz.pv p l) = a at *
 generalize Gz.mt R2 l f = b at *
 have hzb := h.zb (Gz.pv p l)
 generalize z (Gz.pv p l) = y at *
 have h0 := h.z0
 obtain ⟨t, ht⟩ := hw
 refine ⟨?_, ?_⟩
 ·
  have e1 : (-b * q) * z f = (w : Int) * y := by
   rw [← hq, Int.mul_assoc, Int.neg_mul, Int.mul_left_comm b q, Int.mul_right_comm a q y, show a * y = -(b * z f) by omega, Int.neg_mul, Int.mul_comm q]
  have e2 : (-b * q) * t = 2520 * y := by
   refine Int.eq_of_mul_eq_mul_right h0 ?_
   rw [Int.mul_right_comm, e1, Int.mul_right_comm, ← ht]
   rw [Int.mul_right_comm]
  have ht0 : t ≠ 0 := fun e => by rw [e, Int.mul_zero] at ht; omega
  have e3 : (-b * q).natAbs * t.natAbs = (2520 * y).natAbs := by rw [← Int.natAbs_mul, e2]
  have : (-b * q).natAbs * 1 ≤ (-b * q).natAbs * t.natAbs := Nat.mul_le_mul_left _ (by omega)
  omega
 ·
  rw [← hq, Int.mul_left_comm, Int.neg_mul, Int.mul_left_comm b]; omega
theorem kd (h : Fin m n A0 A2 R2 p f z) (Q : List Int × Bool → Prop)
  (hQ : ∀ w : Nat, 1 ≤ w → (w : Int) ∣ 2520 * z f → (∀ k, k < p.length → Gz.mt R2 k (Gz.pv p k) ∣ (w : Int)) → ∃ r, Ev (fun k => impl_balance.l4 k R2 (f : Int) ((List.replicate n 0).set f (w : Int)) (w : Int) p (p.length : Int) 0) r ∧ Q r) :
  ∀ d l (w : Nat), l + d = p.length → 1 ≤ w → (w : Int) ∣ 2520 * z f → (∀ k, k < l → Gz.mt R2 k (Gz.pv p k) ∣ (w : Int)) → ∃ r, Ev (fun k => impl_balance.l3 k R2 p (f : Int) (List.replicate n 0) (w : Int) p (p.length : Int) (l : Int)) r ∧ Q r := by
 have hfn := h.fn
 have hn := h.hn
 have hrm := h.rm
 have hm5 := h.hm
 intro d
 induction d with
 | zero =>
  intro l w hl h1 h2 h3
  obtain ⟨r, hr, hq⟩ := hQ w h1 h2 (fun k hk => h3 k (by omega))
  refine ⟨r, Ev.step (fun k => impl_balance.l3.eq_2 ..) (evn (by omega) (evp (by omega) (evp (by simp; omega) ?_))), hq⟩
  rw [Int.toNat_natCast]; exact hr
 | succ d ih =>
  intro l w hl h1 h2 h3
  have hlr : l < p.length := by omega
  have hpn := h.pn l hlr
  have ha := h.G.diag l hlr
  have hab := h.bd l (Gz.pv p l)
  have hbig := h.big
  have hwb := zi h2 hbig.2 hbig.1
  have hlen : (R2.getD l []).length = n := h.S.2 l (by omega)
  have hent : rd (R2.getD l []) ((Gz.pv p l : Nat) : Int) = Gz.mt R2 l (Gz.pv p l) := zl R2 l _
  generalize hav : Gz.mt R2 l (Gz.pv p l) = a at ha hab hent
  have hdv : Ev (fun k => impl_divisor.f k [(w : Int), a]) ((Nat.gcd w a.natAbs : Nat) : Int) := by
   refine evr (zV _ (by simp) (fun j hj => ?_)) ?_
   ·
    rcases j with _ | _ | j
    ·
     simp; omega
    ·
     simp; omega
    ·
     simp at hj; omega
   ·
    simp [Gz.gl]
  have hg1 : 1 ≤ Nat.gcd w a.natAbs := Nat.gcd_pos_of_pos_left _ h1
  have hda : a ∣ 2520 * z f := by rw [← hav]; exact h.G.pivot_dvd h.hr h.fr (fun l hl => h.F l (by omega)) z h.zr l hlr
  have hlcm : ((Nat.lcm w a.natAbs : Nat) : Int) ∣ 2520 * z f := by
   rw [← Int.dvd_natAbs]
   refine Int.natCast_dvd_natCast.2 (Nat.lcm_dvd ?_ ?_)
   ·
    have := Int.natAbs_dvd_natAbs.2 h2; rwa [Int.natAbs_natCast] at this
   ·
    exact Int.natAbs_dvd_natAbs.2 hda
  have hlb := zi hlcm hbig.2 hbig.1
  have hl1 : 1 ≤ Nat.lcm w a.natAbs := Nat.lcm_pos h1 (by omega)
  obtain ⟨r, hr, hq⟩ := ih (l + 1) (Nat.lcm w a.natAbs) (by omega) hl1 hlcm (fun k hk => by
   by_cases e : k = l
   ·
    subst e
    rw [hav]
    exact Int.dvd_trans (Int.dvd_natAbs.2 (Int.dvd_refl a)) (Int.natCast_dvd_natCast.2 (Nat.dvd_lcm_right _ _))
   ·
    exact Int.dvd_trans (h3 k (by omega)) (Int.natCast_dvd_natCast.2 (Nat.dvd_lcm_left _ _)))
  refine ⟨r, Ev.step (fun k => impl_balance.l3.eq_2 ..) (evp (by omega) (evp (by omega) (evp (by omega) (evp (by rw [h.S.1]; omega) ?_)))), hq⟩
  rw [zh, h.P l hlr, zf, hent]
  refine evp (by omega) (evp (by rw [hlen]; omega) (evb hdv (evn (by omega) ?_)))
  rw [kc a (by omega), show Int.tdiv (w : Int) ((Nat.gcd w a.natAbs : Nat) : Int) = ((w / Nat.gcd w a.natAbs : Nat) : Int) from rfl]
  have hdl : w / Nat.gcd w a.natAbs ≤ w := Nat.div_le_self _ _
  have hls := qe w a h1 ha
  generalize w / Nat.gcd w a.natAbs = qn at hdl hls ⊢
  rw [w64 (x := (qn : Int)) (by omega) (by omega), ← Int.natCast_mul, hls, w64 (by omega) (by omega), w64s l (by omega)]
  exact hr
theorem ke (h : Fin m n A0 A2 R2 p f z) (w : Nat) (hw1 : 1 ≤ w) (hw2 : (w : Int) ∣ 2520 * z f) (hw3 : ∀ k, k < p.length → Gz.mt R2 k (Gz.pv p k) ∣ (w : Int)) (Q : List Int × Bool → Prop)
  (hQ : ∀ L : List Int, L.length = n → L.getD f 0 = (w : Int) → (∀ k, k < p.length → Gz.mt R2 k (Gz.pv p k) * L.getD (Gz.pv p k) 0 + Gz.mt R2 k f * (w : Int) = 0) → (∀ j, (L.getD j 0).natAbs ≤ 1157095860480) → ∃ r, Ev (fun k => (impl_shortened.f k L).bind fun t => impl_balance.l5 k t t (L.length : Int) 0) r ∧ Q r) :
  ∀ d l (L : List Int), l + d = p.length → L.length = n → L.getD f 0 = (w : Int) → (∀ k, k < l → Gz.mt R2 k (Gz.pv p k) * L.getD (Gz.pv p k) 0 + Gz.mt R2 k f * (w : Int) = 0) → (∀ j, (L.getD j 0).natAbs ≤ 1157095860480) → ∃ r, Ev (fun k => impl_balance.l4 k R2 (f : Int) L (w : Int) p (p.length : Int) (l : Int)) r ∧ Q r := by
 have hfn := h.fn
 have hn := h.hn
 have hrm := h.rm
 have hbig := h.big
 have hwb := zi hw2 hbig.2 hbig.1
 have hm5 := h.hm
 intro d
 induction d with
 | zero =>
  intro l L hl h1 h2 h3 h4
  obtain ⟨r, hr, hq⟩ := hQ L h1 h2 (fun k hk => h3 k (by omega)) h4
  exact ⟨r, Ev.step (fun k => impl_balance.l4.eq_2 ..) (evn (by omega) hr), hq⟩
 | succ d ih =>
  intro l L hl h1 h2 h3 h4
  have hlr : l < p.length := by omega
  have hpn := h.pn l hlr
  have ha := h.G.diag l hlr
  have hfb := h.bd l f
  have hlen : (R2.getD l []).length = n := h.S.2 l (by omega)
  have hent : rd (R2.getD l []) ((Gz.pv p l : Nat) : Int) = Gz.mt R2 l (Gz.pv p l) := zl R2 l _
  have hentf : rd (R2.getD l []) (f : Int) = Gz.mt R2 l f := zl R2 l _
  obtain ⟨o1, o2⟩ := h.out w hw2 l hlr (hw3 l hlr)
  have hq1 : (Int.tdiv (w : Int) (Gz.mt R2 l (Gz.pv p l))).natAbs ≤ w := by rw [Int.natAbs_tdiv]; exact Nat.div_le_self _ _
  have hget : ∀ j (v : Int), (L.set (Gz.pv p l) v).getD j 0 = if j = Gz.pv p l then v else L.getD j 0 := fun j v => by
   by_cases e : j = Gz.pv p l
   ·
    rw [if_pos e, e, List.getD_eq_getElem?_getD, List.getElem?_set_self (by omega)]; rfl
   ·
    rw [if_neg e, List.getD_eq_getElem?_getD, List.getElem?_set_ne (fun h => e h.symm), ← List.getD_eq_getElem?_getD]
  obtain ⟨r, hr, hq⟩ := ih (l + 1) (L.set (Gz.pv p l) (-(Gz.mt R2 l f) * Int.tdiv (w : Int) (Gz.mt R2 l (Gz.pv p l)))) (by omega) (by rw [List.length_set]; exact h1) (by rw [hget, if_neg (h.ne l hlr).symm]; exact h2) (fun k hk => by
   rw [hget]
   by_cases e : k = l
   ·
    subst e; rw [if_pos rfl]; exact o2
   ·
    rw [if_neg (h.inj k l (by omega) hlr e)]; exact h3 k (by omega)) (fun j => by
   rw [hget]
   split
   ·
    exact o1
   ·
    exact h4 j)
  refine ⟨r, Ev.step (fun k => impl_balance.l4.eq_2 ..) (evp (by omega) (evp (by omega) (evp (by omega) (evp (by rw [h.S.1]; omega) (evp (by omega) ?_))))), hq⟩
  rw [zh, h.P l hlr, zf, hent, hentf]
  refine evp (by rw [hlen]; omega) (evp (by omega) (evp (by rw [hlen]; omega) (evn ha (evp (by omega) ?_))))
  rw [Int.toNat_natCast, w64 (x := -(Gz.mt R2 l f)) (by omega) (by omega), w64 (x := Int.tdiv (w : Int) (Gz.mt R2 l (Gz.pv p l))) (by omega) (by omega), w64 (by omega) (by omega), w64s l (by omega)]
  exact hr
end
theorem jm (V : List (List Int)) (m : Nat) (hm : 1 ≤ m ∧ m ≤ 5) (hn : 1 ≤ V.length ∧ V.length ≤ 6) (hS : ∀ i, i < V.length → (V.getD i []).length = m) (hb : ∀ i, i < V.length → ∀ j, j < m → -9 ≤ Gz.mt V i j ∧ Gz.mt V i j ≤ 9) :
  ∃ r, Ev (fun k => impl_balance.f k V) r ∧ (r.2 = true ↔ Gz.PosRel m V.length (fun i j => Gz.mt V j i)) := by
 have hT := zu V m
 obtain ⟨R2, p, A2, hE, hS2, hF, hP, hG⟩ := jl m V.length hm (by omega) (trans V m) hT (fun i hi j hj => by rw [zC V m i j hi hj]; exact hb j hj i hi)
 have hPR : Gz.PosRel m V.length (Gz.mt (trans V m)) ↔ Gz.PosRel m V.length (fun i j => Gz.mt V j i) := by
  have e : ∀ z, Gz.InKer m V.length (Gz.mt (trans V m)) z ↔ Gz.InKer m V.length (fun i j => Gz.mt V j i) z := fun z => by
   have hsm : ∀ i, i < m → Gz.sm (fun j => Gz.mt (trans V m) i j * z j) V.length = Gz.sm (fun j => Gz.mt V j i * z j) V.length := fun i hi => Gz.sm_congr fun j hj => by rw [zC V m i j hi hj]
   exact ⟨fun h i hi => (hsm i hi).symm.trans (h i hi), fun h i hi => (hsm i hi).trans (h i hi)⟩
  unfold Gz.PosRel
  simp only [e]
 rw [← hPR]
 have hfin : ∃ r, Ev (fun k => impl_balance.l0 k V (V.length : Int) (trans V m) (m : Int) (m : Int)) r ∧ (r.2 = true ↔ Gz.PosRel m V.length (Gz.mt (trans V m))) := by
  have hw : wrap64 ((V.length : Int) - 1) = ((V.length - 1 : Nat) : Int) := by unfold wrap64; omega
  by_cases c : p.length + 1 = V.length
  ·
   have key := kb V.length (by omega) R2 p c hP (fun r => r.2 = true ↔ Gz.PosRel m V.length (Gz.mt (trans V m))) (fun f hf h1 h2 => by
    have hfr := hG.free_at c f hf h1 h2
    obtain ⟨z, z0, zb, zr⟩ := hG.tame (by decide) c hfr
    have h54 := jz V.length p.length hn.2 (by have := hG.hr; omega)
    have hF5 : Fin m V.length (Gz.mt (trans V m)) A2 R2 p f z := ⟨hm, hn.2, hS2, hF, hP, hG, c, hfr, z0, fun j => by have := zb j; omega, zr⟩
    obtain ⟨r, hr, hq⟩ := kd hF5 (fun r => r.2 = true ↔ Gz.PosRel m V.length (Gz.mt (trans V m))) (fun w w1 w2 w3 => by
     have hfn := hF5.fn
     have hb2 := hF5.big
     have hwb := zi w2 hb2.2 hb2.1
     have hzero : ∀ j, ((List.replicate V.length (0 : Int)).set f (w : Int)).getD j 0 = if j = f then (w : Int) else 0 := fun j => by
      by_cases e : j = f
      ·
       rw [if_pos e, e, List.getD_eq_getElem?_getD, List.getElem?_set_self (by simp; omega)]; rfl
      ·
       rw [if_neg e, List.getD_eq_getElem?_getD, List.getElem?_set_ne (fun h => e h.symm), List.getElem?_replicate]
       split <;> rfl
     exact ke hF5 w w1 w2 w3 _ (fun L l1 l2 l3 l4 => by
      have hs := zZ L (by omega) (fun j _ => by have := l4 j; omega)
      obtain ⟨g, hg, hcut⟩ := Gz.cut_at L
      have hcl := Gz.cut_len L
      obtain ⟨r, hr, hiff⟩ := ka (Gz.cut L) (by omega) (Gz.cut L).length 0 (by omega)
      rw [hcl] at hr
      refine ⟨r, evb hs hr, ?_⟩
      rw [hiff, hG.posrel c hfr (fun j => L.getD j 0) (by rw [l2]; omega) (fun l hl => by rw [l2]; exact l3 l hl), hcl, l1]
      constructor
      ·
       intro h j hj
       have := h j (Nat.zero_le _) hj
       show 0 < L.getD j 0
       rw [hcut j]; exact Int.mul_pos (by omega) this
      ·
       intro h j _ hj
       have := h j hj
       rw [hcut j] at this
       exact Classical.byContradiction fun hn0 => by
        have := Int.mul_nonpos_of_nonneg_of_nonpos (show 0 ≤ g by omega) (show (Gz.cut L).getD j 0 ≤ 0 by omega)
        omega) p.length 0 _ (by omega) (by simp) (by rw [hzero, if_pos rfl]) (fun k hk => by omega) (fun j => by rw [hzero]; split <;> omega)) p.length 0 1 (by omega) (Nat.le_refl _) (Int.one_dvd _) (fun k hk => by omega)
    refine ⟨r, Ev.step (fun k => impl_balance.j3.eq_2 ..) (evp (by omega) (evp (by omega) ?_)), hq⟩
    rw [Int.toNat_natCast]; exact hr) p.length 0 (by omega) (fun l hl => by omega)
   obtain ⟨r, hr, hq⟩ := key
   refine ⟨r, Ev.step (fun k => impl_balance.l0.eq_2 ..) (evn (by omega) (evb hE (evp ?_ ?_))), hq⟩
   ·
    simp only; rw [hw]; omega
   ·
    simp only; rw [hw, show V.length - 1 = p.length by omega]; exact hr
  ·
   refine ⟨([], false), Ev.step (fun k => impl_balance.l0.eq_2 ..) (evn (by omega) (evb hE (evn ?_ (evs rfl)))), ?_⟩
   ·
    simp only; rw [hw]; omega
   ·
    constructor
    ·
     intro h; cases h
    ·
     intro h; exact absurd h (hG.norel hn.1 c)
 obtain ⟨r, hr, hq⟩ := hfin
 refine ⟨r, ?_, hq⟩
 unfold impl_balance.f
 refine evp (by omega) ?_
 rw [show rd_L1 V 0 = V.getD 0 [] from zf V 0, hS 0 (by omega)]
 have := jZ V m (by omega) (by omega) hS r hr m 0 (by omega)
 rw [List.take_zero] at this
 exact this
theorem qq {α β : Type} (f : α → List β) (B : Nat) : ∀ L : List α, (∀ x ∈ L, (f x).length ≤ B) → (L.flatMap f).length ≤ L.length * B := by
 intro L
 induction L with
 | nil => intro _; simp
 | cons x L ih =>
  intro h
  rw [List.flatMap_cons, List.length_append, List.length_cons, Nat.add_mul, Nat.one_mul]
  have := h x (by simp); have := ih (fun y hy => h y (by simp [hy])); omega
theorem zK (n : Nat) : ∀ r i, (cmbs n r i).length ≤ n ^ r := by
 intro r
 induction r with
 | zero => intro i; simp [cmbs]
 | succ r ih =>
  intro i
  simp only [cmbs]
  have h := qq (fun j => (cmbs n r (j + 1)).map fun c => (j : Int) :: c) (n ^ r) (List.range' i (n - i)) (fun x _ => by simpa using ih (x + 1))
  rw [List.length_range'] at h
  rw [Nat.pow_succ]
  exact Nat.le_trans h (Nat.le_trans (Nat.mul_le_mul_right _ (Nat.sub_le _ _)) (by rw [Nat.mul_comm]; exact Nat.le_refl _))
theorem zx (n : Nat) : ∀ r i, n < r + i → cmbs n r i = [] ∨ r = 0 := by
 intro r
 induction r with
 | zero => intro i _; exact .inr rfl
 | succ r ih =>
  intro i h
  left
  simp only [cmbs]
  rw [List.flatMap_eq_nil_iff]
  intro j hj
  have hj := List.mem_range'_1.1 hj
  rw [List.map_eq_nil_iff]
  rcases ih (j + 1) (by omega) with e | e
  ·
   exact e
  ·
   subst e; omega
theorem qf (n : Nat) : ∀ r i, ∀ s ∈ cmbs n r i, ∀ x ∈ s, ∃ q : Nat, x = (q : Int) ∧ q < n := by
 intro r
 induction r with
 | zero => intro i s hs x hx; simp [cmbs] at hs; subst hs; simp at hx
 | succ r ih =>
  intro i s hs x hx
  simp only [cmbs, List.mem_flatMap, List.mem_map] at hs
  obtain ⟨j, hj, c, hc, rfl⟩ := hs
  have hj := List.mem_range'_1.1 hj
  rcases List.mem_cons.1 hx with rfl | h
  ·
   exact ⟨j, rfl, by omega⟩
  ·
   exact ih _ c hc x h
structure Smp (P : List (List Int)) (L : List Int) (d : Nat) : Prop where
 hd : 1 ≤ d ∧ d ≤ 4
 hn : P.length ≤ 16
 hl : L.length = P.length
 rows : ∀ i, i < P.length → (P.getD i []).length = d ∧ ∀ t, t < d → -9 ≤ (P.getD i []).getD t 0 ∧ (P.getD i []).getD t 0 ≤ 9
 lab : ∀ i, i < P.length → L.getD i 0 = 1 ∨ L.getD i 0 = -1
def sA (P : List (List Int)) (L : List Int) (s : List Int) : Nat → Nat → Int := fun i j => if i = 0 then L.getD (s.getD j 0).toNat 0 else (P.getD (s.getD j 0).toNat []).getD (i - 1) 0 * L.getD (s.getD j 0).toNat 0
def zI (P : List (List Int)) (L : List Int) (d : Nat) (s : List Int) : Prop := Gz.PosRel (d + 1) s.length (sA P L s)
noncomputable def prB (P : List (List Int)) (L : List Int) (d : Nat) (s : List Int) : Bool := @decide (zI P L d s) (Classical.propDecidable _)
theorem qx (P : List (List Int)) (L : List Int) (d : Nat) (s : List Int) : prB P L d s = true ↔ zI P L d s := by unfold prB; exact @decide_eq_true_iff _ (Classical.propDecidable _)
theorem qy {b : Bool} {P : List (List Int)} {L : List Int} {d : Nat} {s : List Int} (h : b = true ↔ zI P L d s) : b = prB P L d s := by
 rw [Bool.eq_iff_iff, h, qx]
def sv (P : List (List Int)) (L : List Int) (q : Nat) : List Int := L.getD q 0 :: (P.getD q []).map fun x => x * L.getD q 0
theorem qz {x y : Int} (hx : -9 ≤ x ∧ x ≤ 9) (hy : y = 1 ∨ y = -1) : -9 ≤ x * y ∧ x * y ≤ 9 := by rcases hy with rfl | rfl <;> omega
theorem qI {P : List (List Int)} {L : List Int} {d : Nat} (h : Smp P L d) (q : Nat) (hq : q < P.length) : ∀ e i, i + e = d → Ev (fun k => impl_Sample_signed.l0 k (q : Int) (L.getD q 0 :: ((P.getD q []).map fun x => x * L.getD q 0).take i) (P.getD q []) ((P.getD q []).length : Int) (i : Int) P L) (sv P L q) := by
 obtain ⟨hr, hb⟩ := h.rows q hq
 have hd := h.hd
 have hl := h.hl
 have hlab := h.lab q hq
 unfold sv
 generalize P.getD q [] = row at *
 intro e
 induction e with
 | zero =>
  intro i hi
  refine Ev.step (fun k => impl_Sample_signed.l0.eq_2 ..) (evn (by omega) (evs ?_))
  rw [List.take_of_length_le (by rw [List.length_map]; omega)]
 | succ e ih =>
  intro i hi
  have hx := qz (hb i (by omega)) hlab
  refine Ev.step (fun k => impl_Sample_signed.l0.eq_2 ..) (evp (by omega) (evp (by omega) (evp (by omega) (evp (by omega) (evp (by omega) (evp (by rw [List.length_cons, List.length_take, List.length_map]; omega) ?_))))))
  rw [zh, zh, w64 (by omega) (by omega), w64s i (by omega)]
  have e1 : (L.getD q 0 :: (row.map fun x => x * L.getD q 0).take i) ++ [row.getD i 0 * L.getD q 0] = L.getD q 0 :: (row.map fun x => x * L.getD q 0).take (i + 1) := by
   rw [List.cons_append, List.take_succ_eq_append_getElem (by rw [List.length_map]; omega), List.getElem_map]
   congr 3
   rw [List.getD_eq_getElem?_getD, List.getElem?_eq_getElem (show i < row.length by omega)]; rfl
  rw [e1]; exact ih (i + 1) (by omega)
theorem jH {P : List (List Int)} {L : List Int} {d : Nat} (h : Smp P L d) (q : Nat) (hq : q < P.length) : Ev (fun k => impl_Sample_signed.f k P L (q : Int)) (sv P L q) := by
 have hl := h.hl
 unfold impl_Sample_signed.f
 refine evp (by omega) (evp (by omega) (evp (by omega) ?_))
 rw [zh, zf]
 have := qI h q hq d 0 (by omega)
 rw [List.take_zero] at this
 exact this
theorem jI {P : List (List Int)} {L : List Int} {d : Nat} (h : Smp P L d) : ∀ s : List Int, (∀ x ∈ s, ∃ q : Nat, x = (q : Int) ∧ q < P.length) → Ev (fun k => impl_Sample_canPart.rows k P L s) (s.map fun x => sv P L x.toNat) := by
 intro s
 induction s with
 | nil => intro _; exact evs rfl
 | cons x s ih =>
  intro hs
  obtain ⟨q, rfl, hq⟩ := hs x (by simp)
  exact evb (jH h q hq) (evb (ih fun y hy => hs y (by simp [hy])) (evs (by simp)))
theorem kt (P : List (List Int)) (L : List Int) (s : List Int) (i j : Nat) (hj : j < s.length) (hi : i = 0 ∨ i - 1 < (P.getD (s.getD j 0).toNat []).length) : Gz.mt (s.map fun x => sv P L x.toNat) j i = sA P L s i j := by
 unfold Gz.mt sA
 have e : (s.map fun x => sv P L x.toNat).getD j [] = sv P L (s.getD j 0).toNat := by simp [List.getD_eq_getElem?_getD, List.getElem?_map, List.getElem?_eq_getElem hj]
 rw [e]
 unfold sv
 cases i with
 | zero => simp
 | succ i =>
  have hi : i < (P.getD (s.getD j 0).toNat []).length := by simpa using hi
  rw [if_neg (by omega), List.getD_cons_succ, Nat.add_sub_cancel]
  generalize P.getD (s.getD j 0).toNat [] = row at *
  generalize L.getD (s.getD j 0).toNat 0 = y at *
  simp [List.getD_eq_getElem?_getD, List.getElem?_map, List.getElem?_eq_getElem hi]
theorem zy (s : List Int) (j : Nat) (hj : j < s.length) : s.getD j 0 ∈ s := by
 rw [List.getD_eq_getElem?_getD, List.getElem?_eq_getElem hj]; exact List.getElem_mem hj
theorem ku {P : List (List Int)} {L : List Int} {d : Nat} (h : Smp P L d) (s : List Int) (hs : ∀ x ∈ s, ∃ q : Nat, x = (q : Int) ∧ q < P.length) (i j : Nat) (hi : i < d + 1) (hj : j < s.length) : -9 ≤ sA P L s i j ∧ sA P L s i j ≤ 9 := by
 obtain ⟨q, e, hq⟩ := hs _ (zy s j hj)
 unfold sA
 rw [e, Int.toNat_natCast]
 split
 ·
  rcases h.lab q hq with e | e <;> omega
 ·
  exact qz ((h.rows q hq).2 (i - 1) (by omega)) (h.lab q hq)
theorem iOne {P : List (List Int)} {L : List Int} {d : Nat} (h : Smp P L d) (s : List Int) (hs : ∀ x ∈ s, ∃ q : Nat, x = (q : Int) ∧ q < P.length) (hl : 1 ≤ s.length ∧ s.length ≤ 6) : Ev (fun k => impl_Sample_canPart.one k P L s) (prB P L d s) := by
 have hd := h.hd
 have hrow : ∀ j, j < s.length → (P.getD (s.getD j 0).toNat []).length = d := fun j hj => by
  obtain ⟨q, e, hq⟩ := hs _ (zy s j hj)
  rw [e, Int.toNat_natCast]; exact (h.rows q hq).1
 have hat : ∀ j, j < s.length → ∀ i, i < d + 1 → Gz.mt (s.map fun x => sv P L x.toNat) j i = sA P L s i j := fun j hj i hi => kt P L s i j hj (by rw [hrow j hj]; omega)
 obtain ⟨r, hr, hiff⟩ := jm (s.map fun x => sv P L x.toNat) (d + 1) (by omega) (by simpa using hl) (fun i hi => by
  have hi : i < s.length := by simpa using hi
  have e : (s.map fun x => sv P L x.toNat).getD i [] = sv P L (s.getD i 0).toNat := by simp [List.getD_eq_getElem?_getD, List.getElem?_map, List.getElem?_eq_getElem hi]
  rw [e]; unfold sv; simp only [List.length_cons, List.length_map]; rw [hrow i hi]) (fun j hj i hi => by
  have hj : j < s.length := by simpa using hj
  rw [hat j hj i hi]; exact ku h s hs i j hi hj)
 have hP : Gz.PosRel (d + 1) (s.map fun x => sv P L x.toNat).length (fun i j => Gz.mt (s.map fun x => sv P L x.toNat) j i) ↔ zI P L d s := by
  unfold zI
  rw [List.length_map]
  exact Gz.PosRel_congr (fun i hi j hj => hat j hj i hi)
 have hb := qy (hiff.trans hP)
 have hcp : impl_copied.f s = some s := by
  unfold impl_copied.f
  simp only [Option.bind_some, List.nil_append, List.length_nil, Nat.zero_add]
  rw [if_pos (by omega)]
 unfold impl_Sample_canPart.one
 exact evb (jI h s hs) (evb hr (evb (evc hcp) (evs hb)))
theorem kf (P : List (List Int)) (L : List Int) (d : Nat) : ∀ S : List (List Int), (∀ s ∈ S, Ev (fun k => impl_Sample_canPart.one k P L s) (prB P L d s)) → ∃ k0, ∀ k, k0 ≤ k → ∀ s ∈ S, impl_Sample_canPart.one k P L s = some (prB P L d s) := by
 intro S
 induction S with
 | nil => intro _; exact ⟨0, fun _ _ s hs => by simp at hs⟩
 | cons s S ih =>
  intro h
  obtain ⟨a, ha⟩ := h s (by simp)
  obtain ⟨b, hb⟩ := ih fun t ht => h t (by simp [ht])
  refine ⟨max a b, fun k hk t ht => ?_⟩
  rcases List.mem_cons.1 ht with rfl | ht
  ·
   exact ha k (by omega)
  ·
   exact hb k (by omega) t ht
noncomputable def canV (P : List (List Int)) (L : List Int) (d : Nat) : Bool := !((List.range' 2 (d + 1)).flatMap fun r => cmbs P.length r 0).any (prB P L d)
theorem qX (n d : Nat) (p : List Int → Bool) : ((List.range' 2 (min n (d + 2) - 1)).flatMap fun r => cmbs n r 0).any p = ((List.range' 2 (d + 1)).flatMap fun r => cmbs n r 0).any p := by
 rcases Nat.lt_or_ge n (d + 2) with h | h
 ·
  have e : List.range' 2 (d + 1) = List.range' 2 (min n (d + 2) - 1) ++ List.range' (2 + (min n (d + 2) - 1)) (d + 1 - (min n (d + 2) - 1)) := by
   have := List.range'_append_1 (s := 2) (m := min n (d + 2) - 1) (n := d + 1 - (min n (d + 2) - 1))
   rw [show min n (d + 2) - 1 + (d + 1 - (min n (d + 2) - 1)) = d + 1 by omega] at this
   exact this.symm
  rw [e, List.flatMap_append, List.any_append]
  have h0 : ((List.range' (2 + (min n (d + 2) - 1)) (d + 1 - (min n (d + 2) - 1))).flatMap fun r => cmbs n r 0) = [] := by
   rw [List.flatMap_eq_nil_iff]
   intro r hr
   have hr := List.mem_range'_1.1 hr
   exact (zx n r 0 (by omega)).resolve_right (by omega)
  rw [h0]; simp
 ·
  rw [show min n (d + 2) - 1 = d + 1 by omega]
theorem iCanPart {P : List (List Int)} {L : List Int} {d : Nat} (h : Smp P L d) : Ev (fun k => impl_Sample_canPart.f k P L) (canV P L d) := by
 have hd := h.hd
 have hn := h.hn
 by_cases h0 : P.length = 0
 ·
  refine ⟨0, fun k _ => ?_⟩
  show impl_Sample_canPart.f k P L = some (canV P L d)
  unfold impl_Sample_canPart.f canV
  rw [if_pos h0]
  have e : ((List.range' 2 (d + 1)).flatMap fun r => cmbs P.length r 0) = [] := by
   rw [List.flatMap_eq_nil_iff]
   intro r hr
   have hr := List.mem_range'_1.1 hr
   exact (zx P.length r 0 (by omega)).resolve_right (by omega)
  rw [e]; rfl
 ·
  have hr0 : (rd_L1 P 0).length = d := by rw [show rd_L1 P 0 = P.getD 0 [] from zf P 0]; exact (h.rows 0 (by omega)).1
  obtain ⟨k0, hk⟩ := kf P L d (impl_Sample_canPart.sets P.length (impl_Sample_canPart.most P.length d)) (fun s hs => by
   obtain ⟨r, hr, hs⟩ := List.mem_flatMap.1 hs
   have hr := List.mem_range'_1.1 hr
   have hM : impl_Sample_canPart.most P.length d = min P.length (d + 2) := rfl
   have hln := cmbs_len P.length r 0 s hs
   exact iOne h s (qf _ r 0 s hs) (by omega))
  refine ⟨k0, fun k hk0 => ?_⟩
  have hkk := hk k hk0
  show impl_Sample_canPart.f k P L = some (canV P L d)
  unfold impl_Sample_canPart.f
  rw [if_neg h0, hr0, if_pos ⟨by omega, by omega, fun s hs => by rw [hkk s hs]; rfl⟩]
  unfold canV
  congr 2
  rw [← qX]
  show (impl_Sample_canPart.sets P.length (impl_Sample_canPart.most P.length d)).any _ = (impl_Sample_canPart.sets P.length (impl_Sample_canPart.most P.length d)).any _
  rw [Bool.eq_iff_iff, List.any_eq_true, List.any_eq_true]
  constructor
  ·
   rintro ⟨s, hs, hp⟩
   refine ⟨s, hs, ?_⟩
   unfold impl_Sample_canPart.p at hp
   rw [hkk s hs] at hp; exact hp
  ·
   rintro ⟨s, hs, hp⟩
   refine ⟨s, hs, ?_⟩
   unfold impl_Sample_canPart.p
   rw [hkk s hs]; exact hp
end Gw
namespace Gw
theorem kv (a b : Int) : spec_l1Most.f a b = some (if a > b then a else b) := by unfold spec_l1Most.f; split <;> rfl
theorem qg (a : Int) (h : -9223372036854775807 ≤ a ∧ a ≤ 9223372036854775807) : spec_l1Most.f a (wrap64 (-a)) = some (a.natAbs : Int) := by
 rw [w64 (by omega) (by omega), kv]; congr 1; split <;> omega
theorem qJ (l : List Int) (h : l.length < 17592186044416) : spec_l1Own.f l = some l := by
 unfold spec_l1Own.f
 simp only [Option.bind_some, List.nil_append, List.length_nil, Nat.zero_add]
 rw [if_pos h]
theorem jJ : ∀ (N a b : Nat), b ≤ N → Ev (fun k => spec_l2Gcd.l0 k (a : Int) (b : Int)) ((Nat.gcd a b : Nat) : Int) := by
 intro N
 induction N with
 | zero =>
  intro a b h
  exact Ev.step (fun k => spec_l2Gcd.l0.eq_2 ..) (evn (by omega) (evs (by rw [show b = 0 by omega, Nat.gcd_zero_right])))
 | succ N ih =>
  intro a b h
  by_cases c : b = 0
  ·
   exact Ev.step (fun k => spec_l2Gcd.l0.eq_2 ..) (evn (by omega) (evs (by rw [c, Nat.gcd_zero_right])))
  ·
   refine Ev.step (fun k => spec_l2Gcd.l0.eq_2 ..) (evp (by omega) (evn (by omega) ?_))
   rw [show Int.tmod (a : Int) (b : Int) = ((a % b : Nat) : Int) from rfl]
   have hm := Nat.mod_lt a (show 0 < b by omega)
   refine evr (ih b (a % b) (by omega)) ?_
   rw [Nat.gcd_comm a b, Nat.gcd_rec b a, Nat.gcd_comm b]
theorem sGcd (a b : Nat) : Ev (fun k => spec_l2Gcd.f k (a : Int) (b : Int)) ((Nat.gcd a b : Nat) : Int) := by
 unfold spec_l2Gcd.f; exact jJ b a b (Nat.le_refl b)
theorem qK (l : List Int) (g : Nat) (hg : 1 < g) (hl : l.length < 1000000) (hB : ∀ j, j < l.length → (l.getD j 0).natAbs ≤ 9223372036854775800) : ∀ (d i : Nat), i + d = l.length → Ev (fun k => spec_l4Divided.l1 k (g : Int) (zs (fun x => Int.tdiv x (g : Int)) l i) (i : Int)) (l.map (fun x => Int.tdiv x (g : Int))) := by
 intro d
 induction d with
 | zero =>
  intro i hi
  refine Ev.step (fun k => spec_l4Divided.l1.eq_2 ..) (evn (by rw [zB _ _ _ (by omega)]; omega) (evs ?_))
  rw [show i = l.length by omega, zX]
 | succ d ih =>
  intro i hi
  have hb := hB i (by omega)
  have hq : (Int.tdiv (l.getD i 0) (g : Int)).natAbs ≤ (l.getD i 0).natAbs := by rw [Int.natAbs_tdiv]; exact Nat.div_le_self _ _
  refine Ev.step (fun k => spec_l4Divided.l1.eq_2 ..) (evp (by rw [zB _ _ _ (by omega)]; omega) (evp (by omega) (evp (by omega) (evn (by omega) ?_))))
  rw [qw _ _ _ (by omega), Int.toNat_natCast, w64 (by omega) (by omega), zW _ _ _ (by omega), w64s i (by omega)]
  exact ih (i + 1) (by omega)
theorem qL (l : List Int) (hl : l.length < 1000000) (hB : ∀ j, j < l.length → (l.getD j 0).natAbs ≤ 9223372036854775800) : ∀ (d i : Nat), i + d = l.length → Ev (fun k => spec_l4Divided.l0 k l ((Gz.gl (l.take i) : Nat) : Int) (i : Int)) (Gz.cut l) := by
 intro d
 induction d with
 | zero =>
  intro i hi
  rw [show i = l.length by omega, List.take_length]
  refine Ev.step (fun k => spec_l4Divided.l0.eq_2 ..) (evn (by omega) (evb (evc (qJ l (by omega))) ?_))
  unfold Gz.cut
  by_cases c : Gz.gl l > 1
  ·
   rw [if_pos c]
   exact qK l _ c hl hB l.length 0 (by omega)
  ·
   rw [if_neg c]
   by_cases c2 : l.length = 0
   ·
    exact Ev.step (fun k => spec_l4Divided.l1.eq_2 ..) (evn (by omega) (evs rfl))
   ·
    exact Ev.step (fun k => spec_l4Divided.l1.eq_2 ..) (evp (by omega) (evn (by omega) (evs rfl)))
 | succ d ih =>
  intro i hi
  have hb := hB i (by omega)
  have hn := ih (i + 1) (by omega)
  rw [Gz.gl_take l i (by omega)] at hn
  refine Ev.step (fun k => spec_l4Divided.l0.eq_2 ..) (evp (by omega) (evp (by omega) ?_))
  rw [zh, w64s i (by omega)]
  by_cases c : l.getD i 0 = 0
  ·
   refine evp c ?_
   rw [c, show (0 : Int).natAbs = 0 from rfl, Nat.gcd_zero_right] at hn
   exact hn
  ·
   refine evn c (evb (evc (qg _ (by omega))) (evb (sGcd _ _) ?_))
   rw [Nat.gcd_comm]; exact hn
theorem qh (l : List Int) (hl : l.length < 1000000) (hB : ∀ j, j < l.length → (l.getD j 0).natAbs ≤ 9223372036854775800) : Ev (fun k => spec_l4Divided.f k l) (Gz.cut l) := by
 unfold spec_l4Divided.f
 exact qL l hl hB l.length 0 (by omega)
theorem jn (V : List (List Int)) (hV : V.length < 1000000) (hr : ∀ i, i < V.length → (V.getD i []).length < 1000000) : ∀ d i, i + d = V.length → Ev (fun k => spec_l2Rows.l0 k V (V.take i) (i : Int)) V := by
 intro d
 induction d with
 | zero =>
  intro i hi
  exact Ev.step (fun k => spec_l2Rows.l0.eq_2 ..) (evn (by omega) (evs (by rw [show i = V.length by omega, List.take_length])))
 | succ d ih =>
  intro i hi
  refine Ev.step (fun k => spec_l2Rows.l0.eq_2 ..) (evp (by omega) (evp (by omega) ?_))
  rw [zf, w64s i (by omega)]
  refine evb (evc (qJ _ (by have := hr i (by omega); omega))) (evp (by rw [List.length_take]; omega) ?_)
  have e : V.take i ++ [V.getD i []] = V.take (i + 1) := by
   rw [List.take_succ_eq_append_getElem (by omega)]
   simp [List.getD_eq_getElem?_getD, List.getElem?_eq_getElem (show i < V.length by omega)]
  rw [e]; exact ih (i + 1) (by omega)
theorem kw (V : List (List Int)) (hV : V.length < 1000000) (hr : ∀ i, i < V.length → (V.getD i []).length < 1000000) : Ev (fun k => spec_l2Rows.f k V) V := by
 unfold spec_l2Rows.f
 have := jn V hV hr V.length 0 (by omega)
 rw [List.take_zero] at this; exact this
theorem srow (n : Nat) (a b : Int) (x p : List Int) (hxl : x.length = n) (W : Int) (hW : 0 ≤ W ∧ 2 * (W * W) ≤ 9223372036854775800) (ha : -W ≤ a ∧ a ≤ W) (hb : -W ≤ b ∧ b ≤ W) (hx : ∀ j, -W ≤ x.getD j 0 ∧ x.getD j 0 ≤ W) (hp : ∀ j, -W ≤ p.getD j 0 ∧ p.getD j 0 ≤ W) : spec_l4Reduced.row a b x p = za n a b x p := by
 unfold spec_l4Reduced.row za
 rw [hxl]
 refine List.map_congr_left fun j hj => ?_
 have e1 : rd x (j : Int) = x.getD j 0 := by show x.getD ((j : Int)).toNat 0 = _; rw [Int.toNat_natCast]
 have e2 : rd p (j : Int) = p.getD j 0 := by show p.getD ((j : Int)).toNat 0 = _; rw [Int.toNat_natCast]
 have h1 := Gz.prod_bd hW.1 hW.1 ha (hx j)
 have h2 := Gz.prod_bd hW.1 hW.1 hb (hp j)
 rw [e1, e2, Int.mul_comm (x.getD j 0) a, Int.mul_comm (p.getD j 0) b, w64 (x := a * x.getD j 0) (by omega) (by omega), w64 (x := b * p.getD j 0) (by omega) (by omega), w64 (by omega) (by omega)]
theorem kx (m n r c : Nat) (hr : r < m) (hm : m ≤ 1000) (hn : n < 1000000) (R0 : List (List Int)) (h0 : Gz.Shape m n R0) (W : Int) (hW : 0 ≤ W ∧ 2 * (W * W) ≤ 9223372036854775800) (hb : ∀ i j, -W ≤ Gz.mt R0 i j ∧ Gz.mt R0 i j ≤ W) (hf : ∀ i, i < m → Gz.Fair n (Gz.mt R0 i)) (hpc : Gz.mt R0 r c ≠ 0) :
  ∀ d i R, i + d = m → Gz.Shape m n R → (∀ k, k < m → (k = r ∨ i ≤ k) → R.getD k [] = R0.getD k []) → (∀ k, k < i → k ≠ r → qc n r c R0 k (R.getD k [])) →
  ∃ R2, Ev (fun k => spec_l4Reduced.rows k r c i d R) R2 ∧ Gz.Shape m n R2 ∧ R2.getD r [] = R0.getD r [] ∧ ∀ k, k < m → k ≠ r → qc n r c R0 k (R2.getD k []) := by
 intro d
 induction d with
 | zero =>
  intro i R hi hS h1 h2
  refine ⟨R, ?_, hS, h1 r hr (.inl rfl), fun k hk hne => h2 k (by omega) hne⟩
  unfold spec_l4Reduced.rows
  exact evs rfl
 | succ d ih =>
  intro i R hi hS h1 h2
  have hRi := h1 i (by omega) (.inr (Nat.le_refl i))
  have hRr := h1 r hr (.inl rfl)
  unfold spec_l4Reduced.rows
  by_cases c1 : i = r ∨ rd (R.getD i []) (c : Int) = 0
  ·
   obtain ⟨R2, hE, h⟩ := ih (i + 1) R (by omega) hS (fun k hk hor => h1 k hk (hor.imp_right (by omega))) (fun k hk hne => by
    by_cases e : k = i
    ·
     subst e
     have hz : Gz.mt R0 k c = 0 := by
      have := c1.resolve_left hne
      rw [hRi, zl] at this; exact this
     rw [hRi]
     exact ⟨hf k (by omega), Gz.mt R0 r c, hpc, fun j hj => by rw [hz, Int.zero_mul, Int.sub_zero]; rfl⟩
    ·
     exact h2 k (by omega) hne)
   exact ⟨R2, evp c1 hE, h⟩
  ·
   have hne : i ≠ r := fun e => c1 (.inl e)
   have hl : (R0.getD i []).length = n := h0.2 i (by omega)
   have e1 : spec_l4Reduced.row (rd (R.getD r []) (c : Int)) (rd (R.getD i []) (c : Int)) (R.getD i []) (R.getD r []) = za n (Gz.mt R0 r c) (Gz.mt R0 i c) (R0.getD i []) (R0.getD r []) := by
    rw [hRi, hRr, zl, zl]
    exact srow n _ _ _ _ hl W hW (hb r c) (hb i c) (fun j => hb i j) (fun j => hb r j)
   have hs := qh (za n (Gz.mt R0 r c) (Gz.mt R0 i c) (R0.getD i []) (R0.getD r [])) (by simp [za]; omega) (qb n _ _ _ _ W hW (hb r c) (hb i c) (fun j => hb i j) (fun j => hb r j))
   have hcl : (Gz.cut (za n (Gz.mt R0 r c) (Gz.mt R0 i c) (R0.getD i []) (R0.getD r []))).length = n := by rw [Gz.cut_len]; simp [za]
   have hget := fun k (hk : k < m) => Gz.getD_row R i k (Gz.cut (za n (Gz.mt R0 r c) (Gz.mt R0 i c) (R0.getD i []) (R0.getD r []))) (by rw [hS.1]; exact hk)
   obtain ⟨R2, hE, h⟩ := ih (i + 1) (R.set i (Gz.cut (za n (Gz.mt R0 r c) (Gz.mt R0 i c) (R0.getD i []) (R0.getD r [])))) (by omega) (hS.set i _ hcl) (fun k hk hor => by
    rw [hget k hk, if_neg (by rcases hor with e | e <;> omega)]
    exact h1 k hk (hor.imp_right (by omega))) (fun k hk hkr => by
    rw [hget k (by omega)]
    by_cases e : k = i
    ·
     rw [if_pos e, e]; exact qd n r c R0 i _ _ rfl rfl
    ·
     rw [if_neg e]; exact h2 k (by omega) hkr)
   refine ⟨R2, evn c1 ?_, h⟩
   rw [e1]
   exact evb hs (evp (by rw [hcl, hRi, hl]) hE)
theorem ky (R : List (List Int)) (c : Nat) : ∀ d i, i + d = R.length → i ≤ spec_l4Reduced.find R c i d ∧ spec_l4Reduced.find R c i d ≤ R.length ∧ (∀ k, i ≤ k → k < spec_l4Reduced.find R c i d → Gz.mt R k c = 0) ∧ (spec_l4Reduced.find R c i d < R.length → Gz.mt R (spec_l4Reduced.find R c i d) c ≠ 0) := by
 intro d
 induction d with
 | zero => intro i h; simp only [spec_l4Reduced.find]; exact ⟨Nat.le_refl _, by omega, fun k _ _ => by omega, fun _ => by omega⟩
 | succ d ih =>
  intro i h
  simp only [spec_l4Reduced.find]
  rw [zl]
  by_cases e : Gz.mt R i c = 0
  ·
   rw [if_pos e]
   obtain ⟨h1, h2, h3, h4⟩ := ih (i + 1) (by omega)
   refine ⟨by omega, h2, fun k hk hlt => ?_, h4⟩
   by_cases e2 : k = i
   ·
    rw [e2]; exact e
   ·
    exact h3 k (by omega) hlt
  ·
   rw [if_neg e]
   exact ⟨Nat.le_refl _, by omega, fun k h1 h2 => by omega, fun _ => e⟩
theorem jK (R : List (List Int)) (m : Nat) (hm : R.length = m) (r i : Nat) (hr : r < m) (hi : i < m) (k : Nat) (hk : k < m) : (spec_l4Reduced.swp R r i).getD k [] = if k = r then R.getD i [] else if k = i then R.getD r [] else R.getD k [] := by
 unfold spec_l4Reduced.swp
 rw [Gz.getD_row _ r k _ (by rw [List.length_set, hm]; exact hk), Gz.getD_row R i k _ (by rw [hm]; exact hk)]
theorem kz (m n : Nat) (hm : 1 ≤ m ∧ m ≤ 5) (hn : n < 1000000) (A0 : Nat → Nat → Int) : ∀ d c R p A, c + d = n → Gz.Shape m n R → (∀ i, i < m → Gz.Fair n (Gz.mt R i)) → (∀ l, l < p.length → p.getD l 0 = ((Gz.pv p l : Nat) : Int)) → Gz.Gs m n 9 A0 A (Gz.mt R) p.length c (Gz.pv p) →
  ∃ R2 p2 A2, Ev (fun k => spec_l4Reduced.cols k c d R p) (R2, p2) ∧ Gz.Shape m n R2 ∧ (∀ i, i < m → Gz.Fair n (Gz.mt R2 i)) ∧ (∀ l, l < p2.length → p2.getD l 0 = ((Gz.pv p2 l : Nat) : Int)) ∧ Gz.Gs m n 9 A0 A2 (Gz.mt R2) p2.length n (Gz.pv p2) := by
 intro d
 induction d with
 | zero =>
  intro c R p A hc hS hF hp hG
  obtain rfl : c = n := by omega
  refine ⟨R, p, A, ?_, hS, hF, hp, hG⟩
  unfold spec_l4Reduced.cols
  exact evs rfl
 | succ d ih =>
  intro c R p A hc hS hF hp hG
  have hrm := hG.hr
  obtain ⟨f1, f2, f3, f4⟩ := ky R c (R.length - p.length) p.length (by rw [hS.1]; omega)
  unfold spec_l4Reduced.cols
  by_cases c1 : spec_l4Reduced.find R c p.length (R.length - p.length) = R.length
  ·
   rw [c1] at f3
   obtain ⟨R2, p2, A2, hE, h⟩ := ih (c + 1) R p A (by omega) hS hF hp (hG.skip (by omega) (fun i hi hri => f3 i hri (by rw [hS.1]; exact hi)))
   exact ⟨R2, p2, A2, evp c1 hE, h⟩
  ·
   generalize hfd : spec_l4Reduced.find R c p.length (R.length - p.length) = f at f1 f2 f3 f4 c1 ⊢
   have hfm : f < m := by rw [← hS.1]; omega
   have hpf := f4 (by omega)
   have hrm2 : p.length < m := by omega
   have hsw := fun k hk => jK R m hS.1 p.length f hrm2 hfm k hk
   generalize hR1 : spec_l4Reduced.swp R p.length f = R1 at hsw ⊢
   have hS1 : Gz.Shape m n R1 := by
    refine ⟨by rw [← hR1]; unfold spec_l4Reduced.swp; simp only [List.length_set]; exact hS.1, fun k hk => ?_⟩
    rw [hsw k hk]
    split
    ·
     exact hS.2 f hfm
    ·
     split
     ·
      exact hS.2 _ hrm2
     ·
      exact hS.2 k hk
   have hM1 : ∀ k, k < m → Gz.mt R1 k = Gz.swp (Gz.mt R) p.length f k := fun k hk => by
    unfold Gz.swp
    show (fun j => (R1.getD k []).getD j 0) = _
    rw [hsw k hk]
    by_cases e1 : k = p.length
    ·
     rw [if_pos e1, if_pos e1]; rfl
    ·
     rw [if_neg e1, if_neg e1]
     by_cases e2 : k = f
     ·
      rw [if_pos e2, if_pos e2]; rfl
     ·
      rw [if_neg e2, if_neg e2]; rfl
   have hG1 : Gz.Gs m n 9 A0 (Gz.swp A p.length f) (Gz.mt R1) p.length c (Gz.pv p) := (hG.swap f hfm f1).congr (fun k hk j _ => by rw [hM1 k hk]) (fun _ _ => rfl)
   have hF1 : ∀ k, k < m → Gz.Fair n (Gz.mt R1 k) := fun k hk => by
    rw [hM1 k hk]
    unfold Gz.swp
    split
    ·
     exact hF f hfm
    ·
     split
     ·
      exact hF _ hrm2
     ·
      exact hF k hk
   have hpc1 : Gz.mt R1 p.length c ≠ 0 := by
    rw [hM1 _ hrm2]; unfold Gz.swp; rw [if_pos rfl]; exact hpf
   have h5 := jk m hm.2
   have hb1 : ∀ i, i < m → ∀ j, j < n → -1660753125 ≤ Gz.mt R1 i j ∧ Gz.mt R1 i j ≤ 1660753125 := fun i hi j hj => by
    have := hG1.small (by decide) hm.1 i hi (hF1 i hi) j hj
    omega
   have hb1a := zE hS1 1660753125 (by decide) hb1
   have hS2 := hS1
   have hG2 := hG1
   have hF2 := hF1
   have hpc2 := hpc1
   have hb2a := hb1a
   generalize hRp : R1 = Rp at hS2 hG2 hF2 hpc2 hb2a
   obtain ⟨R2, hE2, hSR, hrr, hdone⟩ := kx m n p.length c hrm2 (by omega) hn Rp hS2 1660753125 (by decide) hb2a hF2 hpc2 m 0 Rp (by omega) hS2 (fun _ _ _ => rfl) (fun k hk => by omega)
   have hMr : ∀ j, j < n → Gz.mt R2 p.length j = Gz.mt Rp p.length j := fun j _ => by unfold Gz.mt; rw [hrr]
   have hgs : ∃ gg : Nat → Int, ∀ k, k < m → k ≠ p.length → gg k ≠ 0 ∧ ∀ j, j < n → gg k * Gz.mt R2 k j = Gz.mt Rp p.length c * Gz.mt Rp k j - Gz.mt Rp k c * Gz.mt Rp p.length j := by
    refine ⟨fun k => if h : k < m ∧ k ≠ p.length then (hdone k h.1 h.2).2.choose else 1, fun k hk hne => ?_⟩
    have e : (if h : k < m ∧ k ≠ p.length then (hdone k h.1 h.2).2.choose else 1) = (hdone k hk hne).2.choose := dif_pos ⟨hk, hne⟩
    show (if h : k < m ∧ k ≠ p.length then (hdone k h.1 h.2).2.choose else 1) ≠ 0 ∧ ∀ j, j < n → (if h : k < m ∧ k ≠ p.length then (hdone k h.1 h.2).2.choose else 1) * Gz.mt R2 k j = _
    rw [e]
    exact (hdone k hk hne).2.choose_spec
   obtain ⟨gg, hgg⟩ := hgs
   have hG3 := hG2.elim (M' := Gz.mt R2) hrm2 (by omega) hpc2 gg (fun k hk hne => (hgg k hk hne).1) (fun k hk hne j hj => (hgg k hk hne).2 j hj) hMr
   have hF3 : ∀ k, k < m → Gz.Fair n (Gz.mt R2 k) := fun k hk => by
    by_cases e : k = p.length
    ·
     subst e; exact (hF2 _ hk).congr hMr
    ·
     exact (hdone k hk e).1
   have hG4 : Gz.Gs m n 9 A0 (Gz.swp A p.length f) (Gz.mt R2) (p ++ [(c : Int)]).length (c + 1) (Gz.pv (p ++ [(c : Int)])) := by
    rw [List.length_append]
    exact hG3.congr (fun _ _ _ _ => rfl) (fun l hl => zF p c l hl)
   obtain ⟨R3, p3, A3, hE3, h⟩ := ih (c + 1) R2 (p ++ [(c : Int)]) _ (by omega) hSR hF3 (fun l hl => by
    rw [zF p c l (by simpa using hl)]
    by_cases e : l = p.length
    ·
     rw [if_pos e, e]; simp [List.getD_eq_getElem?_getD]
    ·
     rw [if_neg e, ← hp l (by simp at hl; omega), List.getD_eq_getElem?_getD, List.getElem?_append_left (by simp at hl; omega), ← List.getD_eq_getElem?_getD]) hG4
   refine ⟨R3, p3, A3, evn c1 ?_, h⟩
   rw [hS.1]
   exact evb hE2 hE3
theorem jo (m n : Nat) (hm : 1 ≤ m ∧ m ≤ 5) (hn : 1 ≤ n ∧ n ≤ 1000) (R : List (List Int)) (hS : Gz.Shape m n R) (hb : ∀ i, i < m → ∀ j, j < n → -9 ≤ Gz.mt R i j ∧ Gz.mt R i j ≤ 9) :
  ∃ R2 p2 A2, Ev (fun k => spec_l4Reduced.f k R (n : Int)) (R2, p2) ∧ Gz.Shape m n R2 ∧ (∀ i, i < m → Gz.Fair n (Gz.mt R2 i)) ∧ (∀ l, l < p2.length → p2.getD l 0 = ((Gz.pv p2 l : Nat) : Int)) ∧ Gz.Gs m n 9 (Gz.mt R) A2 (Gz.mt R2) p2.length n (Gz.pv p2) := by
 obtain ⟨R2, p2, A2, hE, h⟩ := kz m n hm (by omega) (Gz.mt R) n 0 R [] (Gz.mt R) (by omega) hS (fun i hi => Gz.small_fair n _ (hb i hi)) (fun l h => by simp at h) (Gz.Gs.start hb _)
 refine ⟨R2, p2, A2, ?_, h⟩
 unfold spec_l4Reduced.f
 refine evb (kw R (by have := hS.1; omega) (fun i hi => by rw [hS.2 i (by rw [← hS.1]; exact hi)]; omega)) (evp ⟨by have := hS.1; omega, fun r hr => ?_⟩ (by rw [Int.toNat_natCast]; exact hE))
 obtain ⟨i, hi, rfl⟩ := List.getElem_of_mem hr
 have := hS.2 i (by rw [← hS.1]; exact hi)
 rw [List.getD_eq_getElem?_getD, List.getElem?_eq_getElem hi] at this
 simp only [Option.getD_some] at this
 omega
theorem jp (l : List Int) (x : Int) (hl : l.length ≤ 1048576) : ∀ (d i : Nat), i + d = l.length → Ev (fun k => spec_l1Has.l0 k l x (i : Int)) ((l.drop i).contains x) := by
 intro d
 induction d with
 | zero =>
  intro i hi
  refine Ev.step (fun k => spec_l1Has.l0.eq_2 ..) (evn (by omega) (evs ?_))
  rw [List.drop_of_length_le (by omega)]; rfl
 | succ d ih =>
  intro i hi
  have e : l.drop i = l.getD i 0 :: l.drop (i + 1) := by
   rw [List.drop_eq_getElem_cons (by omega)]; simp [List.getD_eq_getElem?_getD, List.getElem?_eq_getElem (show i < l.length by omega)]
  refine Ev.step (fun k => spec_l1Has.l0.eq_2 ..) (evp (by omega) (evp (by omega) ?_))
  rw [rd_nat, w64s i (by omega), e, List.contains_cons]
  by_cases c : l.getD i 0 = x
  ·
   exact evp c (evs (by rw [c]; simp))
  ·
   refine evn c (evr (ih (i + 1) (by omega)) ?_)
   rw [show (x == l.getD i 0) = false from beq_eq_false_iff_ne.mpr (fun h => c h.symm), Bool.false_or]
theorem qM (l : List Int) (x : Int) (hl : l.length ≤ 1048576) : Ev (fun k => spec_l1Has.f k l x) (l.contains x) := by
 unfold spec_l1Has.f
 exact jp l x hl l.length 0 (by omega)
section
variable {m n : Nat} {A0 A2 : Nat → Nat → Int} {R2 : List (List Int)} {p : List Int} {f : Nat} {z : Nat → Int}
theorem kg (h : Fin m n A0 A2 R2 p f z) (Q : List Int × Bool → Prop)
  (hQ : ∀ w : Nat, 1 ≤ w → (w : Int) ∣ 2520 * z f → (∀ k, k < p.length → Gz.mt R2 k (Gz.pv p k) ∣ (w : Int)) → ∃ r, Ev (fun k => spec_l4Relation.l2 k R2 p (f : Int) (w : Int) ((List.replicate n 0).set f (w : Int)) 0) r ∧ Q r) :
  ∀ d l (w : Nat), l + d = p.length → 1 ≤ w → (w : Int) ∣ 2520 * z f → (∀ k, k < l → Gz.mt R2 k (Gz.pv p k) ∣ (w : Int)) → ∃ r, Ev (fun k => spec_l4Relation.l1 k (n : Int) R2 p (f : Int) (w : Int) (l : Int)) r ∧ Q r := by
 have hfn := h.fn
 have hn := h.hn
 have hrm := h.rm
 have hm5 := h.hm
 intro d
 induction d with
 | zero =>
  intro l w hl h1 h2 h3
  obtain ⟨r, hr, hq⟩ := hQ w h1 h2 (fun k hk => h3 k (by omega))
  refine ⟨r, Ev.step (fun k => spec_l4Relation.l1.eq_2 ..) (evn (by omega) (evp (by omega) ?_)), hq⟩
  rw [Int.toNat_natCast]
  refine evp (by omega) (evb (evs rfl) (evp (by omega) (evp (by simp; omega) ?_)))
  rw [Int.toNat_natCast]; exact hr
 | succ d ih =>
  intro l w hl h1 h2 h3
  have hlr : l < p.length := by omega
  have hpn := h.pn l hlr
  have ha := h.G.diag l hlr
  have hab := h.bd l (Gz.pv p l)
  have hbig := h.big
  have hwb := zi h2 hbig.2 hbig.1
  have hlen : (R2.getD l []).length = n := h.S.2 l (by omega)
  have hent : rd (R2.getD l []) ((Gz.pv p l : Nat) : Int) = Gz.mt R2 l (Gz.pv p l) := zl R2 l _
  generalize hav : Gz.mt R2 l (Gz.pv p l) = a at ha hab hent
  have hg1 : 1 ≤ Nat.gcd w a.natAbs := Nat.gcd_pos_of_pos_left _ h1
  have hda : a ∣ 2520 * z f := by rw [← hav]; exact h.G.pivot_dvd h.hr h.fr (fun l hl => h.F l (by omega)) z h.zr l hlr
  have hlcm : ((Nat.lcm w a.natAbs : Nat) : Int) ∣ 2520 * z f := by
   rw [← Int.dvd_natAbs]
   refine Int.natCast_dvd_natCast.2 (Nat.lcm_dvd ?_ ?_)
   ·
    have := Int.natAbs_dvd_natAbs.2 h2; rwa [Int.natAbs_natCast] at this
   ·
    exact Int.natAbs_dvd_natAbs.2 hda
  have hlb := zi hlcm hbig.2 hbig.1
  have hl1 : 1 ≤ Nat.lcm w a.natAbs := Nat.lcm_pos h1 (by omega)
  obtain ⟨r, hr, hq⟩ := ih (l + 1) (Nat.lcm w a.natAbs) (by omega) hl1 hlcm (fun k hk => by
   by_cases e : k = l
   ·
    subst e
    rw [hav]
    exact Int.dvd_trans (Int.dvd_natAbs.2 (Int.dvd_refl a)) (Int.natCast_dvd_natCast.2 (Nat.dvd_lcm_right _ _))
   ·
    exact Int.dvd_trans (h3 k (by omega)) (Int.natCast_dvd_natCast.2 (Nat.dvd_lcm_left _ _)))
  refine ⟨r, Ev.step (fun k => spec_l4Relation.l1.eq_2 ..) (evp (by omega) (evp (by omega) (evp (by rw [h.S.1]; omega) ?_))), hq⟩
  rw [zh, h.P l hlr, zf, hent]
  refine evp (by omega) (evp (by rw [hlen]; omega) (evb (evc (qg a (by omega))) (evb (sGcd w a.natAbs) (evn (by omega) ?_))))
  rw [show Int.tdiv (w : Int) ((Nat.gcd w a.natAbs : Nat) : Int) = ((w / Nat.gcd w a.natAbs : Nat) : Int) from rfl]
  have hdl : w / Nat.gcd w a.natAbs ≤ w := Nat.div_le_self _ _
  have hls := qe w a h1 ha
  generalize w / Nat.gcd w a.natAbs = qn at hdl hls ⊢
  rw [w64 (x := (qn : Int)) (by omega) (by omega), ← Int.natCast_mul, hls, w64 (by omega) (by omega), w64s l (by omega)]
  exact hr
theorem kh (h : Fin m n A0 A2 R2 p f z) (w : Nat) (hw1 : 1 ≤ w) (hw2 : (w : Int) ∣ 2520 * z f) (hw3 : ∀ k, k < p.length → Gz.mt R2 k (Gz.pv p k) ∣ (w : Int)) (Q : List Int × Bool → Prop)
  (hQ : ∀ L : List Int, L.length = n → L.getD f 0 = (w : Int) → (∀ k, k < p.length → Gz.mt R2 k (Gz.pv p k) * L.getD (Gz.pv p k) 0 + Gz.mt R2 k f * (w : Int) = 0) → (∀ j, (L.getD j 0).natAbs ≤ 1157095860480) → ∃ r, Ev (fun k => (spec_l4Divided.f k L).bind fun t => some (t, true)) r ∧ Q r) :
  ∀ d l (L : List Int), l + d = p.length → L.length = n → L.getD f 0 = (w : Int) → (∀ k, k < l → Gz.mt R2 k (Gz.pv p k) * L.getD (Gz.pv p k) 0 + Gz.mt R2 k f * (w : Int) = 0) → (∀ j, (L.getD j 0).natAbs ≤ 1157095860480) → ∃ r, Ev (fun k => spec_l4Relation.l2 k R2 p (f : Int) (w : Int) L (l : Int)) r ∧ Q r := by
 have hfn := h.fn
 have hn := h.hn
 have hrm := h.rm
 have hbig := h.big
 have hwb := zi hw2 hbig.2 hbig.1
 have hm5 := h.hm
 intro d
 induction d with
 | zero =>
  intro l L hl h1 h2 h3 h4
  obtain ⟨r, hr, hq⟩ := hQ L h1 h2 (fun k hk => h3 k (by omega)) h4
  exact ⟨r, Ev.step (fun k => spec_l4Relation.l2.eq_2 ..) (evn (by omega) hr), hq⟩
 | succ d ih =>
  intro l L hl h1 h2 h3 h4
  have hlr : l < p.length := by omega
  have hpn := h.pn l hlr
  have ha := h.G.diag l hlr
  have hfb := h.bd l f
  have hlen : (R2.getD l []).length = n := h.S.2 l (by omega)
  have hent : rd (R2.getD l []) ((Gz.pv p l : Nat) : Int) = Gz.mt R2 l (Gz.pv p l) := zl R2 l _
  have hentf : rd (R2.getD l []) (f : Int) = Gz.mt R2 l f := zl R2 l _
  obtain ⟨o1, o2⟩ := h.out w hw2 l hlr (hw3 l hlr)
  have hq1 : (Int.tdiv (w : Int) (Gz.mt R2 l (Gz.pv p l))).natAbs ≤ w := by rw [Int.natAbs_tdiv]; exact Nat.div_le_self _ _
  have hget : ∀ j (v : Int), (L.set (Gz.pv p l) v).getD j 0 = if j = Gz.pv p l then v else L.getD j 0 := fun j v => by
   by_cases e : j = Gz.pv p l
   ·
    rw [if_pos e, e, List.getD_eq_getElem?_getD, List.getElem?_set_self (by omega)]; rfl
   ·
    rw [if_neg e, List.getD_eq_getElem?_getD, List.getElem?_set_ne (fun h => e h.symm), ← List.getD_eq_getElem?_getD]
  obtain ⟨r, hr, hq⟩ := ih (l + 1) (L.set (Gz.pv p l) (-(Gz.mt R2 l f) * Int.tdiv (w : Int) (Gz.mt R2 l (Gz.pv p l)))) (by omega) (by rw [List.length_set]; exact h1) (by rw [hget, if_neg (h.ne l hlr).symm]; exact h2) (fun k hk => by
   rw [hget]
   by_cases e : k = l
   ·
    subst e; rw [if_pos rfl]; exact o2
   ·
    rw [if_neg (h.inj k l (by omega) hlr e)]; exact h3 k (by omega)) (fun j => by
   rw [hget]
   split
   ·
    exact o1
   ·
    exact h4 j)
  refine ⟨r, Ev.step (fun k => spec_l4Relation.l2.eq_2 ..) (evp (by omega) (evp (by omega) (evp (by rw [h.S.1]; omega) (evp (by omega) ?_)))), hq⟩
  rw [zh, h.P l hlr, zf, hent, hentf]
  refine evp (by rw [hlen]; omega) (evp (by omega) (evp (by rw [hlen]; omega) (evn ha (evp (by omega) ?_))))
  rw [Int.toNat_natCast, w64 (x := -(Gz.mt R2 l f)) (by omega) (by omega), w64 (x := Int.tdiv (w : Int) (Gz.mt R2 l (Gz.pv p l))) (by omega) (by omega), w64 (by omega) (by omega), w64s l (by omega)]
  exact hr
end
theorem ki {m n : Nat} {A0 A2 : Nat → Nat → Int} {R2 : List (List Int)} {p : List Int} (hm : 1 ≤ m ∧ m ≤ 5) (hn : n ≤ 6) (hP : ∀ l, l < p.length → p.getD l 0 = ((Gz.pv p l : Nat) : Int)) (hG : Gz.Gs m n 9 A0 A2 (Gz.mt R2) p.length n (Gz.pv p)) (hr : p.length + 1 = n) (Q : List Int × Bool → Prop)
  (hQ : ∀ f, f ≤ p.length → (∀ l, l < f → Gz.pv p l = l) → (f < p.length → Gz.pv p f ≠ f) → ∃ r, Ev (fun k => spec_l4Relation.l1 k (n : Int) R2 p (f : Int) 1 0) r ∧ Q r) :
  ∀ d x, x + d = p.length → (∀ l, l < x → Gz.pv p l = l) → ∃ r, Ev (fun k => spec_l4Relation.l0 k (n : Int) R2 p (x : Int) 1) r ∧ Q r := by
 have hmem : ∀ x : Nat, p.contains (x : Int) = true ↔ ∃ l, l < p.length ∧ Gz.pv p l = x := fun x => by
  rw [List.contains_iff_mem]
  constructor
  ·
   intro h
   obtain ⟨l, hl, e⟩ := List.getElem_of_mem h
   have := hP l hl
   rw [List.getD_eq_getElem?_getD, List.getElem?_eq_getElem hl, Option.getD_some, e] at this
   exact ⟨l, hl, by omega⟩
  ·
   rintro ⟨l, hl, e⟩
   have := hP l hl
   rw [List.getD_eq_getElem?_getD, List.getElem?_eq_getElem hl, Option.getD_some, e] at this
   rw [← this]; exact List.getElem_mem hl
 have hpl := hG.hr
 intro d
 induction d with
 | zero =>
  intro x hx hl
  obtain ⟨r, hr', hq⟩ := hQ x (by omega) hl (fun h => by omega)
  refine ⟨r, Ev.step (fun k => spec_l4Relation.l0.eq_2 ..) (evb (qM p (x : Int) (by omega)) (evn (fun h => ?_) hr')), hq⟩
  obtain ⟨l, h1, h2⟩ := (hmem x).1 h
  rw [hl l (by omega)] at h2; omega
 | succ d ih =>
  intro x hx hl
  by_cases c : Gz.pv p x = x
  ·
   obtain ⟨r, hr', hq⟩ := ih (x + 1) (by omega) (fun l h => by
    by_cases e : l = x
    ·
     rw [e]; exact c
    ·
     exact hl l (by omega))
   refine ⟨r, Ev.step (fun k => spec_l4Relation.l0.eq_2 ..) (evb (qM p (x : Int) (by omega)) (evp ((hmem x).2 ⟨x, by omega, c⟩) ?_)), hq⟩
   rw [w64s x (by omega)]; exact hr'
  ·
   obtain ⟨r, hr', hq⟩ := hQ x (by omega) hl (fun _ => c)
   refine ⟨r, Ev.step (fun k => spec_l4Relation.l0.eq_2 ..) (evb (qM p (x : Int) (by omega)) (evn (fun h => ?_) hr')), hq⟩
   obtain ⟨l, h1, h2⟩ := (hmem x).1 h
   have hpl2 := (hG.places l h1).1
   rcases Nat.lt_or_ge l x with e | e
   ·
    rw [hl l e] at h2; omega
   ·
    have : l = x := by omega
    subst this; exact c h2
theorem qY (m n : Nat) (hm : 1 ≤ m ∧ m ≤ 5) (hn : 1 ≤ n ∧ n ≤ 6) (R : List (List Int)) (hS : Gz.Shape m n R) (hb : ∀ i, i < m → ∀ j, j < n → -9 ≤ Gz.mt R i j ∧ Gz.mt R i j ≤ 9) :
  ∃ r, Ev (fun k => spec_l4Relation.f k R (n : Int)) r ∧ ((r.2 = false ∧ ¬ Gz.NzRel m n (Gz.mt R)) ∨ (r.2 = true ∧ r.1.length = n ∧ (∀ j, (r.1.getD j 0).natAbs ≤ 1157095860480) ∧ ∃ f, f < n ∧ 0 < r.1.getD f 0 ∧ Gz.InKer m n (Gz.mt R) (fun j => r.1.getD j 0) ∧ ∀ u, Gz.InKer m n (Gz.mt R) u → ∀ j, j < n → r.1.getD f 0 * u j = r.1.getD j 0 * u f)) := by
 obtain ⟨R2, p, A2, hE, hS2, hF, hP, hG⟩ := jo m n hm (by omega) R hS hb
 have hw : wrap64 ((n : Int) - 1) = ((n - 1 : Nat) : Int) := by unfold wrap64; omega
 unfold spec_l4Relation.f
 by_cases c : p.length + 1 = n
 ·
  have key := ki hm hn.2 hP hG c (fun r => r.2 = true ∧ r.1.length = n ∧ (∀ j, (r.1.getD j 0).natAbs ≤ 1157095860480) ∧ ∃ f, f < n ∧ 0 < r.1.getD f 0 ∧ Gz.InKer m n (Gz.mt R) (fun j => r.1.getD j 0) ∧ ∀ u, Gz.InKer m n (Gz.mt R) u → ∀ j, j < n → r.1.getD f 0 * u j = r.1.getD j 0 * u f) (fun f hf h1 h2 => by
   have hfr := hG.free_at c f hf h1 h2
   obtain ⟨z, z0, zb, zr⟩ := hG.tame (by decide) c hfr
   have h54 := jz n p.length hn.2 (by have := hG.hr; omega)
   have hF5 : Fin m n (Gz.mt R) A2 R2 p f z := ⟨hm, hn.2, hS2, hF, hP, hG, c, hfr, z0, fun j => by have := zb j; omega, zr⟩
   refine kg hF5 _ (fun w w1 w2 w3 => ?_) p.length 0 1 (by omega) (Nat.le_refl _) (Int.one_dvd _) (fun k hk => by omega)
   have hfn := hF5.fn
   have hb2 := hF5.big
   have hwb := zi w2 hb2.2 hb2.1
   have hzero : ∀ j, ((List.replicate n (0 : Int)).set f (w : Int)).getD j 0 = if j = f then (w : Int) else 0 := fun j => by
    by_cases e : j = f
    ·
     rw [if_pos e, e, List.getD_eq_getElem?_getD, List.getElem?_set_self (by simp; omega)]; rfl
    ·
     rw [if_neg e, List.getD_eq_getElem?_getD, List.getElem?_set_ne (fun h => e h.symm), List.getElem?_replicate]
     split <;> rfl
   refine kh hF5 w w1 w2 w3 _ (fun L l1 l2 l3 l4 => ?_) p.length 0 _ (by omega) (by simp) (by rw [hzero, if_pos rfl]) (fun k hk => by omega) (fun j => by rw [hzero]; split <;> omega)
   have hs := qh L (by omega) (fun j _ => by have := l4 j; omega)
   obtain ⟨g, hg, hcut⟩ := Gz.cut_at L
   have hcl := Gz.cut_len L
   obtain ⟨hk, hmul⟩ := hG.mults c hfr (fun j => L.getD j 0) (fun l hl => by rw [l2]; exact l3 l hl)
   have hgb : ∀ x : Int, x.natAbs ≤ (g * x).natAbs := fun x => by
    rw [Int.natAbs_mul]
    have : 1 * x.natAbs ≤ g.natAbs * x.natAbs := Nat.mul_le_mul_right _ (by omega)
    omega
   refine ⟨_, evb hs (evs rfl), rfl, by simp only; rw [hcl, l1], fun j => ?_, f, hfn, ?_, hk.scale g (by omega) (fun j _ => hcut j), fun u hu j hj => ?_⟩
   ·
    have h1 := l4 j
    rw [hcut j] at h1
    exact Nat.le_trans (hgb _) h1
   ·
    have h1 : 0 < L.getD f 0 := by rw [l2]; omega
    rw [hcut f] at h1
    exact Classical.byContradiction fun hn0 => by
     have := Int.mul_nonpos_of_nonneg_of_nonpos (show 0 ≤ g by omega) (show (Gz.cut L).getD f 0 ≤ 0 by simp only at hn0; omega)
     omega
   ·
    have h1 : L.getD f 0 * u j = L.getD j 0 * u f := hmul u hu j hj
    rw [hcut f, hcut j, Int.mul_assoc, Int.mul_assoc] at h1
    exact Int.eq_of_mul_eq_mul_left (show g ≠ 0 by omega) h1) p.length 0 (by omega) (fun l hl => by omega)
  obtain ⟨r, hr, hq⟩ := key
  exact ⟨r, evb hE (evp (by simp only; rw [hw]; omega) hr), .inr hq⟩
 ·
  exact ⟨([], false), evb hE (evn (by simp only; rw [hw]; omega) (evs rfl)), .inl ⟨rfl, hG.norelNz hn.1 c⟩⟩
def stt (l : List Int) : Nat := match l.getLast? with | none => 0 | some x => x.toNat + 1
theorem qA (l : List Int) (x : Nat) : stt (l ++ [(x : Int)]) = x + 1 := by simp [stt]
theorem qN (n kk r : Nat) (hn : n ≤ 16) (hk : kk ≤ 6) (l : List Int) (hl : l.length + (r + 1) = kk) (hl2 : ∀ x ∈ l, ∃ q : Nat, x = (q : Int) ∧ q < n)
  (ih : ∀ x : Nat, x < n → Ev (fun k => spec_l4Choose.f k (n : Int) (kk : Int) (l ++ [(x : Int)])) ((cmbs n r (x + 1)).map fun c => (l ++ [(x : Int)]) ++ c)) :
  ∀ d x (out : List (List Int)), x + d = n → out.length ≤ x * n ^ r → Ev (fun k => spec_l4Choose.l0 k (n : Int) (kk : Int) l out (x : Int)) (out ++ (cmbs n (r + 1) x).map fun c => l ++ c) := by
 have hp : n ^ r ≤ 16 ^ 5 := Nat.le_trans (Nat.pow_le_pow_left hn r) (Nat.pow_le_pow_right (by decide) (by omega))
 have hp2 : (16 : Nat) ^ 5 = 1048576 := by decide
 intro d
 induction d with
 | zero =>
  intro x out hx ho
  refine Ev.step (fun k => spec_l4Choose.l0.eq_2 ..) (evn (by omega) (evs ?_))
  rw [cmbs_end n r x (by omega)]; simp
 | succ d ihd =>
  intro x out hx ho
  have hc := zK n r (x + 1)
  have hxb : x * n ^ r ≤ 16 * 1048576 := Nat.mul_le_mul (by omega) (by omega)
  refine Ev.step (fun k => spec_l4Choose.l0.eq_2 ..) (evp (by omega) (evb (evc (qJ l (by omega))) (evp (by omega) (evb (ih x (by omega)) (evp (by rw [List.length_map]; omega) ?_)))))
  rw [w64s x (by omega)]
  refine evr (ihd (x + 1) _ (by omega) (by rw [List.length_append, List.length_map, Nat.add_mul, Nat.one_mul]; omega)) ?_
  rw [cmbs_step n r x (by omega), List.map_append, List.map_map, List.append_assoc]
  congr 2
  refine List.map_congr_left fun c _ => ?_
  simp
theorem jL (n kk : Nat) (hn : n ≤ 16) (hk : kk ≤ 6) : ∀ r (l : List Int), l.length + r = kk → (∀ x ∈ l, ∃ q : Nat, x = (q : Int) ∧ q < n) → Ev (fun k => spec_l4Choose.f k (n : Int) (kk : Int) l) ((cmbs n r (stt l)).map fun c => l ++ c) := by
 intro r
 induction r with
 | zero =>
  intro l hl hm
  exact Ev.step (fun k => spec_l4Choose.f.eq_2 ..) (evp (by omega) (evs (by simp [cmbs])))
 | succ r ih =>
  intro l hl hm
  have hl0 := qN n kk r hn hk l hl hm (fun x hx => by
   have := ih (l ++ [(x : Int)]) (by simp; omega) (fun y hy => by
    rcases List.mem_append.1 hy with h | h
    ·
     exact hm y h
    ·
     simp at h; exact ⟨x, h, hx⟩)
   rw [qA] at this; exact this)
  refine Ev.step (fun k => spec_l4Choose.f.eq_2 ..) (evn (by omega) (evb (evs rfl) ?_))
  have hst : stt l ≤ n := by
   unfold stt
   cases e : l.getLast? with
   | none => simp
   | some x =>
    obtain ⟨q, h1, h2⟩ := hm x (List.mem_of_getLast? e)
    simp only; omega
  have hj := hl0 (n - stt l) (stt l) [] (by omega) (by simp)
  rw [List.nil_append] at hj
  rcases List.eq_nil_or_concat l with e | ⟨l', x, e⟩
  ·
   subst e
   refine evn (by simp) (Ev.step (fun k => spec_l4Choose.j0.eq_2 ..) ?_)
   exact hj
  ·
   have e' : l = l' ++ [x] := by rw [e, List.concat_eq_append]
   obtain ⟨q, hq1, hq2⟩ := hm x (by rw [e']; simp)
   have hlen : l.length = l'.length + 1 := by rw [e']; simp
   have hw : wrap64 ((l.length : Int) - 1) = ((l'.length : Nat) : Int) := by unfold wrap64; omega
   have hrd : rd l ((l'.length : Nat) : Int) = (q : Int) := by rw [zh, e']; simp [List.getD_eq_getElem?_getD, hq1]
   refine evp (by omega) ?_
   rw [hw, hrd, w64s q (by omega)]
   refine evp (by omega) (evp (by omega) (Ev.step (fun k => spec_l4Choose.j0.eq_2 ..) ?_))
   have hs : stt l = q + 1 := by rw [e', hq1, qA]
   rw [hs] at hj ⊢
   exact hj
theorem jq (n kk : Nat) (hn : n ≤ 16) (hk : kk ≤ 6) : Ev (fun k => spec_l4Choose.f k (n : Int) (kk : Int) []) (cmbs n kk 0) := by
 have := jL n kk hn hk kk [] (by simp) (fun x hx => by simp at hx)
 refine evr this ?_
 simp [stt]
def zc (P : List (List Int)) (s : List Int) : List (List Int) := s.map fun x => P.getD x.toNat []
def zg (L : List Int) (s : List Int) : List Int := s.map fun x => L.getD x.toNat 0
theorem zv {α β : Type} (f : α → β) (l : List α) (i : Nat) (h : i < l.length) : (l.map f).take i ++ [f l[i]] = (l.map f).take (i + 1) := by
 rw [List.take_succ_eq_append_getElem (by rw [List.length_map]; exact h), List.getElem_map]
theorem jr {P : List (List Int)} {L : List Int} {d : Nat} (h : Smp P L d) (s : List Int) (hs : ∀ x ∈ s, ∃ q : Nat, x = (q : Int) ∧ q < P.length) (hl6 : s.length ≤ 6) : ∀ e i, i + e = s.length → Ev (fun k => spec_l2Part.l0 k s (i : Int) P L ((zc P s).take i) ((zg L s).take i)) (zc P s, zg L s) := by
 have hd := h.hd
 have hl := h.hl
 intro e
 induction e with
 | zero =>
  intro i hi
  refine Ev.step (fun k => spec_l2Part.l0.eq_2 ..) (evn (by omega) (evs ?_))
  rw [List.take_of_length_le (by unfold zc; rw [List.length_map]; omega), List.take_of_length_le (by unfold zg; rw [List.length_map]; omega)]
 | succ e ih =>
  intro i hi
  have hi2 : i < s.length := by omega
  obtain ⟨q, hq1, hq2⟩ := hs _ (List.getElem_mem hi2)
  have er : rd s (i : Int) = (q : Int) := by rw [zh, List.getD_eq_getElem?_getD, List.getElem?_eq_getElem hi2]; exact hq1
  have e1 : (zc P s).take i ++ [P.getD q []] = (zc P s).take (i + 1) := by
   have := zv (fun x : Int => P.getD x.toNat []) s i hi2
   rw [hq1, Int.toNat_natCast] at this; exact this
  have e2 : (zg L s).take i ++ [L.getD q 0] = (zg L s).take (i + 1) := by
   have := zv (fun x : Int => L.getD x.toNat 0) s i hi2
   rw [hq1, Int.toNat_natCast] at this; exact this
  refine Ev.step (fun k => spec_l2Part.l0.eq_2 ..) (evp (by omega) (evp (by omega) ?_))
  rw [er, zf, zh, w64s i (by omega)]
  refine evp (by omega) (evp (by omega) (evb (evc (qJ _ (by rw [(h.rows q hq2).1]; omega))) (evp (by rw [List.length_take]; omega) (evp (by omega) (evp (by rw [List.length_take]; omega) ?_)))))
  rw [e1, e2]; exact ih (i + 1) (by omega)
theorem kA {P : List (List Int)} {L : List Int} {d : Nat} (h : Smp P L d) (s : List Int) (hs : ∀ x ∈ s, ∃ q : Nat, x = (q : Int) ∧ q < P.length) (hl6 : s.length ≤ 6) : Ev (fun k => spec_l2Part.f k P L s) (zc P s, zg L s) := by
 unfold spec_l2Part.f
 have := jr h s hs hl6 s.length 0 (by omega)
 rw [List.take_zero, List.take_zero] at this; exact this
def eqs (Y : List (List Int)) (d : Nat) : List (List Int) := trans Y d ++ [List.replicate Y.length 1]
theorem qB (Y : List (List Int)) (d i : Nat) (hi : i < d + 1) : (eqs Y d).getD i [] = if i < d then (trans Y d).getD i [] else List.replicate Y.length 1 := by
 have hT := zu Y d
 unfold eqs
 by_cases e : i < d
 ·
  rw [if_pos e, List.getD_eq_getElem?_getD, List.getElem?_append_left (by rw [hT.1]; exact e), ← List.getD_eq_getElem?_getD]
 ·
  rw [if_neg e, List.getD_eq_getElem?_getD, List.getElem?_append_right (by rw [hT.1]; omega), hT.1, show i - d = 0 by omega]; rfl
theorem qZ (Y : List (List Int)) (d : Nat) : Gz.Shape (d + 1) Y.length (eqs Y d) := by
 have hT := zu Y d
 refine ⟨by unfold eqs; rw [List.length_append, hT.1]; rfl, fun i hi => ?_⟩
 rw [qB Y d i hi]
 split
 ·
  rename_i e; exact hT.2 i e
 ·
  rw [List.length_replicate]
theorem qi (Y : List (List Int)) (d i j : Nat) (hi : i < d + 1) (hj : j < Y.length) : Gz.mt (eqs Y d) i j = if i < d then Gz.mt Y j i else 1 := by
 unfold Gz.mt
 rw [qB Y d i hi]
 by_cases e : i < d
 ·
  rw [if_pos e, if_pos e]; exact zC Y d i j e hj
 ·
  rw [if_neg e, if_neg e, List.getD_eq_getElem?_getD, List.getElem?_replicate, if_pos hj]; rfl
theorem kj (Y : List (List Int)) (hY : Y.length ≤ 1000) (X : List (List Int)) (hX : X.length < 1000) : ∀ e i, i + e = Y.length → Ev (fun k => spec_l4Equations.l2 k Y X (List.replicate i 1) (i : Int)) (X ++ [List.replicate Y.length 1]) := by
 intro e
 induction e with
 | zero =>
  intro i hi
  obtain rfl : i = Y.length := by omega
  exact Ev.step (fun k => spec_l4Equations.l2.eq_2 ..) (evn (by omega) (evp (by omega) (evs rfl)))
 | succ e ih =>
  intro i hi
  refine Ev.step (fun k => spec_l4Equations.l2.eq_2 ..) (evp (by omega) (evp (by rw [List.length_replicate]; omega) ?_))
  rw [w64s i (by omega), show List.replicate i (1 : Int) ++ [1] = List.replicate (i + 1) 1 from List.replicate_succ'.symm]
  exact ih (i + 1) (by omega)
theorem kl (Y : List (List Int)) (d : Nat) (hd : d < 1000) (hY : Y.length ≤ 1000) (hS : ∀ i, i < Y.length → (Y.getD i []).length = d) (X : List (List Int)) (hX : X.length < 1000) (c : Nat) (hc : c < d) (R : List (List Int)) (hR : Ev (fun k => spec_l4Equations.l0 k Y (X ++ [col Y c]) [] (((c + 1 : Nat) : Int))) R) :
  ∀ e i, i + e = Y.length → Ev (fun k => spec_l4Equations.l1 k Y X [] (c : Int) ((col Y c).take i) (i : Int)) R := by
 intro e
 induction e with
 | zero =>
  intro i hi
  refine Ev.step (fun k => spec_l4Equations.l1.eq_2 ..) (evn (by omega) (evp (by omega) ?_))
  rw [w64s c (by omega), List.take_of_length_le (by unfold col; rw [List.length_map]; omega)]
  exact hR
 | succ e ih =>
  intro i hi
  have hi2 : i < Y.length := by omega
  refine Ev.step (fun k => spec_l4Equations.l1.eq_2 ..) (evp (by omega) (evp (by omega) (evp (by omega) (evp (by rw [zf, hS i hi2]; omega) (evp (by rw [List.length_take]; omega) ?_)))))
  rw [zf, zh, w64s i (by omega)]
  have e1 : (col Y c).take i ++ [(Y.getD i []).getD c 0] = (col Y c).take (i + 1) := by
   have := zv (fun v : List Int => v.getD c 0) Y i hi2
   rw [show Y[i] = Y.getD i [] by rw [List.getD_eq_getElem?_getD, List.getElem?_eq_getElem hi2]; rfl] at this
   exact this
  rw [e1]; exact ih (i + 1) (by omega)
theorem km (Y : List (List Int)) (d : Nat) (hd : d < 1000) (hY : 1 ≤ Y.length ∧ Y.length ≤ 1000) (hS : ∀ i, i < Y.length → (Y.getD i []).length = d) : ∀ e c, c + e = d → Ev (fun k => spec_l4Equations.l0 k Y ((trans Y d).take c) [] (c : Int)) (eqs Y d) := by
 intro e
 induction e with
 | zero =>
  intro c hc
  obtain rfl : c = d := by omega
  refine Ev.step (fun k => spec_l4Equations.l0.eq_2 ..) (evp (by omega) (evp (by omega) ?_))
  rw [show rd_L1 Y 0 = Y.getD 0 [] from zf Y 0, hS 0 (by omega)]
  refine Ev.step (fun k => spec_l4Equations.j1.eq_2 ..) (evn (by simp) ?_)
  rw [List.take_of_length_le (by unfold trans; simp)]
  exact kj Y hY.2 (trans Y c) (by unfold trans; simp; omega) Y.length 0 (by omega)
 | succ e ih =>
  intro c hc
  have h := ih (c + 1) (by omega)
  have e1 : (trans Y d).take c ++ [col Y c] = (trans Y d).take (c + 1) := by
   have := zv (col Y) (List.range d) c (by rw [List.length_range]; omega)
   rw [List.getElem_range] at this; exact this
  rw [← e1] at h
  refine Ev.step (fun k => spec_l4Equations.l0.eq_2 ..) (evp (by omega) (evp (by omega) ?_))
  rw [show rd_L1 Y 0 = Y.getD 0 [] from zf Y 0, hS 0 (by omega)]
  refine Ev.step (fun k => spec_l4Equations.j1.eq_2 ..) (evp (by simp; omega) ?_)
  have := kl Y d hd hY.2 hS ((trans Y d).take c) (by rw [List.length_take]; omega) c (by omega) _ h Y.length 0 (by omega)
  rw [List.take_zero] at this
  exact this
theorem sEqs (Y : List (List Int)) (d : Nat) (hd : d < 1000) (hY : 1 ≤ Y.length ∧ Y.length ≤ 1000) (hS : ∀ i, i < Y.length → (Y.getD i []).length = d) : Ev (fun k => spec_l4Equations.f k Y) (eqs Y d) := by
 unfold spec_l4Equations.f
 have := km Y d hd hY hS d 0 (by omega)
 rw [List.take_zero] at this; exact this
theorem zL (Lr y : List Int) (hl : y.length = Lr.length) (hn : Lr.length ≤ 1000) (hB : ∀ j, (Lr.getD j 0).natAbs ≤ 1157095860480) (hy : ∀ j, j < y.length → y.getD j 0 = 1 ∨ y.getD j 0 = -1) (e0 : Int) (he : e0 = 1 ∨ e0 = -1) : ∀ e i (out : List Int), i + e = Lr.length → out.length = i → ∃ r, Ev (fun k => spec_l4Signs.l0 k Lr y e0 out (i : Int)) r ∧ (r.2 = true ↔ ∀ j, i ≤ j → j < Lr.length → 0 < e0 * Lr.getD j 0 * y.getD j 0) := by
 intro e
 induction e with
 | zero =>
  intro i out hi ho
  exact ⟨(out, true), Ev.step (fun k => spec_l4Signs.l0.eq_2 ..) (evn (by omega) (evs rfl)), by simp; intro j h1 h2; omega⟩
 | succ e ih =>
  intro i out hi ho
  have hb := hB i
  have hyi := hy i (by omega)
  have e1 : wrap64 (wrap64 (e0 * rd Lr (i : Int)) * rd y (i : Int)) = e0 * Lr.getD i 0 * y.getD i 0 := by
   rw [zh, zh]
   generalize Lr.getD i 0 = a at *
   rcases he with rfl | rfl
   ·
    rw [Int.one_mul, w64 (x := a) (by omega) (by omega)]
    rcases hyi with e | e <;> rw [e]
    ·
     rw [Int.mul_one, w64 (by omega) (by omega)]
    ·
     rw [w64 (by omega) (by omega)]
   ·
    rw [w64 (x := -1 * a) (by omega) (by omega)]
    rcases hyi with e | e <;> rw [e]
    ·
     rw [Int.mul_one, w64 (by omega) (by omega)]
    ·
     rw [w64 (by omega) (by omega)]
  by_cases c : e0 * Lr.getD i 0 * y.getD i 0 ≤ 0
  ·
   refine ⟨([], false), Ev.step (fun k => spec_l4Signs.l0.eq_2 ..) (evp (by omega) (evp (by omega) (evp (by omega) (evp (by rw [e1]; exact c) (evs rfl))))), ?_⟩
   constructor
   ·
    intro h; cases h
   ·
    intro h; have := h i (Nat.le_refl _) (by omega); omega
  ·
   obtain ⟨r, hr, h⟩ := ih (i + 1) (out ++ [e0 * Lr.getD i 0 * y.getD i 0]) (by omega) (by simp; omega)
   refine ⟨r, Ev.step (fun k => spec_l4Signs.l0.eq_2 ..) (evp (by omega) (evp (by omega) (evp (by omega) (evn (by rw [e1]; exact c) (evp (by omega) ?_))))), ?_⟩
   ·
    rw [e1, w64s i (by omega)]; exact hr
   ·
    rw [h]
    constructor
    ·
     intro h j h1 h2
     by_cases e : j = i
     ·
      rw [e]; omega
     ·
      exact h j (by omega) h2
    ·
     intro h j h1 h2; exact h j (by omega) h2
theorem jM (Lr y : List Int) (hl : y.length = Lr.length) (hn : 1 ≤ Lr.length ∧ Lr.length ≤ 1000) (hB : ∀ j, (Lr.getD j 0).natAbs ≤ 1157095860480) (hy : ∀ j, j < y.length → y.getD j 0 = 1 ∨ y.getD j 0 = -1) : ∃ r, Ev (fun k => spec_l4Signs.f k Lr y) r ∧ (r.2 = true ↔ ∀ j, j < Lr.length → 0 < (if Lr.getD 0 0 * y.getD 0 0 < 0 then (-1 : Int) else 1) * Lr.getD j 0 * y.getD j 0) := by
 have hb := hB 0
 have hy0 := hy 0 (by omega)
 have e1 : wrap64 (rd Lr 0 * rd y 0) = Lr.getD 0 0 * y.getD 0 0 := by
  rw [show rd Lr 0 = Lr.getD 0 0 from zh Lr 0, show rd y 0 = y.getD 0 0 from zh y 0]
  generalize Lr.getD 0 0 = a at *
  rcases hy0 with e | e <;> rw [e]
  ·
   rw [Int.mul_one, w64 (by omega) (by omega)]
  ·
   rw [w64 (by omega) (by omega)]
 unfold spec_l4Signs.f
 by_cases c : Lr.getD 0 0 * y.getD 0 0 < 0
 ·
  obtain ⟨r, hr, h⟩ := zL Lr y hl hn.2 hB hy (-1) (.inr rfl) Lr.length 0 [] (by omega) rfl
  refine ⟨r, evp (by omega) (evp (by omega) (evp (by rw [e1]; exact c) (Ev.step (fun k => spec_l4Signs.j0.eq_2 ..) hr))), ?_⟩
  rw [h, if_pos c]
  exact ⟨fun h j hj => h j (Nat.zero_le _) hj, fun h j _ hj => h j hj⟩
 ·
  obtain ⟨r, hr, h⟩ := zL Lr y hl hn.2 hB hy 1 (.inl rfl) Lr.length 0 [] (by omega) rfl
  refine ⟨r, evp (by omega) (evp (by omega) (evn (by rw [e1]; exact c) (Ev.step (fun k => spec_l4Signs.j0.eq_2 ..) hr))), ?_⟩
  rw [h, if_neg c]
  exact ⟨fun h j hj => h j (Nat.zero_le _) hj, fun h j _ hj => h j hj⟩
theorem zM {P : List (List Int)} {L : List Int} {d : Nat} (h : Smp P L d) (s : List Int) (hs : ∀ x ∈ s, ∃ q : Nat, x = (q : Int) ∧ q < P.length) (z : Nat → Int) : Gz.InKer (d + 1) s.length (sA P L s) z ↔ Gz.InKer (d + 1) s.length (Gz.mt (eqs (zc P s) d)) (fun j => L.getD (s.getD j 0).toNat 0 * z j) := by
 have hlen : (zc P s).length = s.length := by unfold zc; rw [List.length_map]
 have hpt : ∀ j, j < s.length → (zc P s).getD j [] = P.getD (s.getD j 0).toNat [] := fun j hj => by
  unfold zc; simp [List.getD_eq_getElem?_getD, List.getElem?_map, List.getElem?_eq_getElem hj]
 have h0 : Gz.sm (fun j => sA P L s 0 j * z j) s.length = Gz.sm (fun j => Gz.mt (eqs (zc P s) d) d j * (L.getD (s.getD j 0).toNat 0 * z j)) s.length := Gz.sm_congr fun j hj => by
  rw [qi _ d d j (by omega) (by omega), if_neg (by omega), Int.one_mul]; unfold sA; rw [if_pos rfl]
 have h1 : ∀ i, i < d → Gz.sm (fun j => sA P L s (i + 1) j * z j) s.length = Gz.sm (fun j => Gz.mt (eqs (zc P s) d) i j * (L.getD (s.getD j 0).toNat 0 * z j)) s.length := fun i hi => Gz.sm_congr fun j hj => by
  rw [qi _ d i j (by omega) (by omega), if_pos hi]
  unfold sA Gz.mt
  rw [if_neg (by omega), hpt j hj, Nat.add_sub_cancel, Int.mul_assoc]
 constructor
 ·
  intro hk i hi
  by_cases e : i < d
  ·
   rw [← h1 i e]; exact hk (i + 1) (by omega)
  ·
   obtain rfl : i = d := by omega
   rw [← h0]; exact hk 0 (by omega)
 ·
  intro hk i hi
  cases i with
  | zero => rw [h0]; exact hk d (by omega)
  | succ i => rw [h1 i (by omega)]; exact hk i (by omega)
theorem sSet {P : List (List Int)} {L : List Int} {d : Nat} (h : Smp P L d) (s : List Int) (hs : ∀ x ∈ s, ∃ q : Nat, x = (q : Int) ∧ q < P.length) (hl : 1 ≤ s.length ∧ s.length ≤ 6) :
  ∃ r : List Int × Bool, Ev (fun k => spec_l4Relation.f k (eqs (zc P s) d) (s.length : Int)) r ∧ ((r.2 = false ∧ prB P L d s = false) ∨ (r.2 = true ∧ ∃ t : List Int × Bool, Ev (fun k => spec_l4Signs.f k r.1 (zg L s)) t ∧ t.2 = prB P L d s)) := by
 have hd := h.hd
 have hlen : (zc P s).length = s.length := by unfold zc; rw [List.length_map]
 have hpt : ∀ j, j < s.length → (zc P s).getD j [] = P.getD (s.getD j 0).toNat [] := fun j hj => by
  unfold zc; simp [List.getD_eq_getElem?_getD, List.getElem?_map, List.getElem?_eq_getElem hj]
 have hS := qZ (zc P s) d
 rw [hlen] at hS
 have hbd : ∀ i, i < d + 1 → ∀ j, j < s.length → -9 ≤ Gz.mt (eqs (zc P s) d) i j ∧ Gz.mt (eqs (zc P s) d) i j ≤ 9 := fun i hi j hj => by
  rw [qi _ d i j hi (by omega)]
  split
  ·
   rename_i hid
   obtain ⟨q, e, hq⟩ := hs _ (zy s j hj)
   unfold Gz.mt
   rw [hpt j hj, e, Int.toNat_natCast]
   exact (h.rows q hq).2 i hid
  ·
   omega
 have hlab : ∀ j, j < s.length → L.getD (s.getD j 0).toNat 0 = 1 ∨ L.getD (s.getD j 0).toNat 0 = -1 := fun j hj => by
  obtain ⟨q, e, hq⟩ := hs _ (zy s j hj)
  rw [e, Int.toNat_natCast]; exact h.lab q hq
 have hll : (zg L s).length = s.length := by unfold zg; rw [List.length_map]
 have hlat : ∀ j, j < s.length → (zg L s).getD j 0 = L.getD (s.getD j 0).toNat 0 := fun j hj => by
  unfold zg; simp [List.getD_eq_getElem?_getD, List.getElem?_map, List.getElem?_eq_getElem hj]
 have hsq : ∀ j, j < s.length → L.getD (s.getD j 0).toNat 0 * L.getD (s.getD j 0).toNat 0 = 1 := fun j hj => by rcases hlab j hj with e | e <;> rw [e] <;> rfl
 obtain ⟨r, hr, hcase⟩ := qY (d + 1) s.length (by omega) hl (eqs (zc P s) d) hS hbd
 refine ⟨r, hr, ?_⟩
 rcases hcase with ⟨h1, h2⟩ | ⟨h1, h2, h3, f, h4, h5, h6, h7⟩
 ·
  refine .inl ⟨h1, ?_⟩
  have := Gz.twist_no (fun j => L.getD (s.getD j 0).toNat 0) hsq (zM h s hs) h2
  rw [Bool.eq_false_iff]
  intro e
  exact this ((qx P L d s).1 e)
 ·
  refine .inr ⟨h1, ?_⟩
  obtain ⟨t, ht, hiff⟩ := jM r.1 (zg L s) (by omega) (by omega) h3 (fun j hj => by rw [hlat j (by omega)]; exact hlab j (by omega))
  refine ⟨t, ht, qy ?_⟩
  rw [hiff, h2]
  have key := Gz.sign_pick s.length hl.1 (fun j => r.1.getD j 0) (fun j => L.getD (s.getD j 0).toNat 0) hlab f h4 h5
  have e0 : (zg L s).getD 0 0 = L.getD (s.getD 0 0).toNat 0 := hlat 0 (by omega)
  have tw := Gz.twist_pos (fun j => L.getD (s.getD j 0).toNat 0) hsq (zM h s hs) (fun j => r.1.getD j 0) f h4 h5 h6 h7
  unfold zI
  rw [tw, ← key, e0]
  constructor
  ·
   intro hh j hj; have := hh j hj; rw [hlat j hj] at this; exact this
  ·
   intro hh j hj; rw [hlat j hj]; exact hh j hj
theorem js {P : List (List Int)} {L : List Int} {d : Nat} (h : Smp P L d) (kk : Nat) (hk : 2 ≤ kk ∧ kk ≤ d + 2) (bn : Bool) (hN : ∃ r : List Int × List Int, Ev (fun k => spec_l4Find.l0 k (((kk + 1 : Nat) : Int)) P L) r ∧ ((r.1.length : Int) == 0) = bn) :
  ∀ e i, i + e = (cmbs P.length kk 0).length → ∃ r : List Int × List Int, Ev (fun k => spec_l4Find.l1 k (kk : Int) (cmbs P.length kk 0) (i : Int) P L) r ∧ ((r.1.length : Int) == 0) = (!(((cmbs P.length kk 0).drop i).any (prB P L d)) && bn) := by
 have hd := h.hd
 have hn := h.hn
 have hmany := zK P.length kk 0
 have hp : P.length ^ kk ≤ 16 ^ 6 := Nat.le_trans (Nat.pow_le_pow_left hn kk) (Nat.pow_le_pow_right (by decide) (by omega))
 have hp2 : (16 : Nat) ^ 6 = 16777216 := by decide
 intro e
 induction e with
 | zero =>
  intro i hi
  obtain ⟨r, hr, hb⟩ := hN
  refine ⟨r, Ev.step (fun k => spec_l4Find.l1.eq_2 ..) (evn (by omega) ?_), ?_⟩
  ·
   rw [w64s kk (by omega)]; exact hr
  ·
   rw [List.drop_of_length_le (by omega), hb]; simp
 | succ e ih =>
  intro i hi
  have hi2 : i < (cmbs P.length kk 0).length := by omega
  obtain ⟨r', hr', hb'⟩ := ih (i + 1) (by omega)
  have hmem : (cmbs P.length kk 0)[i] ∈ cmbs P.length kk 0 := List.getElem_mem hi2
  have hln := cmbs_len P.length kk 0 _ hmem
  have hin := qf P.length kk 0 _ hmem
  have hg : (cmbs P.length kk 0).getD i [] = (cmbs P.length kk 0)[i] := by rw [List.getD_eq_getElem?_getD, List.getElem?_eq_getElem hi2]; rfl
  rw [List.drop_eq_getElem_cons hi2, List.any_cons]
  generalize (cmbs P.length kk 0)[i] = s at hmem hln hin hg
  have hpl : (zc P s).length = s.length := by unfold zc; rw [List.length_map]
  have hpt : ∀ j, j < s.length → (zc P s).getD j [] = P.getD (s.getD j 0).toNat [] := fun j hj => by
   unfold zc; simp [List.getD_eq_getElem?_getD, List.getElem?_map, List.getElem?_eq_getElem hj]
  have hE := sEqs (zc P s) d (by omega) (by omega) (fun j hj => by
   rw [hpt j (by omega)]
   obtain ⟨q, e, hq⟩ := hin _ (zy s j (by omega))
   rw [e, Int.toNat_natCast]; exact (h.rows q hq).1)
  obtain ⟨r, hr, hcase⟩ := sSet h s hin (by omega)
  rw [hln] at hr
  have pre : ∀ R : List Int × List Int, Ev (fun k => if r.2 = true then ((spec_l4Signs.f k r.1 (zg L s)).bind fun bt => if bt.2 = true then some (s, bt.1) else spec_l4Find.l1 k (kk : Int) (cmbs P.length kk 0) (((i + 1 : Nat) : Int)) P L) else spec_l4Find.l1 k (kk : Int) (cmbs P.length kk 0) (((i + 1 : Nat) : Int)) P L) R → Ev (fun k => spec_l4Find.l1 k (kk : Int) (cmbs P.length kk 0) (i : Int) P L) R := fun R hR => by
   refine Ev.step (fun k => spec_l4Find.l1.eq_2 ..) (evp (by omega) (evp (by omega) ?_))
   rw [zf, hg, w64s i (by omega)]
   exact evb (kA h s hin (by omega)) (evb hE (evb hr hR))
  rcases hcase with ⟨h1, h2⟩ | ⟨h1, t, ht, h2⟩
  ·
   refine ⟨r', pre r' (evn (by rw [h1]; decide) hr'), ?_⟩
   rw [hb', h2, Bool.false_or]
  ·
   cases hp : prB P L d s with
   | true =>
    rw [hp] at h2
    refine ⟨(s, t.1), pre _ (evp h1 (evb ht (evp h2 (evs rfl)))), ?_⟩
    simp only [Bool.true_or, Bool.not_true, Bool.false_and]
    exact beq_eq_false_iff_ne.2 (by omega)
   | false =>
    rw [hp] at h2
    refine ⟨r', pre r' (evp h1 (evb ht (evn (by rw [h2]; decide) hr'))), ?_⟩
    rw [hb', Bool.false_or]
theorem jt {P : List (List Int)} {L : List Int} {d : Nat} (h : Smp P L d) (h0 : 1 ≤ P.length) : ∀ e kk, kk + e = d + 3 → 2 ≤ kk → ∃ r : List Int × List Int, Ev (fun k => spec_l4Find.l0 k (kk : Int) P L) r ∧ ((r.1.length : Int) == 0) = !((List.range' kk e).flatMap fun r => cmbs P.length r 0).any (prB P L d) := by
 have hd := h.hd
 have hn := h.hn
 have hrow : (rd_L1 P 0).length = d := by rw [show rd_L1 P 0 = P.getD 0 [] from zf P 0]; exact (h.rows 0 (by omega)).1
 have hw : wrap64 ((d : Int) + 2) = (d : Int) + 2 := w64 (by omega) (by omega)
 intro e
 induction e with
 | zero =>
  intro kk hk _
  refine ⟨([], []), Ev.step (fun k => spec_l4Find.l0.eq_2 ..) (evp (by omega) ?_), rfl⟩
  rw [hrow, hw]
  exact evn (by omega) (evs rfl)
 | succ e ih =>
  intro kk hk h2
  obtain ⟨r1, hr1, hb1⟩ := ih (kk + 1) (by omega) (by omega)
  obtain ⟨r, hr, hb⟩ := js h kk (by omega) _ ⟨r1, hr1, hb1⟩ (cmbs P.length kk 0).length 0 (by omega)
  refine ⟨r, Ev.step (fun k => spec_l4Find.l0.eq_2 ..) (evp (by omega) ?_), ?_⟩
  ·
   rw [hrow, hw]
   exact evp (by omega) (evb (jq P.length kk hn (by omega)) hr)
  ·
   rw [hb, List.drop_zero, List.range'_succ, List.flatMap_cons, List.any_append, Bool.not_or]
theorem sCanPart {P : List (List Int)} {L : List Int} {d : Nat} (h : Smp P L d) : Ev (fun k => spec_l4Can.f k P L) (canV P L d) := by
 have hd := h.hd
 unfold spec_l4Can.f spec_l4Find.f
 by_cases h0 : P.length = 0
 ·
  refine evb (evp (by omega) (evs rfl)) (evs ?_)
  unfold canV
  have e : ((List.range' 2 (d + 1)).flatMap fun r => cmbs P.length r 0) = [] := by
   rw [List.flatMap_eq_nil_iff]
   intro r hr
   have hr := List.mem_range'_1.1 hr
   exact (zx P.length r 0 (by omega)).resolve_right (by omega)
  rw [e]; rfl
 ·
  obtain ⟨r, hr, hb⟩ := jt h (by omega) (d + 1) 2 (by omega) (Nat.le_refl _)
  exact evb (evn (by omega) hr) (evs hb)
end Gw
theorem zn (m s : Nat) : (labelsOf m s).length = m := by simp [labelsOf]
theorem qO (m : Nat) (h : m ≤ 8) : 1 ≤ 2 ^ m ∧ 2 ^ m ≤ 256 := ⟨Nat.two_pow_pos m, Nat.pow_le_pow_right (n := 2) (by decide) h⟩
theorem ja (m : Nat) (hm : m ≤ 8) (out : List (List Int)) (hol : out.length ≤ 256) (s : Nat) (hs : s < 256) (R : List (List Int))
  (hK : Ev (fun k => spec_l7Lists.l0 k (m : Int) (out ++ [labelsOf m s]) ((s + 1 : Nat) : Int)) R) : ∀ d i, i + d = m → Ev (fun k => spec_l7Lists.l1 k (m : Int) out (s : Int) ((List.range i).map fun i : Nat => 2 * ((s / 2 ^ (m - 1 - i) % 2 : Nat) : Int) - 1) (i : Int)) R := by
 intro d
 induction d with
 | zero =>
  intro i hi
  obtain rfl : i = m := by omega
  refine Ev.step (fun k => spec_l7Lists.l1.eq_2 ..) (evn (by omega) (evp (by omega) ?_))
  rw [w64s s (by omega)]
  exact hK
 | succ d ih =>
  intro i hi
  have hnx := ih (i + 1) (by omega)
  have e1 : wrap64 (wrap64 ((m : Int) - 1) - (i : Int)) = ((m - 1 - i : Nat) : Int) := by
   rw [w64 (x := (m : Int) - 1) (by omega) (by omega), w64 (by omega) (by omega)]; omega
  refine Ev.step (fun k => spec_l7Lists.l1.eq_2 ..) (evp (by omega) ?_)
  rw [e1]
  refine evp (by omega) (evp (by simp; omega) ?_)
  have hb := bit_lt s (m - 1 - i)
  rw [digit s (m - 1 - i) (by omega) (by omega), labels_wrap _ hb, w64s i (by omega)]
  have := labelsOf_take m s i (by omega)
  rw [← this] at hnx
  exact hnx
theorem jb (m : Nat) (hm : m ≤ 8) : ∀ d s, s + d = 2 ^ m → Ev (fun k => spec_l7Lists.l0 k (m : Int) ((List.range s).map (labelsOf m)) (s : Int)) ((List.range (2 ^ m)).map (labelsOf m)) := by
 have hp := qO m hm
 intro d
 induction d with
 | zero =>
  intro s hs
  obtain rfl : s = 2 ^ m := by omega
  exact Ev.step (fun k => spec_l7Lists.l0.eq_2 ..) (evp (by omega) (evn (by rw [shl1 m (by omega)]; omega) (evs rfl)))
 | succ d ih =>
  intro s hs
  have hnx := ih (s + 1) (by omega)
  refine Ev.step (fun k => spec_l7Lists.l0.eq_2 ..) (evp (by omega) (evp (by rw [shl1 m (by omega)]; omega) ?_))
  refine ja m hm _ (by simp; omega) s (by omega) _ ?_ m 0 (by omega)
  rw [List.range_succ, List.map_append] at hnx
  exact hnx
theorem kn (m : Nat) (hm : m ≤ 8) : Ev (fun k => spec_l7Lists.f k (m : Int)) ((List.range (2 ^ m)).map (labelsOf m)) := by
 unfold spec_l7Lists.f
 exact jb m hm (2 ^ m) 0 (by omega)
def dm (P : List (List Int)) : Nat := if P.length = 0 then 1 else (rdl P 0).length
theorem jc {P : List (List Int)} {L : List Int} (h : sampB P L = true) : Gw.Smp P L (dm P) := by
 simp only [sampB, Bool.and_eq_true, decide_eq_true_eq, List.all_eq_true, List.mem_range] at h
 obtain ⟨h1, h2, h3, h4⟩ := h
 have hs : ∀ i, i < P.length → (1 ≤ (rdl P i).length ∧ (rdl P i).length ≤ 4) ∧ (∀ x ∈ rdl P i, -9 ≤ x ∧ x ≤ 9) ∧ (rdl P i).length = (rdl P 0).length := fun i hi => by
  have := h4 i hi
  simp only [spok, pointB, inB, Bool.and_eq_true, decide_eq_true_eq, List.all_eq_true] at this
  exact ⟨this.1.1, this.1.2, this.2⟩
 unfold dm
 refine ⟨?_, h1, h2, fun i hi => ?_, fun i hi => ?_⟩
 ·
  by_cases e : P.length = 0
  ·
   rw [if_pos e]; omega
  ·
   rw [if_neg e]; exact (hs 0 (by omega)).1
 ·
  rw [if_neg (by omega)]
  obtain ⟨a, b, c⟩ := hs i hi
  refine ⟨c, fun t ht => ?_⟩
  have ht2 : t < (rdl P i).length := by omega
  have : (P.getD i []).getD t 0 = (rdl P i)[t] := by rw [List.getD_eq_getElem?_getD, show P.getD i [] = rdl P i from rfl, List.getElem?_eq_getElem ht2]; rfl
  rw [this]
  exact b _ (List.getElem_mem ht2)
 ·
  simp only [labB, List.all_eq_true, decide_eq_true_eq] at h3
  have hil : i < L.length := by omega
  rw [List.getD_eq_getElem?_getD, List.getElem?_eq_getElem hil]
  exact h3 _ (List.getElem_mem hil)
theorem zN (P : List (List Int)) {L L' : List Int} (h : L.length = L'.length) (h1 : labB L = true) (h2 : labB L' = true) : sampB P L = sampB P L' := by
 unfold sampB; rw [h1, h2, h]
theorem jd (m s : Nat) : labB (labelsOf m s) = true := by
 simp only [labB, List.all_eq_true, decide_eq_true_eq]
 intro x hx
 obtain ⟨i, _, rfl⟩ := List.mem_map.1 hx
 have := Nat.mod_lt (s / 2 ^ (m - 1 - i)) (show 0 < 2 by decide)
 omega
theorem qj (n : Nat) : labB (List.replicate n 1) = true := by
 simp only [labB, List.all_eq_true, decide_eq_true_eq]
 intro x hx
 exact .inl (List.eq_of_mem_replicate hx)
def zq (P : List (List Int)) : Bool := decide (P.length ≤ 8) && sampB P (List.replicate P.length 1)
theorem qC {P : List (List Int)} (h : zq P = true) (s : Nat) : sampB P (labelsOf P.length s) = true := by
 unfold zq at h
 rw [Bool.and_eq_true] at h
 rw [zN P (by rw [zn, List.length_replicate]) (jd _ s) (qj P.length)]; exact h.2
noncomputable def pcV (P : List (List Int)) : List (List Int) × Bool := if zq P = true then (((List.range (2 ^ P.length)).map (labelsOf P.length)).filter (fun h => Gw.canV P h (dm P)), true) else ([], false)
theorem qk {P : List (List Int)} (h : zq P = true) : P.length ≤ 8 := by
 unfold zq at h; rw [Bool.and_eq_true, decide_eq_true_eq] at h; exact h.1
theorem jN (P : List (List Int)) : (pcV P).1.length ≤ 256 ∧ ∀ r ∈ (pcV P).1, r.length ≤ 8 := by
 unfold pcV
 by_cases c : zq P = true
 ·
  rw [if_pos c]
  have hm := qk c
  have hp := qO P.length hm
  refine ⟨Nat.le_trans (List.length_filter_le _ _) (by rw [List.length_map, List.length_range]; exact hp.2), fun r hr => ?_⟩
  obtain ⟨s, _, rfl⟩ := List.mem_map.1 (List.mem_filter.1 hr).1
  rw [zn]; exact hm
 ·
  rw [if_neg c]
  exact ⟨by simp, fun r hr => by cases hr⟩
theorem ju (n i : Nat) (h : i < n) : (List.replicate i (1 : Int) ++ List.replicate (n - i) 0).set i 1 = List.replicate (i + 1) 1 ++ List.replicate (n - (i + 1)) 0 := by
 rw [show n - i = (n - (i + 1)) + 1 by omega, List.replicate_succ, List.set_append_right _ _ (by simp), List.length_replicate, Nat.sub_self, List.set_cons_zero]
 rw [show List.replicate (i + 1) (1 : Int) = List.replicate i 1 ++ [1] from List.replicate_succ', List.append_assoc]; rfl
theorem je (P : List (List Int)) (hx : P.length ≤ 1048576) (hr : ∀ r ∈ P, (r.length : Int) ≤ 1048576) : ∀ d i, i + d = P.length → Ev (fun k => impl_areFew.l0 k P (List.replicate i (1 : Int) ++ List.replicate (P.length - i) 0) (P.length : Int) (i : Int)) (zq P) := by
 intro d
 induction d with
 | zero =>
  intro i hi
  obtain rfl : i = P.length := by omega
  refine Ev.step (fun k => impl_areFew.l0.eq_2 ..) (evn (by omega) ?_)
  rw [Nat.sub_self, show List.replicate 0 (0 : Int) = [] from rfl, List.append_nil]
  unfold zq
  by_cases c : P.length ≤ 8
  ·
   refine evp (by omega) (evb (qU P _ hx hr) (evs ?_))
   rw [decide_eq_true c, Bool.true_and]
  ·
   exact evn (by omega) (evs (by rw [decide_eq_false c]; rfl))
 | succ d ih =>
  intro i hi
  refine Ev.step (fun k => impl_areFew.l0.eq_2 ..) (evp (by omega) (evp (by omega) (evp (by simp; omega) ?_)))
  rw [Int.toNat_natCast, ju P.length i (by omega), w64s i (by omega)]
  exact ih (i + 1) (by omega)
theorem ko (P : List (List Int)) (hx : P.length ≤ 1048576) (hr : ∀ r ∈ P, (r.length : Int) ≤ 1048576) : Ev (fun k => impl_areFew.f k P) (zq P) := by
 unfold impl_areFew.f
 refine evp (by omega) (evp (by omega) (evb (evs rfl) ?_))
 rw [Int.toNat_natCast, List.length_replicate]
 have := je P hx hr P.length 0 (by omega)
 simpa using this
theorem jO {α β : Type} (g : Nat → α → Option β) (v : α → β) : ∀ L : List α, (∀ s ∈ L, Ev (fun k => g k s) (v s)) → ∃ K, ∀ k, K ≤ k → ∀ s ∈ L, g k s = some (v s) := by
 intro L
 induction L with
 | nil => intro _; exact ⟨0, fun k _ s hs => by cases hs⟩
 | cons a L ih =>
  intro h
  obtain ⟨K1, h1⟩ := h a (by simp)
  obtain ⟨K2, h2⟩ := ih fun s hs => h s (by simp [hs])
  refine ⟨max K1 K2, fun k hk s hs => ?_⟩
  rcases List.mem_cons.1 hs with rfl | hs
  ·
   exact h1 k (by omega)
  ·
   exact h2 k (by omega) s hs
theorem qr (P : List (List Int)) (hx : P.length ≤ 1048576) (hr : ∀ r ∈ P, (r.length : Int) ≤ 1048576) : Ev (fun k => impl_PlaneClass.f k P) (pcV P) := by
 unfold impl_PlaneClass.f pcV
 refine evb (ko P hx hr) ?_
 by_cases c : zq P = true
 ·
  rw [if_pos c]
  refine evp c ?_
  obtain ⟨K, hK⟩ := jO (fun k s => impl_Sample_canPart.f k P (labelsOf P.length s)) (fun s => Gw.canV P (labelsOf P.length s) (dm P)) (List.range (2 ^ P.length)) (fun s _ => Gw.iCanPart (jc (qC c s)))
  refine ⟨K, fun k hk => ?_⟩
  have h := hK k hk
  refine Eq.trans (if_pos ⟨qk c, fun s hs => by rw [h s hs]; rfl⟩) ?_
  congr 2
  apply List.filter_congr
  intro x hx
  obtain ⟨s, hs, rfl⟩ := List.mem_map.1 hx
  rw [h s hs]; rfl
 ·
  rw [if_neg c]
  exact evn c (evs rfl)
theorem kp (P : List (List Int)) (hx : P.length ≤ 1048576) (hr : ∀ r ∈ P, (r.length : Int) ≤ 1048576) (all : List (List Int)) (hall : all.length ≤ 256) (hs : ∀ r ∈ all, r.length ≤ 8 ∧ sampB P r = true) : ∀ d i (out : List (List Int)), i + d = all.length → out.length ≤ i → Ev (fun k => spec_PlaneClass.l0 k P out all (i : Int)) (out ++ (all.drop i).filter (fun h => Gw.canV P h (dm P)), true) := by
 intro d
 induction d with
 | zero =>
  intro i out hi _
  refine Ev.step (fun k => spec_PlaneClass.l0.eq_2 ..) (evn (by omega) (evs ?_))
  rw [List.drop_of_length_le (by omega)]; simp
 | succ d ih =>
  intro i out hi ho
  have hil : i < all.length := by omega
  have e : all.drop i = rdl all i :: all.drop (i + 1) := rdl_drop all i hil
  obtain ⟨hm, hsm⟩ := hs _ (rdl_mem all i hil)
  have hcp : Ev (fun k => spec_CanPart.f k P (rdl all i)) (Gw.canV P (rdl all i) (dm P), true) := by
   unfold spec_CanPart.f
   exact evb (zR P (rdl all i) hx hr (by omega)) (evp hsm (evb (Gw.sCanPart (jc hsm)) (evs rfl)))
  refine Ev.step (fun k => spec_PlaneClass.l0.eq_2 ..) (evp (by omega) (evp (by omega) ?_))
  rw [show rd_L1 all (i : Int) = rdl all i from zO all i]
  refine evb hcp (evp rfl ?_)
  rw [e, w64s i (by omega)]
  by_cases c : Gw.canV P (rdl all i) (dm P) = true
  ·
   refine evp c (evp (by omega) ?_)
   have h1 := ih (i + 1) (out ++ [rdl all i]) (by omega) (by rw [List.length_append, List.length_singleton]; omega)
   rw [List.append_assoc] at h1
   rw [List.filter_cons, if_pos c]
   exact h1
  ·
   refine evn c ?_
   have h1 := ih (i + 1) out (by omega) (by omega)
   rw [List.filter_cons, if_neg c]
   exact h1
theorem qs (P : List (List Int)) (hx : P.length ≤ 1048576) (hr : ∀ r ∈ P, (r.length : Int) ≤ 1048576) : Ev (fun k => spec_PlaneClass.f k P) (pcV P) := by
 have hl : spec_l1Least.f (P.length : Int) 8 = some ((min P.length 8 : Nat) : Int) := by
  unfold spec_l1Least.f
  by_cases c : (P.length : Int) < 8
  ·
   rw [if_pos c]; congr 1; omega
  ·
   rw [if_neg c]; congr 1; omega
 unfold spec_PlaneClass.f
 refine evb (evs rfl) (evb (evc hl) (evb (kn (min P.length 8) (by omega)) ?_))
 by_cases c : P.length ≤ 8
 ·
  rw [show min P.length 8 = P.length by omega]
  have hp := qO P.length c
  have h0 : rdl ((List.range (2 ^ P.length)).map (labelsOf P.length)) 0 = labelsOf P.length 0 := by
   unfold rdl
   rw [List.getD_eq_getElem?_getD, List.getElem?_map, List.getElem?_range (Nat.two_pow_pos _)]; rfl
  refine evn (by omega) (evp (by rw [List.length_map, List.length_range]; omega) ?_)
  rw [show rd_L1 ((List.range (2 ^ P.length)).map (labelsOf P.length)) 0 = labelsOf P.length 0 from (zO _ 0).trans h0]
  refine evb (zR P _ hx hr (by rw [zn]; omega)) ?_
  have hsf : sampB P (labelsOf P.length 0) = zq P := by
   unfold zq
   rw [decide_eq_true c, Bool.true_and, zN P (by rw [zn, List.length_replicate]) (jd _ 0) (qj P.length)]
  rw [hsf]
  unfold pcV
  by_cases e : zq P = true
  ·
   rw [if_pos e, e]
   refine Ev.step (fun k => spec_PlaneClass.j0.eq_2 ..) (evn (by decide) ?_)
   have := kp P hx hr ((List.range (2 ^ P.length)).map (labelsOf P.length)) (by rw [List.length_map, List.length_range]; exact hp.2) (fun r hr => by
    obtain ⟨s, _, rfl⟩ := List.mem_map.1 hr
    exact ⟨by rw [zn]; exact c, qC e s⟩) ((List.range (2 ^ P.length)).map (labelsOf P.length)).length 0 [] (by omega) (by simp)
   exact this
  ·
   rw [if_neg e, (Bool.not_eq_true _).mp e]
   exact Ev.step (fun k => spec_PlaneClass.j0.eq_2 ..) (evp rfl (evs rfl))
 ·
  refine evp (by omega) (Ev.step (fun k => spec_PlaneClass.j0.eq_2 ..) (evp rfl (evs ?_)))
  unfold pcV
  rw [if_neg (fun h => c (qk h))]
theorem law (c : List (List Int)) (hc : c.length ≤ maxLen) (hr : ∀ r ∈ c, r.length ≤ maxLen) : Ev (fun k => laws_FnExactPlaneClass.f k c) true := by
 unfold laws_FnExactPlaneClass.f
 refine evb (jA c 1048576 (by omega) (by omega) hc hr) ?_
 obtain ⟨h1, h2, h3⟩ := szv_ok c 1048576 (by omega)
 by_cases h : 0 ≤ szv c 1048576
 ·
  obtain ⟨h4, h5⟩ := h3 h
  have hs := qs c (by omega) h5
  have hi := qr c (by omega) h5
  obtain ⟨hb1, hb2⟩ := jN c
  have ht := zG (pcV c).1 (fun r hr => by have := hb2 r hr; omega)
  have hn := zo (pcV c).1
  have ht2 := zG c h5
  have hn2 := zo c
  generalize pcV c = R at *
  refine evn (by omega) (evb (jB c (by omega) h5) (evb hs (evb hi (evp rfl (evb (qu R.1 R.1 (by omega) (fun r hr => by have := hb2 r hr; omega)) (evp (by simp) (evb (qu c c (by omega) h5) (evp (by simp) (evb (zJ c 1 (by omega) (by omega) (by omega)) (evp (by first | omega | (simp only; omega)) (evb (zJ R.1 1 (by omega) (by omega) (by omega)) (evb (qW R.1 1 (by omega) (by omega) (by omega)) (evp ⟨rfl, by first | omega | (simp only; omega)⟩ (evs rfl))))))))))))))
 ·
  exact evp (by omega) (evs rfl)
end Go.Proofs.Ytgidnmpppbkamaa.LFnExactPlaneClass
