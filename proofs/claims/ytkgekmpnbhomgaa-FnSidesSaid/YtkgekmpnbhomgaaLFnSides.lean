-- Own text.
import Derived.Test.YtkgekmpnbhomgaaMFnSidesx19
import Derived.Test.YtkgekmpnbhomgaaZFnSidesBase
namespace Go.Proofs.Ytkgekmpnbhomgaa.LFnSides
open Go Go.RowKit Go.Proofs.Ytkgekmpnbhomgaa.Base Go.Proofs.Ytkgekmpnbhomgaa.PFnSides Go.Proofs.YtkgekmpnbhomgaaW.PrintWords Go.Proofs.YtkgekmpnbhomgaaW.PrintLast Go.Proofs.YtkgekmpnbhomgaaW.PrintMore
set_option linter.unusedVariables false
set_option linter.unusedSimpArgs false
set_option maxRecDepth 4000
theorem qB (a b c : Int) : spec_l1In.f a b c = some (decide (b ≤ a ∧ a ≤ c)) := by
 unfold spec_l1In.f; split <;> simp_all <;> omega
theorem zC (a b c : Int) : impl_within.f a b c = some (decide (b ≤ a ∧ a ≤ c)) := by
 unfold impl_within.f; split <;> simp_all <;> omega
theorem zT (lo up : Int) (l : List Int) (hx : l.length < 4611686018427387904) : ∀ (d i : Nat), i + d = l.length →
  Ev (fun k => impl_allWithin.l0 k lo up l (l.length : Int) (i : Int)) ((l.drop i).all fun x => decide (lo ≤ x ∧ x ≤ up)) := by
 intro d
 induction d with
 | zero =>
  intro i hi
  refine Ev.step (fun k => impl_allWithin.l0.eq_2 ..) (evn (by omega) (evs ?_))
  simp [List.drop_of_length_le (show l.length ≤ i by omega)]
 | succ d ih =>
  intro i hi
  refine Ev.step (fun k => impl_allWithin.l0.eq_2 ..) (evp (by omega) (evp (by omega) (evp (by omega) ?_)))
  rw [w64s i (by omega), rd_nat, zC, List.drop_eq_getElem_cons (show i < l.length by omega)]
  simp only [List.getD_eq_getElem?_getD, List.getElem?_eq_getElem (show i < l.length by omega), Option.getD_some, Option.bind_some, List.all_cons]
  by_cases e : lo ≤ l[i] ∧ l[i] ≤ up
  · refine evp (by simpa using e) (evr (ih (i + 1) (by omega)) (by simp [e]))
  · refine evn (by simpa using e) (evs (by simp [e]))
theorem zL (l : List Int) (lo up : Int) (hx : l.length < 4611686018427387904) : Ev (fun k => impl_allWithin.f k l lo up) (l.all fun x => decide (lo ≤ x ∧ x ≤ up)) := by
 unfold impl_allWithin.f
 exact zT lo up l hx l.length 0 (by omega)
theorem kb (l : List Int) (h : l.length < 17592186044416) : spec_l1Own.f l = some l := by
 unfold spec_l1Own.f
 simp only [Option.bind_some]
 rw [if_pos (by simpa using h)]; rfl
theorem qq (l : List Int) (hx : l.length < 4611686018427387904) : ∀ (d i : Nat), i + d = l.length →
  Ev (fun k => spec_l2Labels.l0 k l (i : Int)) (labB (l.drop i)) := by
 intro d
 induction d with
 | zero =>
  intro i hi
  exact Ev.step (fun k => spec_l2Labels.l0.eq_2 ..) (evn (by omega) (evs (by rw [List.drop_of_length_le (show l.length ≤ i by omega)]; rfl)))
 | succ d ih =>
  intro i hi
  refine Ev.step (fun k => spec_l2Labels.l0.eq_2 ..) (evp (by omega) (evp (by omega) ?_))
  rw [w64s i (by omega), rd_nat, List.drop_eq_getElem_cons (show i < l.length by omega)]
  simp only [List.getD_eq_getElem?_getD, List.getElem?_eq_getElem (show i < l.length by omega), Option.getD_some, labB, List.all_cons]
  by_cases e : l[i] = 1
  · exact evp e (evr (ih (i + 1) (by omega)) (by rw [decide_eq_true (.inl e)]; rfl))
  ·
   refine evn e ?_
   by_cases e' : l[i] = -1
   · exact evp e' (evr (ih (i + 1) (by omega)) (by rw [decide_eq_true (.inr e')]; rfl))
   · exact evn e' (evs (by rw [decide_eq_false (fun h => h.elim e e')]; rfl))
theorem qT (l : List Int) (hx : l.length < 4611686018427387904) : Ev (fun k => spec_l2Labels.f k l) (labB l) := by
 unfold spec_l2Labels.f
 exact qq l hx l.length 0 (by omega)
theorem jr (x : Int) : impl_isLabel.f x = some (decide (x = 1 ∨ x = -1)) := by
 unfold impl_isLabel.f
 by_cases e : x = 1
 · rw [if_pos e, decide_eq_true (.inl e)]
 · rw [if_neg e]; congr 1; rw [Bool.eq_iff_iff]; simp [e]
theorem qU (a b : List Int) (M : Int) (hM : 0 ≤ M ∧ M ≤ 1000000000000) (hab : ∀ i, -M ≤ a.getD i 0 * b.getD i 0 ∧ a.getD i 0 * b.getD i 0 ≤ M) (hl : a.length ≤ 1000) (hb : a.length ≤ b.length) : ∀ (d i : Nat) (s : Int), i + d = a.length → -(M * i) ≤ s → s ≤ M * i →
  Ev (fun k => spec_l2Dot.l0 k a b s (i : Int)) (s + dot (a.drop i) (b.drop i)) := by
 intro d
 induction d with
 | zero =>
  intro i s hi h0 hs
  exact Ev.step (fun k => spec_l2Dot.l0.eq_2 ..) (evn (by omega) (evs (by rw [List.drop_of_length_le (show a.length ≤ i by omega)]; simp [dot])))
 | succ d ih =>
  intro i s hi h0 hs
  have hm := hab i
  have hMi : M * (i : Int) ≤ 1000000000000 * 1000 := Int.mul_le_mul hM.2 (by omega) (by omega) (by omega)
  have hMs : M * ((i + 1 : Nat) : Int) = M * i + M := by rw [show ((i + 1 : Nat) : Int) = (i : Int) + 1 by omega, Int.mul_add]; omega
  refine Ev.step (fun k => spec_l2Dot.l0.eq_2 ..) (evp (by omega) (evp (by omega) (evp (by omega) ?_)))
  rw [rd_nat, rd_nat, w64s i (by omega), w64 (x := a.getD i 0 * b.getD i 0) (by omega) (by omega), w64 (x := s + a.getD i 0 * b.getD i 0) (by omega) (by omega)]
  refine evr (ih (i + 1) _ (by omega) (by omega) (by omega)) ?_
  rw [List.drop_eq_getElem_cons (show i < a.length by omega), List.drop_eq_getElem_cons (show i < b.length by omega)]
  simp only [List.getD_eq_getElem?_getD, List.getElem?_eq_getElem (show i < a.length by omega), List.getElem?_eq_getElem (show i < b.length by omega), Option.getD_some, dot]; omega
theorem qu {l : List Int} {A : Int} (hA : 0 ≤ A) (h : ∀ x ∈ l, -A ≤ x ∧ x ≤ A) (i : Nat) : -A ≤ l.getD i 0 ∧ l.getD i 0 ≤ A := by
 by_cases hi : i < l.length
 · rw [List.getD_eq_getElem?_getD, List.getElem?_eq_getElem hi]; exact h _ (List.getElem_mem hi)
 · rw [List.getD_eq_getElem?_getD, List.getElem?_eq_none (by omega)]; simp; omega
theorem jk (a b : List Int) (A B : Int) (hA : 0 ≤ A ∧ A ≤ 1000000) (hB : 0 ≤ B ∧ B ≤ 1000000) (ha : ∀ x ∈ a, -A ≤ x ∧ x ≤ A) (hb : ∀ x ∈ b, -B ≤ x ∧ x ≤ B) (hl : a.length ≤ 1000) (hab : a.length ≤ b.length) : Ev (fun k => spec_l2Dot.f k a b) (dot a b) := by
 unfold spec_l2Dot.f
 have hM : A * B ≤ 1000000 * 1000000 := Int.mul_le_mul hA.2 hB.2 hB.1 (by omega)
 have hM0 := Int.mul_nonneg hA.1 hB.1
 exact evr (qU a b (A * B) ⟨hM0, by omega⟩ (fun i => mul_bd (qu hA.1 ha i) (qu hB.1 hb i)) hl hab a.length 0 0 (by omega) (by simp) (by simp)) (by simp)
theorem qC (a b : List Int) (M : Int) (hM : 0 ≤ M ∧ M ≤ 1000000000000) (hab : ∀ i, -M ≤ a.getD i 0 * b.getD i 0 ∧ a.getD i 0 * b.getD i 0 ≤ M) (hl : a.length ≤ 1000) (hb : a.length ≤ b.length) : ∀ (d i : Nat) (s : Int), i + d = a.length → -(M * i) ≤ s → s ≤ M * i →
  Ev (fun k => impl_product.l0 k b s a (a.length : Int) (i : Int)) (s + dot (a.drop i) (b.drop i)) := by
 intro d
 induction d with
 | zero =>
  intro i s hi h0 hs
  exact Ev.step (fun k => impl_product.l0.eq_2 ..) (evn (by omega) (evs (by rw [List.drop_of_length_le (show a.length ≤ i by omega)]; simp [dot])))
 | succ d ih =>
  intro i s hi h0 hs
  have hm := hab i
  have hMi : M * (i : Int) ≤ 1000000000000 * 1000 := Int.mul_le_mul hM.2 (by omega) (by omega) (by omega)
  have hMs : M * ((i + 1 : Nat) : Int) = M * i + M := by rw [show ((i + 1 : Nat) : Int) = (i : Int) + 1 by omega, Int.mul_add]; omega
  refine Ev.step (fun k => impl_product.l0.eq_2 ..) (evp (by omega) (evp (by omega) (evp (by omega) (evp (by omega) ?_))))
  rw [rd_nat, rd_nat, w64s i (by omega), w64 (x := a.getD i 0 * b.getD i 0) (by omega) (by omega), w64 (x := s + a.getD i 0 * b.getD i 0) (by omega) (by omega)]
  refine evr (ih (i + 1) _ (by omega) (by omega) (by omega)) ?_
  rw [List.drop_eq_getElem_cons (show i < a.length by omega), List.drop_eq_getElem_cons (show i < b.length by omega)]
  simp only [List.getD_eq_getElem?_getD, List.getElem?_eq_getElem (show i < a.length by omega), List.getElem?_eq_getElem (show i < b.length by omega), Option.getD_some, dot]; omega
theorem zU {l : List Int} {A : Int} (hA : 0 ≤ A) (h : ∀ x ∈ l, -A ≤ x ∧ x ≤ A) (i : Nat) : -A ≤ l.getD i 0 ∧ l.getD i 0 ≤ A := by
 by_cases hi : i < l.length
 · rw [List.getD_eq_getElem?_getD, List.getElem?_eq_getElem hi]; exact h _ (List.getElem_mem hi)
 · rw [List.getD_eq_getElem?_getD, List.getElem?_eq_none (by omega)]; simp; omega
theorem qv (a b : List Int) (A B : Int) (hA : 0 ≤ A ∧ A ≤ 1000000) (hB : 0 ≤ B ∧ B ≤ 1000000) (ha : ∀ x ∈ a, -A ≤ x ∧ x ≤ A) (hb : ∀ x ∈ b, -B ≤ x ∧ x ≤ B) (hl : a.length ≤ 1000) (hab : a.length ≤ b.length) : Ev (fun k => impl_product.f k a b) (dot a b) := by
 unfold impl_product.f
 have hM : A * B ≤ 1000000 * 1000000 := Int.mul_le_mul hA.2 hB.2 hB.1 (by omega)
 have hM0 := Int.mul_nonneg hA.1 hB.1
 exact evr (qC a b (A * B) ⟨hM0, by omega⟩ (fun i => mul_bd (zU hA.1 ha i) (zU hB.1 hb i)) hl hab a.length 0 0 (by omega) (by simp) (by simp)) (by simp)
theorem zD (a : List Int) (b : Int) (x : List Int) (A B : Int) (hA : 0 ≤ A ∧ A ≤ 1000000) (hB : 0 ≤ B ∧ B ≤ 1000000) (ha : ∀ x ∈ a, -A ≤ x ∧ x ≤ A) (hb : ∀ y ∈ x, -B ≤ y ∧ y ≤ B) (hl : a.length ≤ 1000) (hab : a.length ≤ x.length) : Ev (fun k => spec_l2Side.f k a b x) (sideV a b x) := by
 unfold spec_l2Side.f sideV
 refine evb (jk a x A B hA hB ha hb hl hab) ?_
 by_cases e : dot a x ≥ b
 · exact evp e (evs (by rw [if_pos e]))
 · exact evn e (evs (by rw [if_neg e]))
theorem qD (a : List Int) (b : Int) (x : List Int) (A B : Int) (hA : 0 ≤ A ∧ A ≤ 1000000) (hB : 0 ≤ B ∧ B ≤ 1000000) (ha : ∀ x ∈ a, -A ≤ x ∧ x ≤ A) (hb : ∀ y ∈ x, -B ≤ y ∧ y ≤ B) (hl : a.length ≤ 1000) (hab : a.length ≤ x.length) : Ev (fun k => impl_Plane_side.f k a b x) (sideV a b x) := by
 unfold impl_Plane_side.f sideV
 refine evb (qv a x A B hA hB ha hb hl hab) ?_
 by_cases e : dot a x ≥ b
 · exact evp e (evs (by rw [if_pos e]))
 · exact evn e (evs (by rw [if_neg e]))
theorem zV (l : List Int) (b : Int) (hb : 0 ≤ b ∧ b ≤ 1000000000) (hx : l.length < 4611686018427387904) : ∀ (d i : Nat), i + d = l.length →
  Ev (fun k => spec_l2Numbers.l0 k l b (i : Int)) (inB (-b) b (l.drop i)) := by
 intro d
 induction d with
 | zero =>
  intro i hi
  exact Ev.step (fun k => spec_l2Numbers.l0.eq_2 ..) (evn (by omega) (evs (by rw [List.drop_of_length_le (show l.length ≤ i by omega)]; rfl)))
 | succ d ih =>
  intro i hi
  refine Ev.step (fun k => spec_l2Numbers.l0.eq_2 ..) (evp (by omega) (evp (by omega) ?_))
  rw [w64s i (by omega), rd_nat, w64 (x := -b) (by omega) (by omega), qB, List.drop_eq_getElem_cons (show i < l.length by omega)]
  simp only [List.getD_eq_getElem?_getD, List.getElem?_eq_getElem (show i < l.length by omega), Option.getD_some, Option.bind_some, inB, List.all_cons]
  by_cases e : -b ≤ l[i] ∧ l[i] ≤ b
  · exact evp (by simpa using e) (evr (ih (i + 1) (by omega)) (by rw [decide_eq_true e]; rfl))
  · exact evn (by simpa using e) (evs (by rw [decide_eq_false e]; rfl))
theorem zM (l : List Int) (b : Int) (hb : 0 ≤ b ∧ b ≤ 1000000000) (hx : l.length < 4611686018427387904) : Ev (fun k => spec_l2Numbers.f k l b) (inB (-b) b l) := by
 unfold spec_l2Numbers.f
 exact zV l b hb hx l.length 0 (by omega)
theorem zI (l : List Int) (b : Int) (hl : l.length < 4611686018427387904) : Ev (fun k => spec_l2Plane.f k l b) (planeB l b) := by
 unfold spec_l2Plane.f planeB
 rw [qB, qB]; simp only [Option.bind_some]
 by_cases e : 1 ≤ l.length ∧ l.length ≤ 4
 ·
  refine evp (by simp; omega) (evb (zM l 99 (by omega) hl) ?_)
  rw [decide_eq_true e, Bool.true_and]
  by_cases e' : inB (-99) 99 l = true
  · exact evp e' (evs (by rw [e', Bool.true_and]))
  · exact evn e' (evs (by rw [Bool.eq_false_iff.2 e']; rfl))
 · exact evn (by simp; omega) (evs (by rw [decide_eq_false e]; rfl))
theorem zz (l : List Int) (b : Int) (hl : l.length < 4611686018427387904) : Ev (fun k => impl_IsPlane.f k l b) (planeB l b) := by
 unfold impl_IsPlane.f planeB
 rw [zC, zC]; simp only [Option.bind_some]
 by_cases e : 1 ≤ l.length ∧ l.length ≤ 4
 ·
  refine evp (by simp; omega) (evb (zL l (-99) 99 hl) ?_)
  rw [decide_eq_true e, Bool.true_and]
  by_cases e' : inB (-99) 99 l = true
  · exact evp e' (evs (by rw [e', Bool.true_and]))
  · exact evn e' (evs (by rw [Bool.eq_false_iff.2 e']; rfl))
 · exact evn (by simp; omega) (evs (by rw [decide_eq_false e]; rfl))
theorem zJ (r : List Int) (hr : r.length ≤ 1048576) : Ev (fun k => spec_l2Point.f k r) (pointB r) := by
 unfold spec_l2Point.f pointB
 rw [qB]; simp only [Option.bind_some]
 by_cases e : 1 ≤ r.length ∧ r.length ≤ 4
 ·
  refine evp (by simp; omega) (evb (zM r 9 (by omega) (by omega)) (evs ?_))
  rw [decide_eq_true e, Bool.true_and]
 · exact evn (by simp; omega) (evs (by rw [decide_eq_false e, Bool.false_and]))
theorem zx (l : List (List Int)) (i : Nat) : rd_L2 l (i : Int) = rdl l i := by simp [rd_L2, rdl]
theorem qr (p : List (List Int)) (y : List Int) (hx : p.length ≤ 1048576) (hr : ∀ r ∈ p, (r.length : Int) ≤ 1048576) : ∀ (d i : Nat), i + d = p.length →
  Ev (fun k => spec_l2Sample.l0 k (i : Int) p y) ((List.range' i d).all (spok p)) := by
 intro d
 induction d with
 | zero =>
  intro i hi
  exact Ev.step (fun k => spec_l2Sample.l0.eq_2 ..) (evn (by omega) (evs (by simp)))
 | succ d ih =>
  intro i hi
  have hri := hr _ (rdl_mem p i (by omega))
  refine Ev.step (fun k => spec_l2Sample.l0.eq_2 ..) (evp (by omega) (evp (by omega) ?_))
  rw [zx, show rd_L2 p 0 = rdl p 0 from zx p 0, List.range'_succ, List.all_cons]
  refine evb (zJ _ (by omega)) ?_
  by_cases e1 : pointB (rdl p i) = true
  ·
   refine evp e1 (evp (by omega) ?_)
   by_cases e2 : (rdl p i).length = (rdl p 0).length
   ·
    refine evp (by omega) ?_
    rw [w64s i (by omega)]
    refine evr (ih (i + 1) (by omega)) ?_
    rw [show spok p i = true by unfold spok; rw [e1, decide_eq_true e2]; rfl]; rfl
   ·
    refine evn (by omega) (evs ?_)
    rw [show spok p i = false by unfold spok; rw [decide_eq_false e2, Bool.and_false]]; rfl
  ·
   refine evn e1 (evs ?_)
   rw [show spok p i = false by unfold spok; rw [Bool.eq_false_iff.2 e1]; rfl]; rfl
theorem zW (p : List (List Int)) (y : List Int) (hx : p.length ≤ 1048576) (hr : ∀ r ∈ p, (r.length : Int) ≤ 1048576) (hy : y.length ≤ 1048576) : Ev (fun k => spec_l2Sample.f k p y) (sampB p y) := by
 unfold spec_l2Sample.f sampB
 have no : ∀ b, b = false → Ev (fun k => spec_l2Sample.j0 k true p y) b := fun b e => Ev.step (fun k => spec_l2Sample.j0.eq_2 ..) (evp rfl (evs e.symm))
 by_cases e1 : p.length ≤ 16
 ·
  refine evn (by omega) ?_
  by_cases e2 : y.length = p.length
  ·
   refine evp (by omega) (evb (qT y (by omega)) ?_)
   by_cases e3 : labB y = true
   ·
    refine Ev.step (fun k => spec_l2Sample.j0.eq_2 ..) (evn (by simp [e3]) (evr (qr p y hx hr p.length 0 (by omega)) ?_))
    rw [decide_eq_true e1, decide_eq_true e2, e3, List.range_eq_range']; rfl
   ·
    rw [Bool.eq_false_iff.2 e3]
    exact no _ (by simp)
  · exact evn (by omega) (no _ (by simp [e2]))
 · exact evp (by omega) (no _ (by simp [e1]))
theorem zA (r : List Int) (hr : r.length ≤ 1048576) : Ev (fun k => impl_IsPoint.f k r) (pointB r) := by
 unfold impl_IsPoint.f pointB
 rw [zC]; simp only [Option.bind_some]
 by_cases e : 1 ≤ r.length ∧ r.length ≤ 4
 ·
  refine evp (by simp; omega) (evb (zL r (-9) 9 (by omega)) (evs ?_))
  rw [decide_eq_true e, Bool.true_and]; rfl
 · exact evn (by simp; omega) (evs (by rw [decide_eq_false e, Bool.false_and]))
theorem zR (l : List (List Int)) (i : Nat) : rd_L2 l (i : Int) = rdl l i := by simp [rd_L2, rdl]
theorem zX (p : List (List Int)) (y : List Int) (hx : p.length ≤ 1048576) (hr : ∀ r ∈ p, (r.length : Int) ≤ 1048576) (hy : y.length = p.length) : ∀ (d i : Nat), i + d = p.length →
  Ev (fun k => impl_IsSample.l0 k p (p.length : Int) (i : Int) p y) ((List.range' i d).all fun i => spok p i && lab1 (y.getD i 0)) := by
 intro d
 induction d with
 | zero =>
  intro i hi
  exact Ev.step (fun k => impl_IsSample.l0.eq_2 ..) (evn (by omega) (evs (by simp)))
 | succ d ih =>
  intro i hi
  have hri := hr _ (rdl_mem p i (by omega))
  refine Ev.step (fun k => impl_IsSample.l0.eq_2 ..) (evp (by omega) (evp (by omega) (evp (by omega) ?_)))
  rw [zR, show rd_L2 p 0 = rdl p 0 from zR p 0, List.range'_succ, List.all_cons]
  refine evb (zA _ (by omega)) ?_
  by_cases e1 : pointB (rdl p i) = true
  ·
   refine evp e1 (evp (by omega) ?_)
   by_cases e2 : (rdl p i).length = (rdl p 0).length
   ·
    refine evp (by omega) (evp (by omega) ?_)
    rw [rd_nat, jr]; simp only [Option.bind_some]
    by_cases e3 : lab1 (y.getD i 0) = true
    ·
     refine evp e3 ?_
     rw [w64s i (by omega)]
     refine evr (ih (i + 1) (by omega)) ?_
     rw [show (spok p i && lab1 (y.getD i 0)) = true by unfold spok; rw [e1, decide_eq_true e2, e3]; rfl]; rfl
    ·
     refine evn e3 (evs ?_)
     rw [Bool.eq_false_iff.2 e3, Bool.and_false]; rfl
   ·
    refine evn (by omega) (evs ?_)
    rw [show spok p i = false by unfold spok; rw [decide_eq_false e2, Bool.and_false]]; rfl
  ·
   refine evn e1 (evs ?_)
   rw [show spok p i = false by unfold spok; rw [Bool.eq_false_iff.2 e1]; rfl]; rfl
theorem zv (p : List (List Int)) (y : List Int) (hx : p.length ≤ 1048576) (hr : ∀ r ∈ p, (r.length : Int) ≤ 1048576) : Ev (fun k => impl_IsSample.f k p y) (sampB p y) := by
 unfold impl_IsSample.f sampB
 have no : ∀ b, b = false → Ev (fun k => impl_IsSample.j0 k true p y) b := fun b e => Ev.step (fun k => impl_IsSample.j0.eq_2 ..) (evp rfl (evs e.symm))
 by_cases e1 : p.length ≤ 16
 ·
  refine evn (by omega) ?_
  by_cases e2 : y.length = p.length
  ·
   refine Ev.step (fun k => impl_IsSample.j0.eq_2 ..) (evn (by simp [e2]) (evr (zX p y hx hr e2 p.length 0 (by omega)) ?_))
   rw [decide_eq_true e1, decide_eq_true e2, ← List.range_eq_range', all_both, labB_range, e2, Bool.true_and, Bool.true_and, Bool.and_comm]
  ·
   rw [show ((y.length : Int) != (p.length : Int)) = true by simp; omega]
   exact no _ (by simp [e2])
 · exact evp (by omega) (no _ (by simp [e1]))
theorem zE (p : List (List Int)) (y : List Int) (l : List Int) (b : Int) (hx : p.length ≤ 1048576) (hr : ∀ r ∈ p, (r.length : Int) ≤ 1048576) (hy : y.length ≤ 1048576) (hl : l.length ≤ 1048576) : Ev (fun k => spec_l2Both.f k p y l b) (suitB p y l b) := by
 unfold spec_l2Both.f suitB
 refine evb (zW p y hx hr hy) ?_
 by_cases e1 : sampB p y = true
 ·
  refine evp e1 (evb (zI l b (by omega)) ?_)
  by_cases e2 : planeB l b = true
  ·
   refine evp e2 ?_
   rw [e1, e2, show rd_L2 p 0 = rdl p 0 from zx p 0]
   by_cases e3 : p.length = 0
   · exact evp (by omega) (evs (by simp [e3]))
   ·
    refine evn (by omega) (evp (by omega) (evs ?_))
    rw [decide_eq_false e3, Bool.true_and, Bool.true_and, Bool.false_or, Bool.eq_iff_iff]; simp; omega
  · exact evn e2 (evs (by simp [e2]))
 · exact evn e1 (evs (by simp [e1]))
theorem zY (p : List (List Int)) (y : List Int) (l : List Int) (b : Int) (hx : p.length ≤ 1048576) (hr : ∀ r ∈ p, (r.length : Int) ≤ 1048576) (hl : l.length ≤ 1048576) : Ev (fun k => impl_suits.f k p y l b) (suitB p y l b) := by
 unfold impl_suits.f suitB
 refine evb (zv p y hx hr) ?_
 by_cases e1 : sampB p y = true
 ·
  refine evp e1 (evb (zz l b (by omega)) ?_)
  by_cases e2 : planeB l b = true
  ·
   refine evp e2 ?_
   rw [e1, e2, show rd_L2 p 0 = rdl p 0 from zR p 0]
   by_cases e3 : p.length = 0
   · exact evp (by omega) (evs (by simp [e3]))
   ·
    refine evn (by omega) (evp (by omega) (evs ?_))
    rw [decide_eq_false e3, Bool.true_and, Bool.true_and, Bool.false_or, Bool.eq_iff_iff]; simp; omega
  · exact evn e2 (evs (by simp [e2]))
 · exact evn e1 (evs (by simp [e1]))
theorem zQ {p : List (List Int)} {y : List Int} {l : List Int} {b : Int} (h : suitB p y l b = true) : ∀ (d i : Nat), i + d = p.length →
  Ev (fun k => spec_l2Mistakes.l0 k (errV l b p y i) (i : Int) p y l b) (errV l b p y p.length) := by
 obtain ⟨h1, h2, h3, h4⟩ := suitB_at h
 have hpl := h3.1
 intro d
 induction d with
 | zero =>
  intro i hi
  refine Ev.step (fun k => spec_l2Mistakes.l0.eq_2 ..) (evn (by omega) (evs ?_))
  rw [show i = p.length by omega]
 | succ d ih =>
  intro i hi
  have hp := h4 i (by omega)
  refine Ev.step (fun k => spec_l2Mistakes.l0.eq_2 ..) (evp (by omega) (evp (by omega) ?_))
  rw [show rd_L2 p (i : Int) = rdl p i from zx p i]
  refine evb (zD l b (rdl p i) 99 9 (by omega) (by omega) h3.2.1 hp.2 (by omega) (by omega)) (evp (by omega) ?_)
  have hlen := errV_len l b p y i
  have hs := ih (i + 1) (by omega)
  rw [errV_succ] at hs
  rw [rd_nat, w64s i (by omega)]
  by_cases e : sideV l b (rdl p i) = y.getD i 0
  ·
   refine evp e ?_
   rw [if_neg (by unfold errs; rw [decide_eq_false (fun h => h e)]; decide)] at hs
   exact hs
  ·
   refine evn e (evp (by omega) ?_)
   rw [if_pos (by unfold errs; exact decide_eq_true e)] at hs
   exact hs
theorem zF {p : List (List Int)} {y : List Int} {l : List Int} {b : Int} (h : suitB p y l b = true) : Ev (fun k => spec_l2Mistakes.f k p y l b) (errV l b p y p.length) := by
 unfold spec_l2Mistakes.f
 have := zQ h p.length 0 (by omega)
 exact this
theorem zZ {p : List (List Int)} {y : List Int} {l : List Int} {b : Int} (h : suitB p y l b = true) : ∀ (d i : Nat), i + d = p.length →
  Ev (fun k => impl_Plane_mistakes.l0 k (errV l b p y i) p (p.length : Int) (i : Int) l b p y) (errV l b p y p.length) := by
 obtain ⟨h1, h2, h3, h4⟩ := suitB_at h
 have hpl := h3.1
 intro d
 induction d with
 | zero =>
  intro i hi
  refine Ev.step (fun k => impl_Plane_mistakes.l0.eq_2 ..) (evn (by omega) (evs ?_))
  rw [show i = p.length by omega]
 | succ d ih =>
  intro i hi
  have hp := h4 i (by omega)
  refine Ev.step (fun k => impl_Plane_mistakes.l0.eq_2 ..) (evp (by omega) (evp (by omega) (evp (by omega) ?_)))
  rw [show rd_L2 p (i : Int) = rdl p i from zR p i]
  refine evb (qD l b (rdl p i) 99 9 (by omega) (by omega) h3.2.1 hp.2 (by omega) (by omega)) (evp (by omega) ?_)
  have hlen := errV_len l b p y i
  have hs := ih (i + 1) (by omega)
  rw [errV_succ] at hs
  rw [rd_nat, w64s i (by omega)]
  by_cases e : sideV l b (rdl p i) = y.getD i 0
  ·
   refine evp e ?_
   rw [if_neg (by unfold errs; rw [decide_eq_false (fun h => h e)]; decide)] at hs
   exact hs
  ·
   refine evn e (evp (by omega) ?_)
   rw [if_pos (by unfold errs; exact decide_eq_true e)] at hs
   exact hs
theorem zN {p : List (List Int)} {y : List Int} {l : List Int} {b : Int} (h : suitB p y l b = true) : Ev (fun k => impl_Plane_mistakes.f k l b p y) (errV l b p y p.length) := by
 unfold impl_Plane_mistakes.f
 have := zZ h p.length 0 (by omega)
 exact this
theorem jl (p : List (List Int)) (y : List Int) (l : List Int) (b : Int) (hx : p.length ≤ 1048576) (hr : ∀ r ∈ p, (r.length : Int) ≤ 1048576) (hy : y.length ≤ 1048576) (hl : l.length ≤ 1048576) : Ev (fun k => spec_FitsSample.f k p y l b) (fitsV p y l b) := by
 unfold spec_FitsSample.f spec_l2Fits.f fitsV
 refine evb (zE p y l b hx hr hy hl) ?_
 by_cases e : suitB p y l b = true
 ·
  refine evp e (evb (evb (zF e) (evs rfl)) (evs ?_))
  rw [if_pos e]
  congr 1
  rw [Bool.eq_iff_iff]; simp
 · exact evn e (evs (by rw [if_neg e]))
theorem jm (p : List (List Int)) (y : List Int) (l : List Int) (b : Int) (hx : p.length ≤ 1048576) (hr : ∀ r ∈ p, (r.length : Int) ≤ 1048576) (hy : y.length ≤ 1048576) (hl : l.length ≤ 1048576) : Ev (fun k => impl_FitsSample.f k p y l b) (fitsV p y l b) := by
 unfold impl_FitsSample.f fitsV
 refine evb (zY p y l b hx hr hl) ?_
 by_cases e : suitB p y l b = true
 ·
  refine evp e (evb (zN e) (evs ?_))
  rw [if_pos e]
  congr 1
  rw [Bool.eq_iff_iff]; simp
 · exact evn e (evs (by rw [if_neg e]))
def zd (p : List (List Int)) (y : List Int) (l : List Int) (b : Int) : List Int × Bool := if suitB p y l b = true then (errV l b p y p.length, true) else ([], false)
theorem qJ (p : List (List Int)) (y : List Int) (l : List Int) (b : Int) : (zd p y l b).1.length ≤ 16 := by
 unfold zd
 split
 ·
  rename_i e
  have := errV_len l b p y p.length
  have := (suitB_at e).1
  simp only; omega
 · simp
theorem kc (p : List (List Int)) (y : List Int) (l : List Int) (b : Int) (hx : p.length ≤ 1048576) (hr : ∀ r ∈ p, (r.length : Int) ≤ 1048576) (hy : y.length ≤ 1048576) (hl : l.length ≤ 1048576) : Ev (fun k => spec_MistakesOf.f k p y l b) (zd p y l b) := by
 unfold spec_MistakesOf.f zd
 refine evb (zE p y l b hx hr hy hl) ?_
 by_cases e : suitB p y l b = true
 · exact evp e (evb (zF e) (evs (by rw [if_pos e])))
 · exact evn e (evs (by rw [if_neg e]))
theorem kd (p : List (List Int)) (y : List Int) (l : List Int) (b : Int) (hx : p.length ≤ 1048576) (hr : ∀ r ∈ p, (r.length : Int) ≤ 1048576) (hy : y.length ≤ 1048576) (hl : l.length ≤ 1048576) : Ev (fun k => impl_MistakesOf.f k p y l b) (zd p y l b) := by
 unfold impl_MistakesOf.f zd
 refine evb (zY p y l b hx hr hl) ?_
 by_cases e : suitB p y l b = true
 · exact evp e (evb (zN e) (evs (by rw [if_pos e])))
 · exact evn e (evs (by rw [if_neg e]))
def ze (l : List Int) : Prop := (l.length : Int) ≤ 65536 ∧ ∀ x ∈ l, 0 ≤ x ∧ x ≤ 255
theorem jI (l : List Int) (hl : (l.length : Int) ≤ 65536) (hb : ∀ x ∈ l, (Lit.int .u8 x).wf = true) : ze l := by
 refine ⟨hl, fun x hx => ?_⟩
 have := hb x hx
 simp only [Lit.wf, Bool.and_eq_true, decide_eq_true_eq, IntKind.min, IntKind.max, IntKind.signed, IntKind.bits] at this
 simp at this
 omega
theorem js (y : Int) (h0 : 0 ≤ y) (h1 : y < 18446744073709551616) : 0 ≤ Go.bits .and .u64 (y / 1099511627776) 255 ∧ Go.bits .and .u64 (y / 1099511627776) 255 ≤ 255 := by
 obtain ⟨n, hn⟩ := Int.eq_ofNat_of_zero_le (show 0 ≤ y / 1099511627776 by omega)
 have hn2 : n < 2 ^ 64 := by omega
 have h := (bits_nat .u64 64 (by decide) (fun n h₀ h₁ => by rw [show IntKind.u64.wrap n = n % 18446744073709551616 by simp [IntKind.wrap, IntKind.bits, IntKind.signed]]; omega) n 255 hn2 (by decide)).1
 rw [hn, show (255 : Int) = ((255 : Nat) : Int) from rfl, h]
 have := @Nat.and_le_right n 255
 omega
theorem jt (z : Int) : 0 ≤ IntKind.u64.wrap z ∧ IntKind.u64.wrap z < 18446744073709551616 := by
 rw [show IntKind.u64.wrap z = z % 18446744073709551616 by simp [IntKind.wrap, IntKind.bits, IntKind.signed]]; omega
theorem jn {l : List Int} (hl : ze l) (p s : Int) (hp : 0 ≤ p ∧ p ≤ 1000000) : ∃ x s', spec_l1Cur_next.f l p s = some (x, p + 1, s') ∧ 0 ≤ x ∧ x ≤ 255 := by
 have hr : 0 ≤ rd l p ∧ rd l p ≤ 255 := by
  obtain ⟨j, rfl⟩ := Int.eq_ofNat_of_zero_le hp.1
  rw [rd_nat]
  by_cases hj : j < l.length
  · rw [List.getD_eq_getElem?_getD, List.getElem?_eq_getElem hj]; exact hl.2 _ (List.getElem_mem hj)
  · rw [List.getD_eq_getElem?_getD, List.getElem?_eq_none (by omega)]; decide
 have ew : wrap64 (p + 1) = p + 1 := w64 (by omega) (by omega)
 have hw : ∀ z : Int, ∃ x s', (some (wrap64 (Go.bits .and .u64 ((IntKind.u64.wrap z) / 1099511627776) 255), p + 1, IntKind.u64.wrap z) : Option (Int × Int × Int)) = some (x, p + 1, s') ∧ 0 ≤ x ∧ x ≤ 255 := by
  intro z
  have h := jt z
  have h2 := js _ h.1 h.2
  refine ⟨_, _, rfl, ?_⟩
  rw [w64 (by omega) (by omega)]; exact h2
 unfold spec_l1Cur_next.f
 rw [ew]
 by_cases h : p < (l.length : Int)
 ·
  rw [if_pos h, if_pos hp.1]
  by_cases h2 : p + 1 ≤ (l.length : Int)
  ·
   rw [if_pos h2]
   refine ⟨_, _, rfl, ?_⟩
   rw [w64 (by omega) (by omega)]; exact hr
  · omega
 ·
  rw [if_neg h, if_neg (by omega)]
  exact hw _
theorem qa (x n : Int) (hx : 0 ≤ x) (hn : 0 < n) : 0 ≤ Int.tmod x n ∧ Int.tmod x n < n := by
 rw [Int.tmod_eq_emod_of_nonneg hx]
 exact ⟨Int.emod_nonneg _ (by omega), Int.emod_lt_of_pos _ hn⟩
theorem zk {l : List Int} (hl : ze l) (p s n : Int) (hp : 0 ≤ p ∧ p ≤ 900000) : ∃ x p' s', spec_l1Cur_pick.f l p s n = some (x, p', s') ∧ 0 ≤ x ∧ (x < n ∨ n ≤ 1 ∧ x = 0) ∧ p ≤ p' ∧ p' ≤ p + 2 := by
 unfold spec_l1Cur_pick.f
 by_cases h1 : n ≤ 1
 · rw [if_pos h1]; exact ⟨0, p, s, rfl, Int.le_refl _, .inr ⟨h1, rfl⟩, by omega, by omega⟩
 ·
  rw [if_neg h1]
  obtain ⟨x, s1, e, hx0, hx1⟩ := jn hl p s (by omega)
  rw [e]; simp only [Option.bind_some]
  by_cases h2 : n > 200
  ·
   rw [if_pos h2]
   obtain ⟨y, s2, e2, hy0, hy1⟩ := jn hl (p + 1) s1 (by omega)
   rw [e2]; simp only [Option.bind_some]
   rw [if_neg (by omega), w64 (x := x * 256) (by omega) (by omega), w64 (by omega) (by omega)]
   have := qa (x * 256 + y) n (by omega) (by omega)
   exact ⟨_, _, _, rfl, this.1, .inl this.2, by omega, by omega⟩
  ·
   rw [if_neg h2, if_neg (by omega)]
   have := qa x n hx0 (by omega)
   exact ⟨_, _, _, rfl, this.1, .inl this.2, by omega, by omega⟩
theorem zB {l : List Int} (hl : ze l) (p s n : Int) (hp : 0 ≤ p ∧ p ≤ 900000) : ∃ b p' s', spec_l1Cur_one.f l p s n = some (b, p', s') ∧ p ≤ p' ∧ p' ≤ p + 2 := by
 obtain ⟨x, p', s', e, _, _, h1, h2⟩ := zk hl p s n hp
 unfold spec_l1Cur_one.f
 rw [e]; exact ⟨_, _, _, rfl, h1, h2⟩
theorem zl {l : List Int} (hl : ze l) (p s : Int) (xs : List Int) (hx : xs ≠ []) (hp : 0 ≤ p ∧ p ≤ 900000) : ∃ x p' s', spec_l1Cur_among.f l p s xs = some (x, p', s') ∧ x ∈ xs ∧ p ≤ p' ∧ p' ≤ p + 2 := by
 have hlen : 0 < xs.length := List.length_pos_iff.2 hx
 obtain ⟨x, p', s', e, h0, h1, h2, h3⟩ := zk hl p s (xs.length : Int) hp
 have hlt : x < (xs.length : Int) := by omega
 unfold spec_l1Cur_among.f
 rw [e]; simp only [Option.bind_some]
 rw [if_pos h0, if_pos hlt]
 refine ⟨_, _, _, rfl, ?_, h2, h3⟩
 obtain ⟨j, rfl⟩ := Int.eq_ofNat_of_zero_le h0
 rw [rd_nat, List.getD_eq_getElem?_getD, List.getElem?_eq_getElem (show j < xs.length by omega)]
 exact List.getElem_mem _
theorem qV (a b : List Int) (hl : a.length = b.length) (hx : a.length ≤ 1048576) : ∀ (d i : Nat), i + d = a.length → Ev (fun k => laws_rInts.l0 k a b (i : Int)) (decide (a.drop i = b.drop i)) := by
 intro d
 induction d with
 | zero =>
  intro i hi
  refine Ev.step (fun k => laws_rInts.l0.eq_2 ..) (evn (by omega) (evs ?_))
  simp [List.drop_of_length_le (show a.length ≤ i by omega), List.drop_of_length_le (show b.length ≤ i by omega)]
 | succ d ih =>
  intro i hi
  refine Ev.step (fun k => laws_rInts.l0.eq_2 ..) (evp (by omega) (evp (by omega) (evp (by omega) ?_)))
  rw [w64s i (by omega), rd_nat, rd_nat, List.drop_eq_getElem_cons (show i < a.length by omega), List.drop_eq_getElem_cons (show i < b.length by omega)]
  have ea : a.getD i 0 = a[i] := by rw [List.getD_eq_getElem?_getD, List.getElem?_eq_getElem (show i < a.length by omega)]; rfl
  have eb : b.getD i 0 = b[i] := by rw [List.getD_eq_getElem?_getD, List.getElem?_eq_getElem (show i < b.length by omega)]; rfl
  rw [ea, eb]
  by_cases e : a[i] = b[i]
  ·
   refine evp e (evr (ih (i + 1) (by omega)) ?_)
   rw [e]; simp only [List.cons.injEq, true_and]
  ·
   refine evn e (evs ?_)
   simp only [List.cons.injEq, e, false_and, decide_false]
theorem jo (a b : List Int) (hx : a.length ≤ 1048576) : Ev (fun k => laws_rInts.f k a b) (decide (a = b)) := by
 unfold laws_rInts.f
 by_cases h : a.length = b.length
 · refine evp (by omega) (evr (qV a b h hx a.length 0 (by omega)) (by simp))
 ·
  refine evn (by omega) (evs ?_)
  have : a ≠ b := fun e => h (by rw [e])
  simp [this]
theorem qK {l : List Int} (hl : ze l) (n : Nat) (m : Int) (hm : 1 ≤ m ∧ m ≤ 20) (hn : n ≤ 9) : ∀ (d i : Nat) (p s : Int) (v : List Int), i + d = n → v.length = i → 0 ≤ p ∧ p + 2 * d ≤ 700000 →
  ∃ r, Ev (fun k => spec_l1Cur_plane.l0 k (n : Int) m (i : Int) l p s v 0) r ∧ (n ≤ r.1.length ∧ r.1.length ≤ n + 1) ∧ p ≤ r.2.2.1 ∧ r.2.2.1 ≤ p + 2 * d + 10 := by
 intro d
 induction d with
 | zero =>
  intro i p s v hi hv hp
  obtain ⟨x, p1, s1, e1, _, _, g1, g2⟩ := zk hl p s (wrap64 ((wrap64 (2 * m)) + 3)) (by omega)
  obtain ⟨y, p2, s2, e2, h0, h1, g3, g4⟩ := zk hl p1 s1 60 (by omega)
  by_cases c0 : y = 0
  ·
   obtain ⟨z, p3, s3, e3, _, g5, g6⟩ := zl hl p2 s2 [99, -99, 100, -100, 4611686018427387904] (by simp) (by omega)
   exact ⟨_, Ev.step (fun k => spec_l1Cur_plane.l0.eq_2 ..) (evn (by omega) (evb (evc e1) (evb (evc e2) (evp c0 (evb (evc e3) (evs rfl)))))), by simp only; omega, by simp only; omega, by simp only; omega⟩
  by_cases c1 : y = 1
  ·
   by_cases c : (n : Int) > 0
   ·
    obtain ⟨z, p3, s3, e3, z0, z1, g5, g6⟩ := zk hl p2 s2 (n : Int) (by omega)
    obtain ⟨u, p4, s4, e4, _, g7, g8⟩ := zl hl p3 s3 [99, -99, 100, -100] (by simp) (by omega)
    exact ⟨_, Ev.step (fun k => spec_l1Cur_plane.l0.eq_2 ..) (evn (by omega) (evb (evc e1) (evb (evc e2) (evn c0 (evp c1 (evp c (evb (evc e3) (evb (evc e4) (evp z0 (evp (by simp only; omega) (evs rfl))))))))))), by simp only [List.length_set]; omega, by simp only; omega, by simp only; omega⟩
   · exact ⟨_, Ev.step (fun k => spec_l1Cur_plane.l0.eq_2 ..) (evn (by omega) (evb (evc e1) (evb (evc e2) (evn c0 (evp c1 (evn c (evs rfl))))))), by simp only; omega, by simp only; omega, by simp only; omega⟩
  by_cases c2 : y = 2
  rotate_left
  · exact ⟨_, Ev.step (fun k => spec_l1Cur_plane.l0.eq_2 ..) (evn (by omega) (evb (evc e1) (evb (evc e2) (evn c0 (evn c1 (evn c2 (evs rfl))))))), by simp only; omega, by simp only; omega, by simp only; omega⟩
  exact ⟨_, Ev.step (fun k => spec_l1Cur_plane.l0.eq_2 ..) (evn (by omega) (evb (evc e1) (evb (evc e2) (evn c0 (evn c1 (evp c2 (evp (by omega) (evs rfl)))))))), by simp; omega, by simp only; omega, by simp only; omega⟩
 | succ d ih =>
  intro i p s v hi hv hp
  obtain ⟨x, p1, s1, e1, _, _, g1, g2⟩ := zk hl p s (wrap64 ((wrap64 (2 * m)) + 1)) (by omega)
  obtain ⟨r, hr, h1, h2, h3⟩ := ih (i + 1) p1 s1 (v ++ [wrap64 (x - m)]) (by omega) (by simp; omega) (by omega)
  refine ⟨r, Ev.step (fun k => spec_l1Cur_plane.l0.eq_2 ..) (evp (by omega) (evb (evc e1) (evp (by omega) ?_))), h1, by omega, by omega⟩
  simp only
  rw [w64s i (by omega)]; exact hr
theorem qb {l : List Int} (hl : ze l) (p s : Int) (n : Nat) (hn : n ≤ 9) (hp : 0 ≤ p ∧ p ≤ 600000) : ∃ r, Ev (fun k => spec_l1Cur_plane.f k l p s (n : Int)) r ∧ (n ≤ r.1.length ∧ r.1.length ≤ n + 1) ∧ p ≤ r.2.2.1 ∧ r.2.2.1 ≤ p + 30 := by
 obtain ⟨m, p1, s1, e1, hm, g1, g2⟩ := zl hl p s [1, 3, 5, 20] (by simp) (by omega)
 have hm2 : 1 ≤ m ∧ m ≤ 20 := by simp at hm; omega
 obtain ⟨r, hr, h1, h2, h3⟩ := qK hl n m hm2 hn n 0 p1 s1 [] (by omega) rfl (by omega)
 unfold spec_l1Cur_plane.f
 exact ⟨r, evb (evc e1) hr, h1, by omega, by omega⟩
namespace Gz
def sm (f : Nat → Int) : Nat → Int
 | 0 => 0
 | n + 1 => sm f n + f n
theorem sm_congr {f g : Nat → Int} : ∀ {n : Nat}, (∀ k, k < n → f k = g k) → sm f n = sm g n
 | 0, _ => rfl
 | n + 1, h => by simp only [sm]; rw [sm_congr (fun k hk => h k (by omega)), h n (by omega)]
theorem sm_add (f g : Nat → Int) : ∀ n, sm (fun k => f k + g k) n = sm f n + sm g n
 | 0 => rfl
 | n + 1 => by simp only [sm]; rw [sm_add f g n]; omega
theorem sm_mul (c : Int) (f : Nat → Int) : ∀ n, sm (fun k => c * f k) n = c * sm f n
 | 0 => by simp [sm]
 | n + 1 => by simp only [sm]; rw [sm_mul c f n, Int.mul_add]
theorem sm_zero {f : Nat → Int} : ∀ {n : Nat}, (∀ k, k < n → f k = 0) → sm f n = 0
 | 0, _ => rfl
 | n + 1, h => by simp only [sm]; rw [sm_zero (fun k hk => h k (by omega)), h n (by omega)]; rfl
theorem zj {f : Nat → Int} (p : Nat) : ∀ {n : Nat}, p < n → (∀ k, k < n → k ≠ p → f k = 0) → sm f n = f p
 | 0, hp, _ => by omega
 | n + 1, hp, h => by
  simp only [sm]
  by_cases e : p = n
  · subst e; rw [sm_zero (fun k hk => h k (by omega) (by omega)), Int.zero_add]
  · rw [zj p (by omega) (fun k hk => h k (by omega)), h n (by omega) (fun x => e x.symm), Int.add_zero]
theorem jp {f : Nat → Int} (b : Int) : ∀ {n : Nat}, (∀ k, k < n → -b ≤ f k ∧ f k ≤ b) → -(b * n) ≤ sm f n ∧ sm f n ≤ b * n
 | 0, _ => by simp [sm]
 | n + 1, h => by
  have h1 := jp (n := n) b (fun k hk => h k (by omega))
  have h2 := h n (by omega)
  simp only [sm]; rw [show ((n + 1 : Nat) : Int) = (n : Int) + 1 by omega, Int.mul_add]; omega
theorem jq {f : Nat → Int} (b : Int) : ∀ {n : Nat}, (∀ k, k < n → 0 ≤ f k ∧ f k ≤ b) → 0 ≤ sm f n ∧ sm f n ≤ b * n
 | 0, _ => by simp [sm]
 | n + 1, h => by
  have h1 := jq (n := n) b (fun k hk => h k (by omega))
  have h2 := h n (by omega)
  simp only [sm]; rw [show ((n + 1 : Nat) : Int) = (n : Int) + 1 by omega, Int.mul_add]; omega
theorem sm_comm (f : Nat → Nat → Int) (m : Nat) : ∀ n, sm (fun i => sm (f i) m) n = sm (fun j => sm (fun i => f i j) n) m
 | 0 => by simp only [sm]; exact (sm_zero (fun _ _ => rfl)).symm
 | n + 1 => by
  simp only [sm]
  rw [sm_comm f m n, ← sm_add]
theorem sm_pos {f : Nat → Int} : ∀ {n : Nat}, 0 < n → (∀ k, k < n → 0 < f k) → 0 < sm f n
 | 0, h, _ => by omega
 | 1, _, h => by have := h 0 (by omega); simp only [sm]; omega
 | n + 2, _, h => by
  have h1 := sm_pos (n := n + 1) (by omega) (fun k hk => h k (by omega))
  have h2 := h (n + 1) (by omega)
  rw [show sm f (n + 2) = sm f (n + 1) + f (n + 1) from rfl]; omega
theorem jJ : ∀ (M N : Nat) (f : Nat → Nat), M < N → (∀ i, i < N → f i < M) → ∃ i j, i < j ∧ j < N ∧ f i = f j := by
 intro M
 induction M with
 | zero => intro N f h1 h2; exact absurd (h2 0 h1) (by omega)
 | succ M ih =>
  intro N f h1 h2
  by_cases e : ∃ i, i < N - 1 ∧ f i = f (N - 1)
  ·
   obtain ⟨i, hi, e⟩ := e
   exact ⟨i, N - 1, hi, by omega, e⟩
  ·
   have hne : ∀ i, i < N - 1 → f i ≠ f (N - 1) := fun i hi h => e ⟨i, hi, h⟩
   have hv := h2 (N - 1) (by omega)
   obtain ⟨i, j, hij, hj, he⟩ := ih (N - 1) (fun i => if f i < f (N - 1) then f i else f i - 1) (by omega) (fun i hi => by
    have := hne i hi; have := h2 i (by omega)
    split <;> omega)
   refine ⟨i, j, hij, by omega, ?_⟩
   have := hne i (by omega); have := hne j hj
   split at he <;> split at he <;> omega
def dg (b k i : Nat) : Nat := i / b ^ k % b
theorem jK (b : Nat) (hb : 0 < b) : ∀ n i j, i < b ^ n → j < b ^ n → (∀ k, k < n → dg b k i = dg b k j) → i = j := by
 intro n
 induction n with
 | zero => intro i j hi hj _; simp at hi hj; omega
 | succ n ih =>
  intro i j hi hj h
  have h0 := h 0 (by omega)
  simp only [dg, Nat.pow_zero, Nat.div_one] at h0
  have hq := ih (i / b) (j / b) (by rw [Nat.div_lt_iff_lt_mul hb, ← Nat.pow_succ]; exact hi) (by rw [Nat.div_lt_iff_lt_mul hb, ← Nat.pow_succ]; exact hj) (fun k hk => by
   have := h (k + 1) (by omega)
   simp only [dg, Nat.pow_succ'] at this ⊢
   rw [Nat.div_div_eq_div_mul, Nat.div_div_eq_div_mul]; exact this)
  rw [← Nat.div_add_mod i b, ← Nat.div_add_mod j b, hq, h0]
def zw (b : Nat) (v : Nat → Nat) : Nat → Nat
 | 0 => 0
 | m + 1 => zw b v m + v m * b ^ m
theorem zy (b : Nat) (v : Nat → Nat) : ∀ m, (∀ j, j < m → v j < b) → zw b v m < b ^ m
 | 0, _ => by simp [zw]
 | m + 1, h => by
  have h1 := zy b v m (fun j hj => h j (by omega))
  have h2 := h m (by omega)
  have h3 : (v m + 1) * b ^ m ≤ b * b ^ m := Nat.mul_le_mul_right _ h2
  rw [Nat.add_mul, Nat.one_mul] at h3
  simp only [zw, Nat.pow_succ']; omega
theorem qc (b : Nat) (v u : Nat → Nat) : ∀ m, (∀ j, j < m → v j < b) → (∀ j, j < m → u j < b) → zw b v m = zw b u m → ∀ j, j < m → v j = u j
 | 0, _, _, _ => fun j hj => by omega
 | m + 1, hv, hu, h => by
  have h1 := zy b v m (fun j hj => hv j (by omega))
  have h2 := zy b u m (fun j hj => hu j (by omega))
  simp only [zw] at h
  have hp : 0 < b ^ m := by omega
  have e : v m = u m := by
   have e1 := congrArg (· / b ^ m) h
   rwa [Nat.add_mul_div_right _ _ hp, Nat.add_mul_div_right _ _ hp, Nat.div_eq_of_lt h1, Nat.div_eq_of_lt h2, Nat.zero_add, Nat.zero_add] at e1
  rw [e] at h
  intro j hj
  by_cases ej : j = m
  · rw [ej]; exact e
  · exact qc b v u m (fun j hj => hv j (by omega)) (fun j hj => hu j (by omega)) (by omega) j (by omega)
theorem zn (m a : Nat) (ha : 1 ≤ a) (A : Nat → Nat → Int) (hA : ∀ k j, k < m + 1 → j < m → -(a : Int) ≤ A k j ∧ A k j ≤ a) :
  ∃ y : Nat → Int, (∃ k, k < m + 1 ∧ y k ≠ 0) ∧ (∀ k, -((((m + 1) * a) ^ m : Nat) : Int) ≤ y k ∧ y k ≤ (((m + 1) * a) ^ m : Nat)) ∧ ∀ j, j < m → sm (fun k => y k * A k j) (m + 1) = 0 := by
 obtain ⟨c, hc⟩ : ∃ c, c = (m + 1) * a := ⟨_, rfl⟩
 obtain ⟨B, hB⟩ : ∃ B, B = c ^ m := ⟨_, rfl⟩
 rw [← hc, ← hB]
 have hc1 : 1 ≤ c := by rw [hc]; exact Nat.mul_pos (by omega) ha
 let off : Nat → Nat → Int := fun k j => if 0 ≤ A k j then 0 else -(A k j) * B
 let V : Nat → Nat → Int := fun i j => sm (fun k => (dg (B + 1) k i : Int) * A k j + off k j) (m + 1)
 have hV : ∀ i j, j < m → 0 ≤ V i j ∧ V i j ≤ ((c * B : Nat) : Int) := by
  intro i j hj
  have h := jq (f := fun k => (dg (B + 1) k i : Int) * A k j + off k j) ((a * B : Nat) : Int) (n := m + 1) (fun k hk => by
   have h1 := hA k j hk hj
   have h2 : dg (B + 1) k i < B + 1 := Nat.mod_lt _ (by omega)
   simp only [off]
   obtain ⟨q, hq⟩ : ∃ q : Nat, q = dg (B + 1) k i := ⟨_, rfl⟩
   rw [← hq] at h2 ⊢
   by_cases e : 0 ≤ A k j
   ·
    rw [if_pos e]
    obtain ⟨x, hx⟩ := Int.eq_ofNat_of_zero_le e
    rw [hx] at h1 ⊢
    have : q * x ≤ a * B := by rw [Nat.mul_comm]; exact Nat.mul_le_mul (by omega) (by omega)
    have h3 : ((q * x : Nat) : Int) ≤ ((a * B : Nat) : Int) := by exact_mod_cast this
    rw [show ((q : Int) * (x : Int)) = ((q * x : Nat) : Int) by simp]; omega
   ·
    rw [if_neg e]
    obtain ⟨x, hx⟩ : ∃ x : Nat, A k j = -(x : Int) := ⟨(-(A k j)).toNat, by omega⟩
    rw [hx] at h1 ⊢
    have : x * (B - q) ≤ a * B := Nat.mul_le_mul (by omega) (by omega)
    have h3 : ((x * (B - q) : Nat) : Int) ≤ ((a * B : Nat) : Int) := by exact_mod_cast this
    rw [show ((q : Int) * -(x : Int) + -(-(x : Int)) * (B : Int)) = ((x * (B - q) : Nat) : Int) by
     rw [Int.natCast_mul, Int.ofNat_sub (by omega), Int.mul_sub, Int.mul_neg, Int.neg_neg, Int.mul_comm (q : Int)]; omega]
    omega)
  refine ⟨h.1, Int.le_trans h.2 ?_⟩
  rw [hc, show ((a * B : Nat) : Int) * ((m + 1 : Nat) : Int) = (((m + 1) * a * B : Nat) : Int) by rw [← Int.natCast_mul]; congr 1; rw [Nat.mul_comm, Nat.mul_assoc]]
  exact Int.le_refl _
 obtain ⟨i, j, hij, hj, he⟩ := jJ ((c * B + 1) ^ m) ((B + 1) ^ (m + 1)) (fun i => zw (c * B + 1) (fun j => (V i j).toNat) m) (by
  have h1 : (c * B + 1) ^ m ≤ (c * (B + 1)) ^ m := Nat.pow_le_pow_left (by rw [Nat.mul_add]; omega) m
  rw [Nat.mul_pow, ← hB] at h1
  have h2 : 0 < (B + 1) ^ m := Nat.pow_pos (by omega)
  have h3 : (B + 1) ^ (m + 1) = B * (B + 1) ^ m + (B + 1) ^ m := by rw [Nat.pow_succ', Nat.add_mul, Nat.one_mul]
  omega) (fun i hi => zy _ _ _ (fun j hj => by have := hV i j hj; omega))
 have hv : ∀ l, l < m → V i l = V j l := fun l hl => by
  have h1 := qc _ _ _ m (fun l hl => by have := hV i l hl; omega) (fun l hl => by have := hV j l hl; omega) he l hl
  have := hV i l hl; have := hV j l hl
  omega
 refine ⟨fun k => (dg (B + 1) k i : Int) - dg (B + 1) k j, ?_, fun k => ?_, fun l hl => ?_⟩
 ·
  refine Classical.byContradiction fun hn => ?_
  have := jK (B + 1) (by omega) (m + 1) i j (by omega) hj (fun k hk => Classical.byContradiction fun h => hn ⟨k, hk, by simp only; omega⟩)
  omega
 ·
  have h1 : dg (B + 1) k i < B + 1 := Nat.mod_lt _ (by omega)
  have h2 : dg (B + 1) k j < B + 1 := Nat.mod_lt _ (by omega)
  simp only; omega
 ·
  have h1 := hv l hl
  simp only [V] at h1
  rw [sm_add, sm_add] at h1
  have h2 : sm (fun k => ((dg (B + 1) k i : Int) - dg (B + 1) k j) * A k l) (m + 1) = sm (fun k => (dg (B + 1) k i : Int) * A k l) (m + 1) + sm (fun k => -1 * ((dg (B + 1) k j : Int) * A k l)) (m + 1) := by
   rw [← sm_add]
   refine sm_congr fun k _ => ?_
   rw [Int.sub_mul]; omega
  rw [h2, sm_mul]; omega
structure Gs (m n : Nat) (a : Nat) (A0 A M : Nat → Nat → Int) (r c : Nat) (p : Nat → Nat) : Prop where
 hr : r ≤ m
 hc : c ≤ n
 ps : ∀ l, l < r → p l < c
 asc : ∀ l k, l < k → k < r → p l < p k
 diag : ∀ l, l < r → M l (p l) ≠ 0
 off : ∀ l, l < r → ∀ i, i < m → i ≠ l → M i (p l) = 0
 low : ∀ i, i < m → r ≤ i → ∀ j, j < c → M i j = 0
 indep : ∀ y : Nat → Int, (∀ j, j < n → sm (fun k => y k * A k j) r = 0) → ∀ k, k < r → y k = 0
 comb : ∃ u : Int, u ≠ 0 ∧ ∃ X : Nat → Nat → Int, ∃ x : Nat → Int, (∀ i, i < m → r ≤ i → x i ≠ 0) ∧ (∀ i, i < r → x i = 0) ∧ ∀ i, i < m → ∀ j, j < n → u * A i j = sm (fun l => X i l * M l j) r + x i * M i j
 bnd : ∀ i, i < m → ∀ j, j < n → -(a : Int) ≤ A i j ∧ A i j ≤ a
 ker : ∀ z : Nat → Int, (∀ i, i < m → sm (fun j => A0 i j * z j) n = 0) ↔ (∀ i, i < m → sm (fun j => M i j * z j) n = 0)
theorem Gs.start {m n a : Nat} {A : Nat → Nat → Int} (hb : ∀ i, i < m → ∀ j, j < n → -(a : Int) ≤ A i j ∧ A i j ≤ a) (p : Nat → Nat) : Gs m n a A A A 0 0 p where
 hr := by omega
 hc := by omega
 ps := fun l h => by omega
 asc := fun l k _ h => by omega
 diag := fun l h => by omega
 off := fun l h => by omega
 low := fun i _ _ j h => by omega
 indep := fun y _ k h => by omega
 comb := ⟨1, by decide, fun _ _ => 0, fun _ => 1, fun _ _ _ => (by simp), fun i h => by omega, fun i _ j _ => by simp [sm]⟩
 bnd := hb
 ker := fun z => Iff.rfl
theorem Gs.skip {m n a : Nat} {A0 A M : Nat → Nat → Int} {r c : Nat} {p : Nat → Nat} (h : Gs m n a A0 A M r c p) (hc : c < n) (h0 : ∀ i, i < m → r ≤ i → M i c = 0) : Gs m n a A0 A M r (c + 1) p :=
 { h with
  hc := hc
  ps := fun l hl => by have := h.ps l hl; omega
  low := fun i hi hr j hj => by
   by_cases e : j = c
   · rw [e]; exact h0 i hi hr
   · exact h.low i hi hr j (by omega) }
def swp (M : Nat → Nat → Int) (r i : Nat) : Nat → Nat → Int := fun k => if k = r then M i else if k = i then M r else M k
theorem Gs.swap {m n a : Nat} {A0 A M : Nat → Nat → Int} {r c : Nat} {p : Nat → Nat} (h : Gs m n a A0 A M r c p) (i : Nat) (hi : i < m) (hri : r ≤ i) : Gs m n a A0 (swp A r i) (swp M r i) r c p := by
 have hlt : ∀ (B : Nat → Nat → Int) k, k < r → swp B r i k = B k := fun B k hk => by unfold swp; rw [if_neg (by omega), if_neg (by omega)]
 obtain ⟨τ, hτ⟩ : ∃ τ : Nat → Nat, τ = fun k => if k = r then i else if k = i then r else k := ⟨_, rfl⟩
 have hsw : ∀ (B : Nat → Nat → Int) k, swp B r i k = B (τ k) := fun B k => by
  rw [hτ]; unfold swp; simp only
  by_cases e : k = r
  · rw [if_pos e, if_pos e]
  ·
   by_cases e2 : k = i
   · rw [if_neg e, if_neg e, if_pos e2, if_pos e2]
   · rw [if_neg e, if_neg e, if_neg e2, if_neg e2]
 have hτm : ∀ k, k < m → τ k < m := fun k hk => by rw [hτ]; simp only; split; exact hi; split <;> omega
 have hτr : ∀ k, r ≤ k → r ≤ τ k := fun k hk => by rw [hτ]; simp only; split; exact hri; split <;> omega
 have hτl : ∀ k, k < r → τ k = k := fun k hk => by rw [hτ]; simp only; rw [if_neg (by omega), if_neg (by omega)]
 have hττ : ∀ k, τ (τ k) = k := fun k => by rw [hτ]; simp only; split <;> (try split) <;> (try split) <;> omega
 refine { hr := h.hr, hc := h.hc, ps := h.ps, asc := h.asc, diag := fun l hl => ?_, off := fun l hl k hk hne => ?_, low := fun k hk hrk j hj => ?_, indep := fun y hy => ?_, comb := ?_, bnd := fun k hk => ?_, ker := fun z => ?_ }
 · rw [hlt M l hl]; exact h.diag l hl
 ·
  rw [hsw]
  refine h.off l hl (τ k) (hτm k hk) (fun e => hne ?_)
  rw [← hττ k, e, hτl l hl]
 · rw [hsw]; exact h.low _ (hτm k hk) (hτr k hrk) j hj
 ·
  refine h.indep y (fun j hj => ?_)
  rw [← hy j hj]
  exact sm_congr fun k hk => by rw [hlt A k hk]
 ·
  obtain ⟨u, hu, X, x, h1, h2, h3⟩ := h.comb
  refine ⟨u, hu, fun k => X (τ k), fun k => x (τ k), fun k hk hr => h1 _ (hτm k hk) (hτr k hr), fun k hk => ?_, fun k hk j hj => ?_⟩
  · simp only; rw [hτl k hk]; exact h2 k hk
  ·
   rw [hsw, hsw, h3 _ (hτm k hk) j hj]
   congr 1
   exact sm_congr fun l hl => by rw [hlt M l hl]
 · rw [hsw]; exact h.bnd _ (hτm k hk)
 ·
  rw [h.ker z]
  constructor
  · intro H k hk; rw [hsw]; exact H _ (hτm k hk)
  ·
   intro H k hk
   have := H _ (hτm k hk)
   rw [hsw, hττ] at this; exact this
theorem Gs.scale {m n a : Nat} {A0 A M M' : Nat → Nat → Int} {r c : Nat} {p : Nat → Nat} (h : Gs m n a A0 A M r c p) (g : Nat → Int) (hg : ∀ k, k < m → g k ≠ 0) (hM : ∀ k, k < m → ∀ j, j < n → M k j = g k * M' k j) : Gs m n a A0 A M' r c p := by
 have hr := h.hr; have hc := h.hc
 have hz : ∀ k, k < m → ∀ j, j < n → (M k j = 0 ↔ M' k j = 0) := fun k hk j hj => by
  rw [hM k hk j hj, Int.mul_eq_zero]
  exact ⟨fun h => h.resolve_left (hg k hk), Or.inr⟩
 refine { hr := h.hr, hc := h.hc, ps := h.ps, asc := h.asc, diag := fun l hl => ?_, off := fun l hl k hk hne => ?_, low := fun k hk hrk j hj => ?_, indep := h.indep, comb := ?_, bnd := h.bnd, ker := fun z => ?_ }
 ·
  have := h.ps l hl
  exact fun e => h.diag l hl ((hz l (by omega) _ (by omega)).2 e)
 ·
  have := h.ps l hl
  exact (hz k hk _ (by omega)).1 (h.off l hl k hk hne)
 · exact (hz k hk j (by omega)).1 (h.low k hk hrk j hj)
 ·
  obtain ⟨u, hu, X, x, h1, h2, h3⟩ := h.comb
  refine ⟨u, hu, fun k l => X k l * g l, fun k => x k * g k, fun k hk hr => fun e => ?_, fun k hk => ?_, fun k hk j hj => ?_⟩
  ·
   rcases Int.mul_eq_zero.1 e with e | e
   · exact h1 k hk hr e
   · exact hg k hk e
  · simp only; rw [h2 k hk, Int.zero_mul]
  ·
   rw [h3 k hk j hj, hM k hk j hj, Int.mul_assoc]
   congr 1
   exact sm_congr fun l hl => by rw [hM l (by omega) j hj, Int.mul_assoc]
 ·
  rw [h.ker z]
  have e : ∀ k, k < m → sm (fun j => M k j * z j) n = g k * sm (fun j => M' k j * z j) n := fun k hk => by
   rw [← sm_mul]
   exact sm_congr fun j hj => by rw [hM k hk j hj, Int.mul_assoc]
  constructor
  ·
   intro H k hk
   have := H k hk
   rw [e k hk, Int.mul_eq_zero] at this
   exact this.resolve_left (hg k hk)
  · intro H k hk; rw [e k hk, H k hk, Int.mul_zero]
theorem zG {m n r N : Nat} {A M : Nat → Nat → Int} {u : Int} {X : Nat → Nat → Int} {x : Nat → Int} (h3 : ∀ i, i < m → ∀ j, j < n → u * A i j = sm (fun l => X i l * M l j) r + x i * M i j)
  (κ : Nat → Nat) (hκ : ∀ k, k < N → κ k < m) (y : Nat → Int) (j : Nat) (hj : j < n) :
  u * sm (fun k => y k * A (κ k) j) N = sm (fun l => sm (fun k => y k * X (κ k) l) N * M l j) r + sm (fun k => y k * x (κ k) * M (κ k) j) N := by
 rw [← sm_mul]
 have e1 : sm (fun k => u * (y k * A (κ k) j)) N = sm (fun k => sm (fun l => y k * X (κ k) l * M l j) r + y k * x (κ k) * M (κ k) j) N := by
  refine sm_congr fun k hk => ?_
  have := h3 (κ k) (hκ k hk) j hj
  rw [show u * (y k * A (κ k) j) = y k * (u * A (κ k) j) by rw [← Int.mul_assoc, Int.mul_comm u, Int.mul_assoc], this, Int.mul_add, ← sm_mul, Int.mul_assoc]
  congr 1
  exact sm_congr fun l _ => by rw [Int.mul_assoc]
 rw [e1, sm_add, sm_comm]
 congr 1
 refine sm_congr fun l _ => ?_
 rw [Int.mul_comm, ← sm_mul]
 exact sm_congr fun k _ => by rw [Int.mul_comm]
theorem Gs.coef {m n a : Nat} {A0 A M : Nat → Nat → Int} {r c : Nat} {p : Nat → Nat} (h : Gs m n a A0 A M r c p) (C : Nat → Int) (l : Nat) (hl : l < r) : sm (fun k => C k * M k (p l)) r = C l * M l (p l) :=
 zj (f := fun k => C k * M k (p l)) l hl (fun k hk hne => by
  have := h.hr
  rw [h.off l hl k (by omega) hne, Int.mul_zero])
theorem Gs.elim {m n a : Nat} {A0 A M M' : Nat → Nat → Int} {r c : Nat} {p : Nat → Nat} (h : Gs m n a A0 A M r c p) (hr : r < m) (hc : c < n) (h0 : M r c ≠ 0) (g : Nat → Int) (hg : ∀ k, k < m → k ≠ r → g k ≠ 0)
  (hM : ∀ k, k < m → k ≠ r → ∀ j, j < n → g k * M' k j = M r c * M k j - M k c * M r j) (hMr : ∀ j, j < n → M' r j = M r j) : Gs m n a A0 A M' (r + 1) (c + 1) (fun l => if l = r then c else p l) := by
 have hpl : ∀ l, l < r → M r (p l) = 0 := fun l hl => h.off l hl r hr (by omega)
 have hzero : ∀ k, k < m → k ≠ r → ∀ j, j < n → M r c * M k j - M k c * M r j = 0 → M' k j = 0 := fun k hk hne j hj e => by
  have := hM k hk hne j hj
  rw [e, Int.mul_eq_zero] at this
  exact this.resolve_left (hg k hk hne)
 obtain ⟨u, hu, X, x, h1, h2, h3⟩ := h.comb
 refine { hr := hr, hc := hc, ps := fun l hl => ?_, asc := fun l k hlk hk => ?_, diag := fun l hl => ?_, off := fun l hl k hk hne => ?_, low := fun k hk hrk j hj => ?_, indep := fun y hy => ?_, comb := ?_, bnd := h.bnd, ker := fun z => ?_ }
 ·
  split
  · omega
  · have := h.ps l (by omega); omega
 ·
  rw [if_neg (show ¬ l = r by omega)]
  split
  · exact h.ps l (by omega)
  · exact h.asc l k hlk (by omega)
 ·
  by_cases e : l = r
  · rw [if_pos e, e, hMr c hc]; exact h0
  ·
   rw [if_neg e]
   have hp := h.ps l (by omega)
   intro e2
   have := hM l (by omega) e (p l) (by omega)
   rw [e2, Int.mul_zero, hpl l (by omega), Int.mul_zero, Int.sub_zero] at this
   rcases Int.mul_eq_zero.1 this.symm with e3 | e3
   · exact h0 e3
   · exact h.diag l (by omega) e3
 ·
  by_cases e : l = r
  ·
   rw [if_pos e]
   rw [e] at hne
   refine hzero k hk hne c hc ?_
   rw [Int.mul_comm]; omega
  ·
   rw [if_neg e]
   have hp := h.ps l (by omega)
   by_cases ek : k = r
   · rw [ek, hMr _ (by omega)]; exact hpl l (by omega)
   ·
    refine hzero k hk ek _ (by omega) ?_
    rw [hpl l (by omega), h.off l (by omega) k hk hne]; simp
 ·
  have hkr : k ≠ r := by omega
  refine hzero k hk hkr j (by omega) ?_
  by_cases e : j = c
  · rw [e, Int.mul_comm]; omega
  · rw [h.low k hk (by omega) j (by omega), h.low r hr (Nat.le_refl _) j (by omega)]; simp
 ·
  have hex := fun j hj => zG (N := r + 1) h3 (fun k => k) (fun k hk => by omega) y j hj
  have hC : ∀ l, l < r → sm (fun k => y k * X k l) (r + 1) = 0 := fun l hl => by
   have hp := h.ps l hl
   have := hex (p l) (by omega)
   rw [hy (p l) (by omega), Int.mul_zero, h.coef _ l hl, sm_zero (f := fun k => y k * x k * M k (p l)) (n := r + 1) (fun k hk => by
    by_cases e : k < r
    · rw [h2 k e]; simp
    · rw [show k = r by omega, hpl l hl, Int.mul_zero]), Int.add_zero] at this
   exact (Int.mul_eq_zero.1 this.symm).resolve_right (h.diag l hl)
  have hyr : y r = 0 := by
   have := hex c hc
   rw [hy c hc, Int.mul_zero, sm_zero (n := r) (fun l hl => by rw [hC l hl, Int.zero_mul]), Int.zero_add, zj r (by omega) (fun k hk hne => by rw [h2 k (by omega)]; simp)] at this
   rcases Int.mul_eq_zero.1 this.symm with e | e
   · exact (Int.mul_eq_zero.1 e).resolve_right (h1 r hr (Nat.le_refl _))
   · exact absurd e h0
  intro k hk
  by_cases e : k = r
  · rw [e]; exact hyr
  ·
   refine h.indep y (fun j hj => ?_) k (by omega)
   have := hy j hj
   simp only [sm] at this
   rw [hyr, Int.zero_mul, Int.add_zero] at this; exact this
 ·
  refine ⟨u * M r c, fun e => (Int.mul_eq_zero.1 e).elim hu h0, fun i l => if l = r then sm (fun l => X i l * M l c) r + x i * M i c else X i l * g l, fun i => if i = r then 0 else x i * g i, fun i hi hri => ?_, fun i hi => ?_, fun i hi j hj => ?_⟩
  ·
   simp only; rw [if_neg (by omega)]
   exact fun e => (Int.mul_eq_zero.1 e).elim (h1 i hi (by omega)) (hg i hi (by omega))
  ·
   simp only; split
   · rfl
   · rw [h2 i (by omega), Int.zero_mul]
  ·
   rw [show u * M r c * A i j = M r c * (u * A i j) by rw [Int.mul_comm u, Int.mul_assoc], h3 i hi j hj, Int.mul_add, ← sm_mul]
   simp only [sm, if_pos]
   have e1 : sm (fun l => M r c * (X i l * M l j)) r = sm (fun l => (if l = r then sm (fun l => X i l * M l c) r + x i * M i c else X i l * g l) * M' l j) r + M r j * sm (fun l => X i l * M l c) r := by
    rw [← sm_mul, ← sm_add]
    refine sm_congr fun l hl => ?_
    have := hM l (by omega) (by omega) j hj
    rw [if_neg (by omega), Int.mul_assoc (X i l), this, Int.mul_sub]
    simp only [Int.mul_left_comm, Int.mul_comm]
    omega
   rw [e1, hMr j hj]
   by_cases ei : i = r
   ·
    rw [if_pos ei, ei, Int.zero_mul, Int.add_zero, Int.add_mul]
    simp only [Int.mul_left_comm, Int.mul_comm]
    omega
   ·
    have := hM i hi ei j hj
    rw [if_neg ei, Int.mul_assoc (x i), this, Int.add_mul, Int.mul_sub]
    simp only [Int.mul_left_comm, Int.mul_comm]
    omega
 ·
  rw [h.ker z]
  have e : ∀ k, k < m → k ≠ r → g k * sm (fun j => M' k j * z j) n = M r c * sm (fun j => M k j * z j) n - M k c * sm (fun j => M r j * z j) n := fun k hk hne => by
   rw [← sm_mul, ← sm_mul, ← sm_mul, show ∀ a b : Int, a - b = a + -1 * b from fun a b => by omega, ← sm_mul, ← sm_add]
   refine sm_congr fun j hj => ?_
   rw [← Int.mul_assoc, hM k hk hne j hj, Int.sub_mul, Int.mul_assoc, Int.mul_assoc]; omega
  have er : sm (fun j => M' r j * z j) n = sm (fun j => M r j * z j) n := sm_congr fun j hj => by rw [hMr j hj]
  constructor
  ·
   intro H k hk
   by_cases ek : k = r
   · rw [ek, er]; exact H r hr
   ·
    have := e k hk ek
    rw [H k hk, H r hr] at this
    simp only [Int.mul_zero, Int.sub_self] at this
    exact (Int.mul_eq_zero.1 this).resolve_left (hg k hk ek)
  ·
   intro H k hk
   by_cases ek : k = r
   · rw [ek, ← er]; exact H r hr
   ·
    have := e k hk ek
    rw [H k hk, ← er, H r hr, Int.mul_zero, Int.mul_zero, Int.sub_zero] at this
    exact (Int.mul_eq_zero.1 this.symm).resolve_left h0
def Fair (n : Nat) (R : Nat → Int) : Prop := (∀ j, j < n → R j = 0) ∨ ∃ (e : Nat → Int) (g : Int), 1 ≤ g ∧ g ≤ 9 ∧ sm (fun j => e j * R j) n = g
theorem qw {n : Nat} {R s : Nat → Int} {u lam S : Int} (hu : u ≠ 0) (hl : lam ≠ 0) (hs : ∀ j, j < n → u * s j = lam * R j) (hS : ∀ j, j < n → -S ≤ s j ∧ s j ≤ S) (hf : Fair n R) (hS0 : 0 ≤ S) : ∀ j, j < n → -(9 * S) ≤ R j ∧ R j ≤ 9 * S := by
 rcases hf with hf | ⟨e, g, h1, h9, hg⟩
 · intro j hj; rw [hf j hj]; omega
 ·
  obtain ⟨q, hq⟩ : ∃ q, q = sm (fun j => e j * s j) n := ⟨_, rfl⟩
  have hlg : lam * g = u * q := by
   rw [← hg, hq, ← sm_mul, ← sm_mul]
   refine sm_congr fun j hj => ?_
   have := hs j hj
   rw [← Int.mul_assoc, Int.mul_comm lam, Int.mul_assoc, ← this, ← Int.mul_assoc, Int.mul_comm (e j), Int.mul_assoc]
  have hq0 : q ≠ 0 := fun e0 => by
   rw [e0, Int.mul_zero] at hlg
   rcases Int.mul_eq_zero.1 hlg with h | h
   · exact hl h
   · omega
  intro j hj
  have hk : g * s j = q * R j := by
   have : u * (g * s j) = u * (q * R j) := by
    rw [← Int.mul_assoc u q, ← hlg, Int.mul_assoc, Int.mul_left_comm lam, ← hs j hj, Int.mul_left_comm]
   exact Int.eq_of_mul_eq_mul_left hu this
  have hb := hS j hj
  have ha : (R j).natAbs ≤ (g * s j).natAbs := by
   rw [hk, Int.natAbs_mul]
   exact Nat.le_mul_of_pos_left _ (by omega)
  rw [Int.natAbs_mul] at ha
  have hc : g.natAbs * (s j).natAbs ≤ 9 * S.toNat := Nat.mul_le_mul (by omega) (by omega)
  omega
theorem prod_bd {a b x y : Int} (ha : 0 ≤ a) (hb : 0 ≤ b) (hx : -a ≤ x ∧ x ≤ a) (hy : -b ≤ y ∧ y ≤ b) : -(a * b) ≤ x * y ∧ x * y ≤ a * b := by
 have h : (x * y).natAbs ≤ a.toNat * b.toNat := by rw [Int.natAbs_mul]; exact Nat.mul_le_mul (by omega) (by omega)
 have e : ((a.toNat * b.toNat : Nat) : Int) = a * b := by rw [Int.natCast_mul, Int.toNat_of_nonneg ha, Int.toNat_of_nonneg hb]
 omega
theorem Gs.small {m n a : Nat} {A0 A M : Nat → Nat → Int} {r c : Nat} {p : Nat → Nat} (h : Gs m n a A0 A M r c p) (ha : 1 ≤ a) (hm : 1 ≤ m) (i : Nat) (hi : i < m) (hf : Fair n (M i)) :
  ∀ j, j < n → -(9 * (((m * a) ^ m : Nat) : Int)) ≤ M i j ∧ M i j ≤ 9 * (((m * a) ^ m : Nat) : Int) := by
 have hr := h.hr; have hcn := h.hc
 obtain ⟨u, hu, X, x, h1, h2, h3⟩ := h.comb
 have hma : 1 ≤ m * a := Nat.mul_pos hm ha
 have key : ∀ N, N + 1 ≤ m → ∀ (κ : Nat → Nat), (∀ k, k < N + 1 → κ k < m) → ∀ y : Nat → Int, (∀ k, -((((N + 1) * a) ^ N : Nat) : Int) ≤ y k ∧ y k ≤ (((N + 1) * a) ^ N : Nat)) → ∀ j, j < n → -(((m * a) ^ m : Nat) : Int) ≤ sm (fun k => y k * A (κ k) j) (N + 1) ∧ sm (fun k => y k * A (κ k) j) (N + 1) ≤ ((m * a) ^ m : Nat) := by
  intro N hN κ hκ y hy j hj
  have hb := jp (f := fun k => y k * A (κ k) j) ((((((N + 1) * a) ^ N : Nat) : Int)) * (a : Int)) (n := N + 1) (fun k hk => prod_bd (by omega) (by omega) (hy k) (h.bnd _ (hκ k hk) j hj))
  have e : ((((N + 1) * a) ^ N : Nat) : Int) * (a : Int) * ((N + 1 : Nat) : Int) = (((((N + 1) * a) ^ (N + 1)) : Nat) : Int) := by
   rw [Nat.pow_succ, ← Int.natCast_mul, ← Int.natCast_mul, Nat.mul_assoc, Nat.mul_comm a]
  have h4 : ((N + 1) * a) ^ (N + 1) ≤ (m * a) ^ m := Nat.le_trans (Nat.pow_le_pow_left (Nat.mul_le_mul_right a hN) _) (Nat.pow_le_pow_right hma hN)
  rw [e] at hb
  omega
 by_cases hir : r ≤ i
 ·
  obtain ⟨y, ⟨k0, hk0, hy0⟩, hyb, hys⟩ := zn r a ha (fun k j => A (if k < r then k else i) (p j)) (fun k j hk hj => by
   have := h.ps j hj
   exact h.bnd _ (by split <;> omega) _ (by omega))
  have hκ : ∀ k, k < r + 1 → (if k < r then k else i) < m := fun k hk => by split <;> omega
  have hex := fun j hj => zG (N := r + 1) h3 (fun k => if k < r then k else i) hκ y j hj
  have hx : ∀ j, sm (fun k => y k * x (if k < r then k else i) * M (if k < r then k else i) j) (r + 1) = y r * x i * M i j := fun j => by
   rw [zj r (by omega) (fun k hk hne => by rw [if_pos (by omega), h2 k (by omega)]; simp)]
   simp only [Nat.lt_irrefl, if_false]
  have hC : ∀ l, l < r → sm (fun k => y k * X (if k < r then k else i) l) (r + 1) = 0 := fun l hl => by
   have hp := h.ps l hl
   have := hex (p l) (by omega)
   rw [hys l hl, Int.mul_zero, h.coef _ l hl, hx, h.off l hl i hi (by omega), Int.mul_zero, Int.add_zero] at this
   exact (Int.mul_eq_zero.1 this.symm).resolve_right (h.diag l hl)
  have hlam : ∀ j, j < n → u * sm (fun k => y k * A (if k < r then k else i) j) (r + 1) = y r * x i * M i j := fun j hj => by
   rw [hex j hj, sm_zero (n := r) (fun l hl => by rw [hC l hl, Int.zero_mul]), Int.zero_add, hx]
  by_cases hyr : y r = 0
  ·
   exfalso
   have := h.indep y (fun j hj => by
    have := hlam j hj
    rw [hyr, Int.zero_mul, Int.zero_mul, Int.mul_eq_zero] at this
    have := this.resolve_left hu
    simp only [sm] at this
    rw [hyr, Int.zero_mul, Int.add_zero] at this
    rw [← this]
    exact sm_congr fun k hk => by rw [if_pos hk])
   by_cases e : k0 = r
   · rw [e] at hy0; exact hy0 hyr
   · exact hy0 (this k0 (by omega))
  · exact qw hu (fun e => (Int.mul_eq_zero.1 e).elim hyr (h1 i hi hir)) hlam (key r (by omega) _ hκ y hyb) hf (by omega)
 ·
  have hir' : i < r := by omega
  obtain ⟨N, rfl⟩ : ∃ N, r = N + 1 := ⟨r - 1, by omega⟩
  obtain ⟨y, ⟨k0, hk0, hy0⟩, hyb, hys⟩ := zn N a ha (fun k j => A k (p (if j < i then j else j + 1))) (fun k j hk hj => by
   have := h.ps (if j < i then j else j + 1) (by split <;> omega)
   exact h.bnd _ (by omega) _ (by omega))
  have hex := fun j hj => zG (N := N + 1) h3 (fun k => k) (fun k hk => by omega) y j hj
  have hx : ∀ j, sm (fun k => y k * x k * M k j) (N + 1) = 0 := fun j => sm_zero fun k hk => by rw [h2 k hk]; simp
  have hC : ∀ l, l < N + 1 → l ≠ i → sm (fun k => y k * X k l) (N + 1) = 0 := fun l hl hne => by
   have hp := h.ps l hl
   have := hex (p l) (by omega)
   have hs := hys (if l < i then l else l - 1) (by split <;> omega)
   rw [show (if (if l < i then l else l - 1) < i then (if l < i then l else l - 1) else (if l < i then l else l - 1) + 1) = l by by_cases e : l < i; (rw [if_pos e, if_pos e]); (rw [if_neg e, if_neg (by omega)]; omega)] at hs
   rw [hs, Int.mul_zero, h.coef _ l hl, hx, Int.add_zero] at this
   exact (Int.mul_eq_zero.1 this.symm).resolve_right (h.diag l hl)
  have hlam : ∀ j, j < n → u * sm (fun k => y k * A k j) (N + 1) = sm (fun k => y k * X k i) (N + 1) * M i j := fun j hj => by
   rw [hex j hj, hx, Int.add_zero, zj i hir' (fun l hl hne => by rw [hC l hl hne, Int.zero_mul])]
  by_cases hl0 : sm (fun k => y k * X k i) (N + 1) = 0
  ·
   exfalso
   exact hy0 (h.indep y (fun j hj => by
    have := hlam j hj
    rw [hl0, Int.zero_mul, Int.mul_eq_zero] at this
    exact this.resolve_left hu) k0 hk0)
  · exact qw hu hl0 hlam (key N (by omega) (fun k => k) (fun k hk => by omega) y hyb) hf (by omega)
def InKer (m n : Nat) (A : Nat → Nat → Int) (z : Nat → Int) : Prop := ∀ i, i < m → sm (fun j => A i j * z j) n = 0
def PosRel (m n : Nat) (A : Nat → Nat → Int) : Prop := ∃ z : Nat → Int, (∀ j, j < n → 0 < z j) ∧ InKer m n A z ∧ ∀ z', InKer m n A z' → ∀ j, j < n → ∀ k, k < n → z j * z' k = z k * z' j
theorem ju (m n : Nat) (M : Nat → Nat → Int) : ∃ a : Nat, 1 ≤ a ∧ ∀ i, i < m → ∀ j, j < n → -(a : Int) ≤ M i j ∧ M i j ≤ a := by
 have h1 : ∀ (f : Nat → Int) (n : Nat), ∃ a : Nat, ∀ j, j < n → -(a : Int) ≤ f j ∧ f j ≤ a := by
  intro f n
  induction n with
  | zero => exact ⟨0, fun j hj => by omega⟩
  | succ n ih =>
   obtain ⟨a, ha⟩ := ih
   refine ⟨a + (f n).natAbs, fun j hj => ?_⟩
   by_cases e : j = n
   · subst e; omega
   · have := ha j (by omega); omega
 induction m with
 | zero => exact ⟨1, by omega, fun i hi => by omega⟩
 | succ m ih =>
  obtain ⟨a, h0, ha⟩ := ih
  obtain ⟨b, hb⟩ := h1 (M m) n
  refine ⟨a + b, by omega, fun i hi j hj => ?_⟩
  by_cases e : i = m
  · subst e; have := hb j hj; omega
  · have := ha i (by omega) j hj; omega
theorem qd (m : Nat) (A : Nat → Nat → Int) : ∃ y : Nat → Int, (∃ k, k < m + 1 ∧ y k ≠ 0) ∧ ∀ j, j < m → sm (fun k => y k * A k j) (m + 1) = 0 := by
 obtain ⟨a, h1, h2⟩ := ju (m + 1) m A
 obtain ⟨y, h3, _, h4⟩ := zn m a h1 A (fun k j hk hj => h2 k hk j hj)
 exact ⟨y, h3, h4⟩
theorem jL {f : Nat → Int} (p q : Nat) (hpq : p ≠ q) {n : Nat} (hp : p < n) (hq : q < n) (h : ∀ k, k < n → k ≠ p → k ≠ q → f k = 0) : sm f n = f p + f q := by
 have e : sm f n = sm (fun k => (if k = p then f k else 0) + (if k = p then 0 else f k)) n := sm_congr fun k _ => by split <;> omega
 rw [e, sm_add, zj p hp (fun k _ hk => if_neg hk), zj q hq (fun k hk hne => by
  by_cases e : k = p
  · rw [if_pos e]
  · rw [if_neg e]; exact h k hk e hne), if_pos rfl, if_neg (fun e => hpq e.symm)]
section Final
variable {m n a : Nat} {A0 A M : Nat → Nat → Int} {r : Nat} {p : Nat → Nat}
theorem Gs.places (h : Gs m n a A0 A M r n p) : ∀ l, l < r → l ≤ p l ∧ p l + r ≤ l + n := by
 have h1 : ∀ l, l < r → l ≤ p l := by
  intro l
  induction l with
  | zero => intro _; omega
  | succ l ih => intro hl; have := ih (by omega); have := h.asc l (l + 1) (by omega) hl; omega
 have h2 : ∀ d l, l < r → l + d + 1 = r → p l + r ≤ l + n := by
  intro d
  induction d with
  | zero => intro l hl e; have := h.ps l hl; omega
  | succ d ih => intro l hl e; have := ih (l + 1) (by omega) (by omega); have := h.asc l (l + 1) (by omega) (by omega); omega
 exact fun l hl => ⟨h1 l hl, h2 (r - l - 1) l hl (by omega)⟩
theorem Gs.rank (h : Gs m n a A0 A M r n p) : r ≤ n := by
 by_cases e : r = 0
 · omega
 · have := h.places (r - 1) (by omega); have := h.ps (r - 1) (by omega); omega
theorem Gs.zeros (h : Gs m n a A0 A M r n p) (z : Nat → Int) : (∀ i, i < m → sm (fun j => M i j * z j) n = 0) ↔ ∀ i, i < r → sm (fun j => M i j * z j) n = 0 := by
 have := h.hr
 refine ⟨fun H i hi => H i (by omega), fun H i hi => ?_⟩
 by_cases e : i < r
 · exact H i e
 · exact sm_zero fun j hj => by rw [h.low i hi (by omega) j hj, Int.zero_mul]
def Free (n r : Nat) (p : Nat → Nat) (f : Nat) : Prop := f ≤ r ∧ (∀ l, l < f → p l = l) ∧ ∀ l, f ≤ l → l < r → p l = l + 1
theorem Gs.free_at (h : Gs m n a A0 A M r n p) (hrn : r + 1 = n) (f : Nat) (hf : f ≤ r) (h1 : ∀ l, l < f → p l = l) (h2 : f < r → p f ≠ f) : Free n r p f := by
 refine ⟨hf, h1, fun l hl hr => ?_⟩
 have hp := h.places l hr
 have hpf := h.places f (by omega)
 have h3 := h2 (by omega)
 by_cases e : l = f
 · subst e; omega
 ·
  have : ∀ d, f + d < r → f + d + 1 ≤ p (f + d) := by
   intro d
   induction d with
   | zero => intro _; simp only [Nat.add_zero]; omega
   | succ d ih => intro hd; have := ih (by omega); have := h.asc (f + d) (f + (d + 1)) (by omega) hd; omega
  have := this (l - f) (by omega)
  rw [show f + (l - f) = l by omega] at this
  omega
theorem Gs.row (h : Gs m n a A0 A M r n p) (hrn : r + 1 = n) {f : Nat} (hf : Free n r p f) (l : Nat) (hl : l < r) (z : Nat → Int) : sm (fun j => M l j * z j) n = M l (p l) * z (p l) + M l f * z f := by
 have hr := h.hr
 have hfp : p l ≠ f := by
  by_cases e : l < f
  · rw [hf.2.1 l e]; omega
  · rw [hf.2.2 l (by omega) hl]; omega
 refine jL (f := fun j => M l j * z j) (p l) f hfp (h.ps l hl) (by have := hf.1; omega) (fun k hk h1 h2 => ?_)
 obtain ⟨l', hl', e⟩ : ∃ l', l' < r ∧ p l' = k := by
  by_cases e : k < f
  · exact ⟨k, by have := hf.1; omega, hf.2.1 k e⟩
  · exact ⟨k - 1, by omega, by rw [hf.2.2 (k - 1) (by omega) (by omega)]; omega⟩
 rw [← e, h.off l' hl' l (by omega) (fun x => h1 (by rw [x, e])), Int.zero_mul]
theorem Gs.ker_iff (h : Gs m n a A0 A M r n p) (hrn : r + 1 = n) {f : Nat} (hf : Free n r p f) (z : Nat → Int) : InKer m n A0 z ↔ ∀ l, l < r → M l (p l) * z (p l) + M l f * z f = 0 := by
 unfold InKer
 rw [h.ker z, h.zeros z]
 exact ⟨fun H l hl => by rw [← h.row hrn hf l hl z]; exact H l hl, fun H l hl => by rw [h.row hrn hf l hl z]; exact H l hl⟩
theorem Gs.cover (h : Gs m n a A0 A M r n p) (hrn : r + 1 = n) {f : Nat} (hf : Free n r p f) (j : Nat) (hj : j < n) : j = f ∨ ∃ l, l < r ∧ p l = j := by
 by_cases e : j = f
 · exact Or.inl e
 ·
  by_cases e2 : j < f
  · exact Or.inr ⟨j, by have := hf.1; omega, hf.2.1 j e2⟩
  · exact Or.inr ⟨j - 1, by omega, by rw [hf.2.2 (j - 1) (by omega) (by omega)]; omega⟩
theorem Gs.posrel (h : Gs m n a A0 A M r n p) (hrn : r + 1 = n) {f : Nat} (hf : Free n r p f) (out : Nat → Int) (h0 : 0 < out f) (ho : ∀ l, l < r → M l (p l) * out (p l) + M l f * out f = 0) :
  PosRel m n A0 ↔ ∀ j, j < n → 0 < out j := by
 have hfn : f < n := by have := hf.1; omega
 have hmul : ∀ z, InKer m n A0 z → ∀ j, j < n → out f * z j = out j * z f := by
  intro z hz j hj
  rcases h.cover hrn hf j hj with rfl | ⟨l, hl, rfl⟩
  · rfl
  ·
   have h1 := (h.ker_iff hrn hf z).1 hz l hl
   have h2 := ho l hl
   refine Int.eq_of_mul_eq_mul_left (h.diag l hl) ?_
   have e1 : M l (p l) * (out f * z (p l)) = out f * (M l (p l) * z (p l)) := Int.mul_left_comm _ _ _
   have e2 : M l (p l) * (out (p l) * z f) = (M l (p l) * out (p l)) * z f := (Int.mul_assoc _ _ _).symm
   rw [e1, e2, show M l (p l) * z (p l) = -(M l f * z f) by omega, show M l (p l) * out (p l) = -(M l f * out f) by omega, Int.mul_neg, Int.neg_mul, Int.mul_left_comm, Int.mul_assoc]
 have hk : InKer m n A0 out := (h.ker_iff hrn hf out).2 ho
 constructor
 ·
  rintro ⟨z, hz, hzk, _⟩ j hj
  have h1 := hmul z hzk j hj
  have h2 := Int.mul_pos h0 (hz j hj)
  rw [h1] at h2
  exact Int.pos_of_mul_pos_left h2 (hz f hfn)
 ·
  intro hp
  refine ⟨out, hp, hk, fun z' hz' j hj k hk' => ?_⟩
  have h1 := hmul z' hz' j hj
  have h2 := hmul z' hz' k hk'
  refine Int.eq_of_mul_eq_mul_left (show out f ≠ 0 by omega) ?_
  rw [Int.mul_left_comm, h2, Int.mul_left_comm (out f), h1, Int.mul_left_comm]
theorem Gs.norel (h : Gs m n a A0 A M r n p) (hn : 1 ≤ n) (hrn : r + 1 ≠ n) : ¬ PosRel m n A0 := by
 rintro ⟨z, hz, hzk, hz1⟩
 have hrk := h.rank
 have hr := h.hr
 have hz2 := (h.zeros z).1 ((h.ker z).1 hzk)
 by_cases e : r = n
 ·
  have hp : ∀ l, l < n → p l = l := fun l hl => by have := h.places l (by omega); omega
  have h1 := hz2 0 (by omega)
  rw [zj (f := fun j => M 0 j * z j) 0 (by omega) (fun k hk hne => by
   have := h.off k (by omega) 0 (by omega) (fun x => hne x.symm)
   rw [hp k hk] at this
   rw [this, Int.zero_mul])] at h1
  have h2 := h.diag 0 (by omega)
  rw [hp 0 (by omega)] at h2
  have h3 := hz 0 (by omega)
  rcases Int.mul_eq_zero.1 h1 with e | e
  · exact h2 e
  · omega
 ·
  obtain ⟨y, ⟨k0, hk0, hy0⟩, hy⟩ := qd r (fun k j => M j k)
  have hyk : InKer m n A0 (fun k => if k < r + 1 then y k else 0) := by
   refine (h.ker _).2 ((h.zeros _).2 (fun i hi => ?_))
   have h1 := hy i hi
   have h2 : ∀ d, sm (fun j => M i j * (if j < r + 1 then y j else 0)) (r + 1 + d) = 0 := by
    intro d
    induction d with
    | zero =>
     rw [← h1]
     exact sm_congr fun k hk => by rw [if_pos hk, Int.mul_comm]
    | succ d ih =>
     rw [show r + 1 + (d + 1) = (r + 1 + d) + 1 by omega]
     simp only [sm]
     rw [ih, if_neg (by omega), Int.mul_zero]; rfl
   have := h2 (n - (r + 1))
   rw [show r + 1 + (n - (r + 1)) = n by omega] at this
   exact this
  have h3 := hz1 _ hyk k0 (by omega) (n - 1) (by omega)
  rw [if_neg (by omega), Int.mul_zero, if_pos hk0] at h3
  rcases Int.mul_eq_zero.1 h3.symm with e | e
  · have := hz (n - 1) (by omega); omega
  · exact hy0 e
theorem Gs.back (h : Gs m n a A0 A M r n p) (l : Nat) (hl : l < r) : ∃ t : Int, t ≠ 0 ∧ ∃ Y : Nat → Int, ∀ j, j < n → t * M l j = sm (fun k => Y k * A k j) r := by
 have hr := h.hr
 obtain ⟨u, hu, X, x, h1, h2, h3⟩ := h.comb
 obtain ⟨y, ⟨k0, hk0, hy0⟩, hy⟩ := qd r (fun k j => if k < r then X k j else if j = l then u else 0)
 have hC : ∀ j, j < r → sm (fun k => y k * X k j) r = -(y r * (if j = l then u else 0)) := fun j hj => by
  have := hy j hj
  simp only [sm] at this
  rw [sm_congr (g := fun k => y k * X k j) (fun k hk => by rw [if_pos hk]), if_neg (Nat.lt_irrefl _)] at this
  omega
 have hex : ∀ j, j < n → u * sm (fun k => y k * A k j) r = -(u * (y r * M l j)) := fun j hj => by
  have := zG (N := r) h3 (fun k => k) (fun k hk => by omega) y j hj
  rw [this, sm_zero (n := r) (f := fun k => y k * x k * M k j) (fun k hk => by rw [h2 k hk]; simp), Int.add_zero, zj l hl (fun k hk hne => by rw [hC k hk, if_neg hne]; simp), hC l hl, if_pos rfl, Int.neg_mul]
  congr 1
  rw [Int.mul_comm (y r) u, Int.mul_assoc]
 have hex2 : ∀ j, j < n → sm (fun k => y k * A k j) r = -(y r * M l j) := fun j hj => by
  refine Int.eq_of_mul_eq_mul_left hu ?_
  rw [hex j hj, Int.mul_neg]
 have hyr : y r ≠ 0 := fun e => by
  have := h.indep y (fun j hj => by rw [hex2 j hj, e]; simp)
  by_cases e0 : k0 = r
  · rw [e0] at hy0; exact hy0 e
  · exact hy0 (this k0 (by omega))
 exact ⟨-(y r), by omega, y, fun j hj => by rw [hex2 j hj, Int.neg_mul]⟩
theorem Gs.tame (h : Gs m n a A0 A M r n p) (ha : 1 ≤ a) (hrn : r + 1 = n) {f : Nat} (hf : Free n r p f) :
  ∃ z : Nat → Int, z f ≠ 0 ∧ (∀ j, -(((n * a) ^ r : Nat) : Int) ≤ z j ∧ z j ≤ ((n * a) ^ r : Nat)) ∧ ∀ l, l < r → M l (p l) * z (p l) + M l f * z f = 0 := by
 have hr := h.hr
 obtain ⟨z, ⟨k0, hk0, hz0⟩, hzb, hz⟩ := zn r a ha (fun k j => A j k) (fun k j hk hj => h.bnd j (by omega) k (by omega))
 have hrow : ∀ l, l < r → M l (p l) * z (p l) + M l f * z f = 0 := fun l hl => by
  rw [← h.row hrn hf l hl z]
  obtain ⟨t, ht, Y, hY⟩ := h.back l hl
  refine (Int.mul_eq_zero.1 (show t * sm (fun j => M l j * z j) n = 0 from ?_)).resolve_left ht
  rw [← sm_mul, sm_congr (g := fun j => sm (fun k => Y k * (A k j * z j)) r) (fun j hj => by
   rw [← Int.mul_assoc, hY j hj, Int.mul_comm, ← sm_mul]
   exact sm_congr fun k _ => by rw [Int.mul_comm (z j), Int.mul_assoc])]
  rw [sm_comm]
  refine sm_zero fun k hk => ?_
  rw [sm_mul, ← hrn, sm_congr (g := fun j => z j * A k j) (fun j _ => Int.mul_comm _ _), hz k hk, Int.mul_zero]
 refine ⟨z, fun e => ?_, fun j => by rw [← hrn]; exact hzb j, hrow⟩
 rcases h.cover hrn hf k0 (by omega) with rfl | ⟨l, hl, rfl⟩
 · exact hz0 e
 ·
  have := hrow l hl
  rw [e, Int.mul_zero, Int.add_zero] at this
  exact (Int.mul_eq_zero.1 this).elim (h.diag l hl) hz0
theorem Gs.pivot_dvd (h : Gs m n a A0 A M r n p) (hrn : r + 1 = n) {f : Nat} (hf : Free n r p f) (hfair : ∀ l, l < r → Fair n (M l)) (z : Nat → Int) (hz : ∀ l, l < r → M l (p l) * z (p l) + M l f * z f = 0) (l : Nat) (hl : l < r) : M l (p l) ∣ 2520 * z f := by
 rcases hfair l hl with h0 | ⟨e, g, h1, h9, hg⟩
 · exact absurd (h0 _ (h.ps l hl)) (h.diag l hl)
 ·
  have hrow := h.row hrn hf l hl e
  have hg' : M l (p l) * e (p l) + M l f * e f = g := by
   rw [← hrow, ← hg]; exact sm_congr fun j _ => Int.mul_comm _ _
  have hd : M l (p l) ∣ g * z f := by
   refine ⟨e (p l) * z f - e f * z (p l), ?_⟩
   have h2 := hz l hl
   have h3 : M l f * z f * e f = -(M l (p l) * z (p l)) * e f := by rw [show M l f * z f = -(M l (p l) * z (p l)) by omega]
   rw [← hg', Int.add_mul, Int.mul_sub, Int.mul_assoc (M l (p l)), Int.mul_right_comm (M l f), h3, Int.neg_mul, Int.mul_assoc, Int.mul_comm (z (p l))]
   omega
  obtain ⟨k, hk⟩ : ∃ k, 2520 = k * g := by
   have : g = 1 ∨ g = 2 ∨ g = 3 ∨ g = 4 ∨ g = 5 ∨ g = 6 ∨ g = 7 ∨ g = 8 ∨ g = 9 := by omega
   rcases this with rfl | rfl | rfl | rfl | rfl | rfl | rfl | rfl | rfl
   · exact ⟨2520, rfl⟩
   · exact ⟨1260, rfl⟩
   · exact ⟨840, rfl⟩
   · exact ⟨630, rfl⟩
   · exact ⟨504, rfl⟩
   · exact ⟨420, rfl⟩
   · exact ⟨360, rfl⟩
   · exact ⟨315, rfl⟩
   · exact ⟨280, rfl⟩
  rw [hk, Int.mul_assoc]
  exact Int.dvd_trans hd (Int.dvd_mul_left _ _)
end Final
theorem bez (a b : Nat) : ∃ x y : Int, x * a + y * b = (Nat.gcd a b : Nat) := by
 induction a, b using Nat.gcd.induction with
 | H0 n => exact ⟨0, 1, by simp⟩
 | H1 m n hm ih =>
  obtain ⟨x, y, h⟩ := ih
  refine ⟨y - x * ((n / m : Nat) : Int), x, ?_⟩
  rw [Nat.gcd_rec, ← h]
  have e : ((n % m : Nat) : Int) = (n : Int) - (m : Int) * ((n / m : Nat) : Int) := by
   have := Nat.mod_add_div n m
   have h2 : ((n % m + m * (n / m) : Nat) : Int) = (n : Int) := by rw [this]
   rw [Int.natCast_add, Int.natCast_mul] at h2; omega
  rw [e, Int.sub_mul, Int.mul_sub, Int.mul_assoc, Int.mul_comm (n / m : Nat) (m : Int)]; omega
def gl (l : List Int) : Nat := l.foldl (fun g x => Nat.gcd g x.natAbs) 0
theorem jv (l : List Int) (x : Int) : gl (l ++ [x]) = Nat.gcd (gl l) x.natAbs := by simp [gl]
theorem gl_take (l : List Int) (i : Nat) (h : i < l.length) : gl (l.take (i + 1)) = Nat.gcd (gl (l.take i)) (l.getD i 0).natAbs := by
 rw [List.take_succ_eq_append_getElem h, jv]
 simp [List.getD_eq_getElem?_getD, List.getElem?_eq_getElem h]
theorem gl_bd (l : List Int) (B : Nat) (h : ∀ j, j < l.length → (l.getD j 0).natAbs ≤ B) : ∀ i, i ≤ l.length → gl (l.take i) ≤ B := by
 intro i
 induction i with
 | zero => intro _; simp [gl]
 | succ i ih =>
  intro hi
  rw [gl_take l i (by omega)]
  have h1 := h i (by omega)
  rcases Nat.eq_zero_or_pos (l.getD i 0).natAbs with e | e
  · rw [e, Nat.gcd_zero_right]; exact ih (by omega)
  · exact Nat.le_trans (Nat.gcd_le_right _ e) h1
theorem qe (l : List Int) : ∀ i, i ≤ l.length → ∀ j, j < i → (gl (l.take i) : Int) ∣ l.getD j 0 := by
 intro i
 induction i with
 | zero => intro _ j h; omega
 | succ i ih =>
  intro hi j hj
  rw [gl_take l i (by omega)]
  by_cases e : j = i
  · subst e; exact Int.dvd_trans (Int.natCast_dvd_natCast.2 (Nat.gcd_dvd_right _ _)) (Int.natAbs_dvd.2 (Int.dvd_refl _))
  · exact Int.dvd_trans (Int.natCast_dvd_natCast.2 (Nat.gcd_dvd_left _ _)) (ih (by omega) j (by omega))
theorem jM (l : List Int) : ∀ i, i ≤ l.length → ∃ e : Nat → Int, sm (fun j => e j * l.getD j 0) i = (gl (l.take i) : Nat) := by
 intro i
 induction i with
 | zero => intro _; exact ⟨fun _ => 0, by simp [sm, gl]⟩
 | succ i ih =>
  intro hi
  obtain ⟨e, he⟩ := ih (by omega)
  obtain ⟨x, y, hxy⟩ := bez (gl (l.take i)) (l.getD i 0).natAbs
  have hs : ∃ s : Int, ((l.getD i 0).natAbs : Int) = s * l.getD i 0 := by
   rcases Int.natAbs_eq (l.getD i 0) with h | h
   · exact ⟨1, by omega⟩
   · exact ⟨-1, by omega⟩
  obtain ⟨s, hs⟩ := hs
  refine ⟨fun j => if j = i then y * s else x * e j, ?_⟩
  rw [gl_take l i (by omega), ← hxy]
  simp only [sm, if_true]
  rw [sm_congr (g := fun j => x * (e j * l.getD j 0)) (fun j hj => by rw [if_neg (by omega), Int.mul_assoc]), sm_mul, he, hs, Int.mul_assoc]
theorem jw (l : List Int) (h : gl l = 0) (j : Nat) : l.getD j 0 = 0 := by
 rcases Nat.lt_or_ge j l.length with hj | hj
 ·
  have := qe l l.length (Nat.le_refl _) j hj
  rw [List.take_length, h] at this
  exact Int.zero_dvd.1 this
 · rw [List.getD_eq_getElem?_getD, List.getElem?_eq_none hj]; rfl
def cut (l : List Int) : List Int := if gl l > 1 then l.map (fun x => Int.tdiv x (gl l : Int)) else l
theorem cut_len (l : List Int) : (cut l).length = l.length := by unfold cut; split <;> simp
theorem cut_at (l : List Int) : ∃ g : Int, 1 ≤ g ∧ ∀ j, l.getD j 0 = g * (cut l).getD j 0 := by
 unfold cut
 by_cases h : gl l > 1
 ·
  refine ⟨(gl l : Nat), by omega, fun j => ?_⟩
  rw [if_pos h]
  rcases Nat.lt_or_ge j l.length with hj | hj
  ·
   have hd := qe l l.length (Nat.le_refl _) j hj
   rw [List.take_length] at hd
   have e : (l.map (fun x => Int.tdiv x (gl l : Int))).getD j 0 = Int.tdiv (l.getD j 0) (gl l : Int) := by
    simp [List.getD_eq_getElem?_getD, List.getElem?_map, List.getElem?_eq_getElem hj]
   rw [e, Int.mul_tdiv_cancel' hd]
  · rw [List.getD_eq_getElem?_getD, List.getElem?_eq_none hj, List.getD_eq_getElem?_getD, List.getElem?_eq_none (by simpa using hj)]; simp
 · exact ⟨1, Int.le_refl _, fun j => by rw [if_neg h, Int.one_mul]⟩
theorem cut_fair (l : List Int) : Fair l.length (fun j => (cut l).getD j 0) := by
 obtain ⟨e, he⟩ := jM l l.length (Nat.le_refl _)
 rw [List.take_length] at he
 rcases Nat.eq_zero_or_pos (gl l) with h0 | h0
 ·
  refine Or.inl fun j hj => ?_
  obtain ⟨g, hg, h⟩ := cut_at l
  have := jw l h0 j
  rw [h j] at this
  exact (Int.mul_eq_zero.1 this).resolve_left (by omega)
 ·
  refine Or.inr ⟨e, 1, by omega, by omega, ?_⟩
  unfold cut
  by_cases h : gl l > 1
  ·
   rw [if_pos h]
   have hc : ∀ j, j < l.length → (gl l : Int) * (l.map (fun x => Int.tdiv x (gl l : Int))).getD j 0 = l.getD j 0 := fun j hj => by
    have hd := qe l l.length (Nat.le_refl _) j hj
    rw [List.take_length] at hd
    rw [show (l.map (fun x => Int.tdiv x (gl l : Int))).getD j 0 = Int.tdiv (l.getD j 0) (gl l : Int) by simp [List.getD_eq_getElem?_getD, List.getElem?_map, List.getElem?_eq_getElem hj], Int.mul_tdiv_cancel' hd]
   refine Int.eq_of_mul_eq_mul_left (show (gl l : Int) ≠ 0 by omega) ?_
   rw [← sm_mul, Int.mul_one]
   refine Eq.trans (sm_congr fun j hj => ?_) he
   show (gl l : Int) * (e j * (l.map (fun x => Int.tdiv x (gl l : Int))).getD j 0) = e j * l.getD j 0
   rw [Int.mul_left_comm, hc j hj]
  · rw [if_neg h, he]; omega
theorem small_fair (n : Nat) (R : Nat → Int) (h : ∀ j, j < n → -9 ≤ R j ∧ R j ≤ 9) : Fair n R := by
 by_cases c : ∀ j, j < n → R j = 0
 · exact Or.inl c
 ·
  obtain ⟨j, hj⟩ := Classical.not_forall.1 c
  obtain ⟨hj, h0⟩ := Classical.not_imp.1 hj
  have hb := h j hj
  refine Or.inr ⟨fun k => if k = j then (if 0 < R j then 1 else -1) else 0, if 0 < R j then R j else -R j, by split <;> omega, by split <;> omega, ?_⟩
  rw [zj j hj (fun k hk hne => by simp only [if_neg hne, Int.zero_mul])]
  simp only [if_true]
  split <;> omega
theorem Fair.congr {n : Nat} {R S : Nat → Int} (h : Fair n R) (e : ∀ j, j < n → S j = R j) : Fair n S := by
 rcases h with h | ⟨w, g, h1, h2, h3⟩
 · exact Or.inl fun j hj => by rw [e j hj, h j hj]
 · exact Or.inr ⟨w, g, h1, h2, by rw [← h3]; exact sm_congr fun j hj => by rw [e j hj]⟩
def mt (R : List (List Int)) : Nat → Nat → Int := fun i j => (R.getD i []).getD j 0
def pv (p : List Int) : Nat → Nat := fun l => (p.getD l 0).toNat
def Shape (m n : Nat) (R : List (List Int)) : Prop := R.length = m ∧ ∀ i, i < m → (R.getD i []).length = n
theorem Shape.set {m n : Nat} {R : List (List Int)} (h : Shape m n R) (i : Nat) (s : List Int) (hs : s.length = n) : Shape m n (R.set i s) := by
 refine ⟨by rw [List.length_set]; exact h.1, fun k hk => ?_⟩
 by_cases e : i = k
 · subst e; rw [List.getD_eq_getElem?_getD, List.getElem?_set_self (by rw [h.1]; exact hk)]; exact hs
 · rw [List.getD_eq_getElem?_getD, List.getElem?_set_ne e, ← List.getD_eq_getElem?_getD]; exact h.2 k hk
theorem getD_row (R : List (List Int)) (i k : Nat) (s : List Int) (hk : k < R.length) : (R.set i s).getD k [] = if k = i then s else R.getD k [] := by
 by_cases e : k = i
 · subst e; rw [if_pos rfl, List.getD_eq_getElem?_getD, List.getElem?_set_self hk]; rfl
 · rw [if_neg e, List.getD_eq_getElem?_getD, List.getElem?_set_ne (fun h => e h.symm), ← List.getD_eq_getElem?_getD]
theorem mt_set {m n : Nat} {R : List (List Int)} (h : Shape m n R) (i : Nat) (s : List Int) (k : Nat) (hk : k < m) : mt (R.set i s) k = if k = i then (fun j => s.getD j 0) else mt R k := by
 funext j
 unfold mt
 rw [getD_row R i k s (by rw [h.1]; exact hk)]
 by_cases e : k = i
 · rw [if_pos e, if_pos e]
 · rw [if_neg e, if_neg e]
theorem Gs.congr {m n a : Nat} {A0 A M M' : Nat → Nat → Int} {r c : Nat} {p p' : Nat → Nat} (h : Gs m n a A0 A M r c p) (hM : ∀ i, i < m → ∀ j, j < n → M' i j = M i j) (hp : ∀ l, l < r → p' l = p l) : Gs m n a A0 A M' r c p' := by
 have h1 := h.scale (M' := M') (fun _ => 1) (fun _ _ => by decide) (fun k hk j hj => by rw [hM k hk j hj, Int.one_mul])
 exact { h1 with
  ps := fun l hl => by rw [hp l hl]; exact h1.ps l hl
  asc := fun l k hlk hk => by rw [hp l (by omega), hp k hk]; exact h1.asc l k hlk hk
  diag := fun l hl => by rw [hp l hl]; exact h1.diag l hl
  off := fun l hl i hi hne => by rw [hp l hl]; exact h1.off l hl i hi hne }
theorem InKer.scale {m n : Nat} {A : Nat → Nat → Int} {z z' : Nat → Int} (h : InKer m n A z) (g : Int) (hg : g ≠ 0) (e : ∀ j, j < n → z j = g * z' j) : InKer m n A z' := fun i hi => by
 have h1 := h i hi
 rw [sm_congr (g := fun j => g * (A i j * z' j)) (fun j hj => by rw [e j hj, Int.mul_left_comm]), sm_mul] at h1
 exact (Int.mul_eq_zero.1 h1).resolve_left hg
theorem InKer.congr {m n : Nat} {A : Nat → Nat → Int} {z z' : Nat → Int} (h : InKer m n A z) (e : ∀ j, j < n → z' j = z j) : InKer m n A z' := fun i hi => by
 rw [← h i hi]; exact sm_congr fun j hj => by rw [e j hj]
theorem PosRel_congr {m n : Nat} {A B : Nat → Nat → Int} (h : ∀ i, i < m → ∀ j, j < n → A i j = B i j) : PosRel m n A ↔ PosRel m n B := by
 have e : ∀ z, InKer m n A z ↔ InKer m n B z := fun z => by
  have hsm : ∀ i, i < m → sm (fun j => A i j * z j) n = sm (fun j => B i j * z j) n := fun i hi => sm_congr fun j hj => by rw [h i hi j hj]
  exact ⟨fun h i hi => (hsm i hi).symm.trans (h i hi), fun h i hi => (hsm i hi).trans (h i hi)⟩
 unfold PosRel
 simp only [e]
end Gz
namespace Gw
theorem qE (l : List Int) (i : Nat) (hi : i < 1000000) (R : Int) : ∀ (N : Nat) (x3 x5 : Int), x5.natAbs ≤ N → (∀ g' : Int, g'.natAbs = Nat.gcd x3.natAbs x5.natAbs → Ev (fun k => impl_divisor.l0 k g' l (l.length : Int) ((i + 1 : Nat) : Int)) R) → Ev (fun k => impl_divisor.l1 k x3 x5 l (l.length : Int) (i : Int)) R := by
 intro N
 induction N with
 | zero =>
  intro x3 x5 h hR
  refine Ev.step (fun k => impl_divisor.l1.eq_2 ..) (evp (by omega) ?_)
  rw [w64s i (by omega)]
  exact hR x3 (by rw [show x5.natAbs = 0 by omega, Nat.gcd_zero_right])
 | succ N ih =>
  intro x3 x5 h hR
  by_cases c : x5 = 0
  ·
   refine Ev.step (fun k => impl_divisor.l1.eq_2 ..) (evp c ?_)
   rw [w64s i (by omega)]
   exact hR x3 (by rw [c, show (0 : Int).natAbs = 0 from rfl, Nat.gcd_zero_right])
  ·
   refine Ev.step (fun k => impl_divisor.l1.eq_2 ..) (evn c ?_)
   have h5 : 0 < x5.natAbs := by omega
   have hm := Nat.mod_lt x3.natAbs h5
   refine ih x5 (Int.tmod x3 x5) (by rw [Int.natAbs_tmod]; omega) (fun g' hg => hR g' ?_)
   rw [hg, Int.natAbs_tmod, Nat.gcd_comm x3.natAbs, Nat.gcd_rec x5.natAbs x3.natAbs, Nat.gcd_comm]
theorem qF (l : List Int) (hl : l.length < 1000000) (hB : ∀ j, j < l.length → (l.getD j 0).natAbs ≤ 9223372036854775800) : ∀ (d i : Nat) (g : Int), i + d = l.length → g.natAbs = Gz.gl (l.take i) → Ev (fun k => impl_divisor.l0 k g l (l.length : Int) (i : Int)) ((Gz.gl l : Nat) : Int) := by
 intro d
 induction d with
 | zero =>
  intro i g hi hg
  have hb := Gz.gl_bd l _ hB i (by omega)
  rw [show i = l.length by omega, List.take_length] at hg
  rw [show i = l.length by omega, List.take_length] at hb
  refine Ev.step (fun k => impl_divisor.l0.eq_2 ..) (evn (by omega) (evs ?_))
  rw [w64 (by omega) (by omega), ← hg]
  unfold mx; split <;> omega
 | succ d ih =>
  intro i g hi hg
  have er : rd l (i : Int) = l.getD i 0 := by show l.getD ((i : Int)).toNat 0 = _; rw [Int.toNat_natCast]
  refine Ev.step (fun k => impl_divisor.l0.eq_2 ..) (evp (by omega) (evp (by omega) (evp (by omega) ?_)))
  rw [er]
  refine qE l i (by omega) _ _ _ _ (Nat.le_refl _) (fun g' hg' => ih (i + 1) g' (by omega) ?_)
  rw [hg', Gz.gl_take l i (by omega), hg]
theorem qf (l : List Int) (hl : l.length < 1000000) (hB : ∀ j, j < l.length → (l.getD j 0).natAbs ≤ 9223372036854775800) : Ev (fun k => impl_divisor.f k l) ((Gz.gl l : Nat) : Int) := by
 unfold impl_divisor.f
 exact qF l hl hB l.length 0 0 (by omega) (by simp [Gz.gl])
def zm (f : Int → Int) (l : List Int) (i : Nat) : List Int := (l.map f).take i ++ l.drop i
theorem qW (f : Int → Int) (l : List Int) (i : Nat) (h : i ≤ l.length) : (zm f l i).length = l.length := by simp [zm]; omega
theorem jx (f : Int → Int) (l : List Int) (i : Nat) (h : i < l.length) : rd (zm f l i) (i : Int) = l.getD i 0 := by
 show (zm f l i).getD ((i : Int)).toNat 0 = _
 rw [Int.toNat_natCast]
 unfold zm
 rw [List.getD_eq_getElem?_getD, List.getElem?_append_right (by simp; omega), List.length_take, List.length_map, Nat.min_eq_left (by omega), Nat.sub_self, List.getElem?_drop, List.getD_eq_getElem?_getD, Nat.add_zero]
theorem qX (f : Int → Int) (l : List Int) (i : Nat) (h : i < l.length) : (zm f l i).set i (f (l.getD i 0)) = zm f l (i + 1) := by
 unfold zm
 rw [List.set_append_right _ _ (by simp; omega), List.length_take, List.length_map, Nat.min_eq_left (by omega), Nat.sub_self, List.drop_eq_getElem_cons h, List.set_cons_zero, List.take_succ_eq_append_getElem (by simpa using h), List.append_assoc]
 simp [List.getD_eq_getElem?_getD, List.getElem?_eq_getElem h]
theorem qY (f : Int → Int) (l : List Int) : zm f l l.length = l.map f := by unfold zm; rw [List.drop_length, List.append_nil, List.take_of_length_le (by simp)]
theorem qg (l : List Int) (g : Nat) (hg : 1 < g) (hl : l.length < 1000000) (hB : ∀ j, j < l.length → (l.getD j 0).natAbs ≤ 9223372036854775800) : ∀ (d i : Nat), i + d = l.length → Ev (fun k => impl_shortened.l0 k (zm (fun x => Int.tdiv x (g : Int)) l i) (g : Int) (l.length : Int) (i : Int)) (l.map (fun x => Int.tdiv x (g : Int))) := by
 intro d
 induction d with
 | zero =>
  intro i hi
  refine Ev.step (fun k => impl_shortened.l0.eq_2 ..) (evn (by omega) (evs ?_))
  rw [show i = l.length by omega, qY]
 | succ d ih =>
  intro i hi
  have hb := hB i (by omega)
  have hq : (Int.tdiv (l.getD i 0) (g : Int)).natAbs ≤ (l.getD i 0).natAbs := by rw [Int.natAbs_tdiv]; exact Nat.div_le_self _ _
  refine Ev.step (fun k => impl_shortened.l0.eq_2 ..) (evp (by omega) (evp (by omega) (evp (by rw [qW _ _ _ (by omega)]; omega) (evn (by omega) ?_))))
  rw [jx _ _ _ (by omega), Int.toNat_natCast, w64 (by omega) (by omega), qX _ _ _ (by omega), w64s i (by omega)]
  exact ih (i + 1) (by omega)
theorem qh (l : List Int) (hl : l.length < 1000000) (hB : ∀ j, j < l.length → (l.getD j 0).natAbs ≤ 9223372036854775800) : Ev (fun k => impl_shortened.f k l) (Gz.cut l) := by
 unfold impl_shortened.f Gz.cut
 refine evb (qf l hl hB) ?_
 by_cases c : Gz.gl l > 1
 ·
  refine evp (by omega) ?_
  rw [if_pos c]
  exact qg l _ c hl hB l.length 0 (by omega)
 · exact evn (by omega) (evs (by rw [if_neg c]))
theorem zt (R : List (List Int)) (i c : Nat) : rd (R.getD i []) (c : Int) = Gz.mt R i c := by
 show (R.getD i []).getD ((c : Int)).toNat 0 = _
 rw [Int.toNat_natCast]; rfl
theorem qi {m n : Nat} {R : List (List Int)} (h : Gz.Shape m n R) (W : Int) (hW : 0 ≤ W) (hb : ∀ i, i < m → ∀ j, j < n → -W ≤ Gz.mt R i j ∧ Gz.mt R i j ≤ W) (i j : Nat) : -W ≤ Gz.mt R i j ∧ Gz.mt R i j ≤ W := by
 by_cases hi : i < m
 ·
  by_cases hj : j < n
  · exact hb i hi j hj
  ·
   have : Gz.mt R i j = 0 := by unfold Gz.mt; rw [List.getD_eq_getElem?_getD, List.getElem?_eq_none (by rw [h.2 i hi]; omega)]; rfl
   omega
 ·
  have : Gz.mt R i j = 0 := by
   unfold Gz.mt
   rw [show R.getD i [] = [] by rw [List.getD_eq_getElem?_getD, List.getElem?_eq_none (by rw [h.1]; omega)]; rfl]; rfl
  omega
def zf (n : Nat) (a b : Int) (x p : List Int) : List Int := (List.range n).map fun j : Nat => a * x.getD j 0 - b * p.getD j 0
theorem qj (n : Nat) (a b : Int) (x p : List Int) (j : Nat) (h : j < n) : (zf n a b x p).getD j 0 = a * x.getD j 0 - b * p.getD j 0 := by
 simp [zf, List.getD_eq_getElem?_getD, List.getElem?_map, List.getElem?_range h]
theorem qZ (n : Nat) (a b : Int) (x p : List Int) (W : Int) (hW : 0 ≤ W ∧ 2 * (W * W) ≤ 9223372036854775800) (ha : -W ≤ a ∧ a ≤ W) (hb : -W ≤ b ∧ b ≤ W) (hx : ∀ j, -W ≤ x.getD j 0 ∧ x.getD j 0 ≤ W) (hp : ∀ j, -W ≤ p.getD j 0 ∧ p.getD j 0 ≤ W) (j : Nat) (hj : j < (zf n a b x p).length) : ((zf n a b x p).getD j 0).natAbs ≤ 9223372036854775800 := by
 have hj' : j < n := by simpa [zf] using hj
 rw [qj n a b x p j hj']
 have h1 := Gz.prod_bd hW.1 hW.1 ha (hx j)
 have h2 := Gz.prod_bd hW.1 hW.1 hb (hp j)
 omega
theorem irow (n : Nat) (a b : Int) (x p : List Int) (hxl : x.length = n) (W : Int) (hW : 0 ≤ W ∧ 2 * (W * W) ≤ 9223372036854775800) (ha : -W ≤ a ∧ a ≤ W) (hb : -W ≤ b ∧ b ≤ W) (hx : ∀ j, -W ≤ x.getD j 0 ∧ x.getD j 0 ≤ W) (hp : ∀ j, -W ≤ p.getD j 0 ∧ p.getD j 0 ≤ W) : impl_reduced.row a b x p = zf n a b x p := by
 unfold impl_reduced.row zf
 rw [hxl]
 refine List.map_congr_left fun j hj => ?_
 have e1 : rd x (j : Int) = x.getD j 0 := by show x.getD ((j : Int)).toNat 0 = _; rw [Int.toNat_natCast]
 have e2 : rd p (j : Int) = p.getD j 0 := by show p.getD ((j : Int)).toNat 0 = _; rw [Int.toNat_natCast]
 have h1 := Gz.prod_bd hW.1 hW.1 ha (hx j)
 have h2 := Gz.prod_bd hW.1 hW.1 hb (hp j)
 rw [e1, e2, w64 (x := a * x.getD j 0) (by omega) (by omega), w64 (x := b * p.getD j 0) (by omega) (by omega), w64 (by omega) (by omega)]
def ja (n r c : Nat) (R0 : List (List Int)) (k : Nat) (s : List Int) : Prop :=
 Gz.Fair n (fun j => s.getD j 0) ∧ ∃ g : Int, g ≠ 0 ∧ ∀ j, j < n → g * s.getD j 0 = Gz.mt R0 r c * Gz.mt R0 k j - Gz.mt R0 k c * Gz.mt R0 r j
theorem jb (n r c : Nat) (R0 : List (List Int)) (k : Nat) (x p : List Int) (hx : R0.getD k [] = x) (hp : R0.getD r [] = p) : ja n r c R0 k (Gz.cut (zf n (Gz.mt R0 r c) (Gz.mt R0 k c) x p)) := by
 have hl : (zf n (Gz.mt R0 r c) (Gz.mt R0 k c) x p).length = n := by simp [zf]
 have hf := Gz.cut_fair (zf n (Gz.mt R0 r c) (Gz.mt R0 k c) x p)
 rw [hl] at hf
 obtain ⟨g, hg, h⟩ := Gz.cut_at (zf n (Gz.mt R0 r c) (Gz.mt R0 k c) x p)
 refine ⟨hf, g, by omega, fun j hj => ?_⟩
 rw [← h j, qj n _ _ x p j hj, ← hx, ← hp]
 rfl
theorem ke (m n r c : Nat) (hr : r < m) (hm : m ≤ 1000) (hn : n < 1000000) (R0 : List (List Int)) (h0 : Gz.Shape m n R0) (W : Int) (hW : 0 ≤ W ∧ 2 * (W * W) ≤ 9223372036854775800) (hb : ∀ i j, -W ≤ Gz.mt R0 i j ∧ Gz.mt R0 i j ≤ W) (hf : ∀ i, i < m → Gz.Fair n (Gz.mt R0 i)) (hpc : Gz.mt R0 r c ≠ 0) :
  ∀ d i R, i + d = m → Gz.Shape m n R → (∀ k, k < m → (k = r ∨ i ≤ k) → R.getD k [] = R0.getD k []) → (∀ k, k < i → k ≠ r → ja n r c R0 k (R.getD k [])) →
  ∃ R2, Ev (fun k => impl_reduced.rows k r c i d R) R2 ∧ Gz.Shape m n R2 ∧ R2.getD r [] = R0.getD r [] ∧ ∀ k, k < m → k ≠ r → ja n r c R0 k (R2.getD k []) := by
 intro d
 induction d with
 | zero =>
  intro i R hi hS h1 h2
  refine ⟨R, ?_, hS, h1 r hr (.inl rfl), fun k hk hne => h2 k (by omega) hne⟩
  unfold impl_reduced.rows
  exact evs rfl
 | succ d ih =>
  intro i R hi hS h1 h2
  have hRi := h1 i (by omega) (.inr (Nat.le_refl i))
  have hRr := h1 r hr (.inl rfl)
  unfold impl_reduced.rows
  by_cases c1 : i = r ∨ rd (R.getD i []) (c : Int) = 0
  ·
   obtain ⟨R2, hE, h⟩ := ih (i + 1) R (by omega) hS (fun k hk hor => h1 k hk (hor.imp_right (by omega))) (fun k hk hne => by
    by_cases e : k = i
    ·
     subst e
     have hz : Gz.mt R0 k c = 0 := by
      have := c1.resolve_left hne
      rw [hRi, zt] at this; exact this
     rw [hRi]
     exact ⟨hf k (by omega), Gz.mt R0 r c, hpc, fun j hj => by rw [hz, Int.zero_mul, Int.sub_zero]; rfl⟩
    · exact h2 k (by omega) hne)
   exact ⟨R2, evp c1 hE, h⟩
  have hne : i ≠ r := fun e => c1 (.inl e)
  have hl : (R0.getD i []).length = n := h0.2 i (by omega)
  have e1 : impl_reduced.row (rd (R.getD r []) (c : Int)) (rd (R.getD i []) (c : Int)) (R.getD i []) (R.getD r []) = zf n (Gz.mt R0 r c) (Gz.mt R0 i c) (R0.getD i []) (R0.getD r []) := by
   rw [hRi, hRr, zt, zt]
   exact irow n _ _ _ _ hl W hW (hb r c) (hb i c) (fun j => hb i j) (fun j => hb r j)
  have hs := qh (zf n (Gz.mt R0 r c) (Gz.mt R0 i c) (R0.getD i []) (R0.getD r [])) (by simp [zf]; omega) (qZ n _ _ _ _ W hW (hb r c) (hb i c) (fun j => hb i j) (fun j => hb r j))
  have hcl : (Gz.cut (zf n (Gz.mt R0 r c) (Gz.mt R0 i c) (R0.getD i []) (R0.getD r []))).length = n := by rw [Gz.cut_len]; simp [zf]
  have hget := fun k (hk : k < m) => Gz.getD_row R i k (Gz.cut (zf n (Gz.mt R0 r c) (Gz.mt R0 i c) (R0.getD i []) (R0.getD r []))) (by rw [hS.1]; exact hk)
  obtain ⟨R2, hE, h⟩ := ih (i + 1) (R.set i (Gz.cut (zf n (Gz.mt R0 r c) (Gz.mt R0 i c) (R0.getD i []) (R0.getD r [])))) (by omega) (hS.set i _ hcl) (fun k hk hor => by
   rw [hget k hk, if_neg (by rcases hor with e | e <;> omega)]
   exact h1 k hk (hor.imp_right (by omega))) (fun k hk hkr => by
   rw [hget k (by omega)]
   by_cases e : k = i
   · rw [if_pos e, e]; exact jb n r c R0 i _ _ rfl rfl
   · rw [if_neg e]; exact h2 k (by omega) hkr)
  refine ⟨R2, evn c1 ?_, h⟩
  rw [e1]
  exact evb hs hE
theorem kf (R : List (List Int)) (c : Nat) : ∀ d i, i + d = R.length → i ≤ impl_reduced.find R c i d ∧ impl_reduced.find R c i d ≤ R.length ∧ (∀ k, i ≤ k → k < impl_reduced.find R c i d → Gz.mt R k c = 0) ∧ (impl_reduced.find R c i d < R.length → Gz.mt R (impl_reduced.find R c i d) c ≠ 0) := by
 intro d
 induction d with
 | zero => intro i h; simp only [impl_reduced.find]; exact ⟨Nat.le_refl _, by omega, fun k _ _ => by omega, fun _ => by omega⟩
 | succ d ih =>
  intro i h
  simp only [impl_reduced.find]
  rw [zt]
  by_cases e : Gz.mt R i c = 0
  ·
   rw [if_pos e]
   obtain ⟨h1, h2, h3, h4⟩ := ih (i + 1) (by omega)
   refine ⟨by omega, h2, fun k hk hlt => ?_, h4⟩
   by_cases e2 : k = i
   · rw [e2]; exact e
   · exact h3 k (by omega) hlt
  ·
   rw [if_neg e]
   exact ⟨Nat.le_refl _, by omega, fun k h1 h2 => by omega, fun _ => e⟩
theorem pow5 (m : Nat) (h : m ≤ 5) : 9 * (((m * 9) ^ m : Nat) : Int) ≤ 1660753125 := by
 have h1 : (m * 9) ^ m ≤ 45 ^ m := Nat.pow_le_pow_left (by omega) m
 have h2 : 45 ^ m ≤ 45 ^ 5 := Nat.pow_le_pow_right (by decide) h
 have h3 : (45 : Nat) ^ 5 = 184528125 := by decide
 omega
theorem jN (R : List (List Int)) (m : Nat) (hm : R.length = m) (r i : Nat) (hr : r < m) (hi : i < m) (k : Nat) (hk : k < m) : (impl_reduced.swp R r i).getD k [] = if k = r then R.getD i [] else if k = i then R.getD r [] else R.getD k [] := by
 unfold impl_reduced.swp
 rw [Gz.getD_row _ i k _ (by rw [List.length_set, hm]; exact hk), Gz.getD_row R r k _ (by rw [hm]; exact hk)]
 by_cases e1 : k = i
 ·
  rw [if_pos e1]
  by_cases e2 : k = r
  · rw [if_pos e2, ← e1, e2]
  · rw [if_neg e2, if_pos e1]
 ·
  rw [if_neg e1]
  by_cases e2 : k = r
  · rw [if_pos e2, if_pos e2]
  · rw [if_neg e2, if_neg e2, if_neg e1]
theorem qL (p : List Int) (c : Nat) (l : Nat) (hl : l < p.length + 1) : Gz.pv (p ++ [(c : Int)]) l = if l = p.length then c else Gz.pv p l := by
 unfold Gz.pv
 by_cases e : l = p.length
 · rw [if_pos e, e]; simp [List.getD_eq_getElem?_getD]
 · rw [if_neg e, List.getD_eq_getElem?_getD, List.getElem?_append_left (by omega), ← List.getD_eq_getElem?_getD]
theorem kg (m n : Nat) (hm : 1 ≤ m ∧ m ≤ 5) (hn : n < 1000000) (A0 : Nat → Nat → Int) : ∀ d c R p A, c + d = n → Gz.Shape m n R → (∀ i, i < m → Gz.Fair n (Gz.mt R i)) → (∀ l, l < p.length → p.getD l 0 = ((Gz.pv p l : Nat) : Int)) → Gz.Gs m n 9 A0 A (Gz.mt R) p.length c (Gz.pv p) →
  ∃ R2 p2 A2, Ev (fun k => impl_reduced.cols k c d R p) (p2, R2) ∧ Gz.Shape m n R2 ∧ (∀ i, i < m → Gz.Fair n (Gz.mt R2 i)) ∧ (∀ l, l < p2.length → p2.getD l 0 = ((Gz.pv p2 l : Nat) : Int)) ∧ Gz.Gs m n 9 A0 A2 (Gz.mt R2) p2.length n (Gz.pv p2) := by
 intro d
 induction d with
 | zero =>
  intro c R p A hc hS hF hp hG
  obtain rfl : c = n := by omega
  refine ⟨R, p, A, ?_, hS, hF, hp, hG⟩
  unfold impl_reduced.cols
  exact evs rfl
 | succ d ih =>
  intro c R p A hc hS hF hp hG
  have hrm := hG.hr
  obtain ⟨f1, f2, f3, f4⟩ := kf R c (R.length - p.length) p.length (by rw [hS.1]; omega)
  unfold impl_reduced.cols
  by_cases c1 : impl_reduced.find R c p.length (R.length - p.length) = R.length
  ·
   rw [c1] at f3
   obtain ⟨R2, p2, A2, hE, h⟩ := ih (c + 1) R p A (by omega) hS hF hp (hG.skip (by omega) (fun i hi hri => f3 i hri (by rw [hS.1]; exact hi)))
   exact ⟨R2, p2, A2, evp c1 hE, h⟩
  generalize hfd : impl_reduced.find R c p.length (R.length - p.length) = f at f1 f2 f3 f4 c1 ⊢
  have hfm : f < m := by rw [← hS.1]; omega
  have hpf := f4 (by omega)
  have hrm2 : p.length < m := by omega
  have hsw := fun k hk => jN R m hS.1 p.length f hrm2 hfm k hk
  generalize hR1 : impl_reduced.swp R p.length f = R1 at hsw ⊢
  have hS1 : Gz.Shape m n R1 := by
   refine ⟨by rw [← hR1]; unfold impl_reduced.swp; simp only [List.length_set]; exact hS.1, fun k hk => ?_⟩
   rw [hsw k hk]
   split
   · exact hS.2 f hfm
   ·
    split
    · exact hS.2 _ hrm2
    · exact hS.2 k hk
  have hM1 : ∀ k, k < m → Gz.mt R1 k = Gz.swp (Gz.mt R) p.length f k := fun k hk => by
   unfold Gz.swp
   show (fun j => (R1.getD k []).getD j 0) = _
   rw [hsw k hk]
   by_cases e1 : k = p.length
   · rw [if_pos e1, if_pos e1]; rfl
   ·
    rw [if_neg e1, if_neg e1]
    by_cases e2 : k = f
    · rw [if_pos e2, if_pos e2]; rfl
    · rw [if_neg e2, if_neg e2]; rfl
  have hG1 : Gz.Gs m n 9 A0 (Gz.swp A p.length f) (Gz.mt R1) p.length c (Gz.pv p) := (hG.swap f hfm f1).congr (fun k hk j _ => by rw [hM1 k hk]) (fun _ _ => rfl)
  have hF1 : ∀ k, k < m → Gz.Fair n (Gz.mt R1 k) := fun k hk => by
   rw [hM1 k hk]
   unfold Gz.swp
   split
   · exact hF f hfm
   ·
    split
    · exact hF _ hrm2
    · exact hF k hk
  have hpc1 : Gz.mt R1 p.length c ≠ 0 := by
   rw [hM1 _ hrm2]; unfold Gz.swp; rw [if_pos rfl]; exact hpf
  have h5 := pow5 m hm.2
  have hb1 : ∀ i, i < m → ∀ j, j < n → -1660753125 ≤ Gz.mt R1 i j ∧ Gz.mt R1 i j ≤ 1660753125 := fun i hi j hj => by
   have := hG1.small (by decide) hm.1 i hi (hF1 i hi) j hj
   omega
  have hb1a := qi hS1 1660753125 (by decide) hb1
  have hs := qh (R1.getD p.length []) (by rw [hS1.2 _ hrm2]; exact hn) (fun j _ => by have := hb1a p.length j; unfold Gz.mt at this; omega)
  obtain ⟨g, hg, hcut⟩ := Gz.cut_at (R1.getD p.length [])
  have hcf := Gz.cut_fair (R1.getD p.length [])
  rw [hS1.2 _ hrm2] at hcf
  have hcl : (Gz.cut (R1.getD p.length [])).length = n := by rw [Gz.cut_len]; exact hS1.2 _ hrm2
  generalize Gz.cut (R1.getD p.length []) = s at hs hcut hcf hcl
  have hS2 := hS1.set p.length s hcl
  have hM2 := fun k hk => Gz.mt_set hS1 p.length s k hk
  have hG2 : Gz.Gs m n 9 A0 (Gz.swp A p.length f) (Gz.mt (R1.set p.length s)) p.length c (Gz.pv p) := by
   refine hG1.scale (fun k => if k = p.length then g else 1) (fun k _ => by split <;> omega) (fun k hk j _ => ?_)
   rw [hM2 k hk]
   by_cases e : k = p.length
   · rw [if_pos e, if_pos e, e]; exact hcut j
   · rw [if_neg e, if_neg e, Int.one_mul]
  have hF2 : ∀ k, k < m → Gz.Fair n (Gz.mt (R1.set p.length s) k) := fun k hk => by
   rw [hM2 k hk]
   split
   · exact hcf
   · exact hF1 k hk
  have hpc2 : Gz.mt (R1.set p.length s) p.length c ≠ 0 := by
   rw [hM2 _ hrm2, if_pos rfl]
   intro e
   apply hpc1
   have := hcut c
   rw [e, Int.mul_zero] at this
   exact this
  have hb2 : ∀ i, i < m → ∀ j, j < n → -1660753125 ≤ Gz.mt (R1.set p.length s) i j ∧ Gz.mt (R1.set p.length s) i j ≤ 1660753125 := fun i hi j hj => by
   have := hG2.small (by decide) hm.1 i hi (hF2 i hi) j hj
   omega
  have hb2a := qi hS2 1660753125 (by decide) hb2
  generalize hRp : R1.set p.length s = Rp at hS2 hM2 hG2 hF2 hpc2 hb2a
  obtain ⟨R2, hE2, hSR, hrr, hdone⟩ := ke m n p.length c hrm2 (by omega) hn Rp hS2 1660753125 (by decide) hb2a hF2 hpc2 m 0 Rp (by omega) hS2 (fun _ _ _ => rfl) (fun k hk => by omega)
  have hMr : ∀ j, j < n → Gz.mt R2 p.length j = Gz.mt Rp p.length j := fun j _ => by unfold Gz.mt; rw [hrr]
  have hgs : ∃ gg : Nat → Int, ∀ k, k < m → k ≠ p.length → gg k ≠ 0 ∧ ∀ j, j < n → gg k * Gz.mt R2 k j = Gz.mt Rp p.length c * Gz.mt Rp k j - Gz.mt Rp k c * Gz.mt Rp p.length j := by
   refine ⟨fun k => if h : k < m ∧ k ≠ p.length then (hdone k h.1 h.2).2.choose else 1, fun k hk hne => ?_⟩
   have e : (if h : k < m ∧ k ≠ p.length then (hdone k h.1 h.2).2.choose else 1) = (hdone k hk hne).2.choose := dif_pos ⟨hk, hne⟩
   show (if h : k < m ∧ k ≠ p.length then (hdone k h.1 h.2).2.choose else 1) ≠ 0 ∧ ∀ j, j < n → (if h : k < m ∧ k ≠ p.length then (hdone k h.1 h.2).2.choose else 1) * Gz.mt R2 k j = _
   rw [e]
   exact (hdone k hk hne).2.choose_spec
  obtain ⟨gg, hgg⟩ := hgs
  have hG3 := hG2.elim (M' := Gz.mt R2) hrm2 (by omega) hpc2 gg (fun k hk hne => (hgg k hk hne).1) (fun k hk hne j hj => (hgg k hk hne).2 j hj) hMr
  have hF3 : ∀ k, k < m → Gz.Fair n (Gz.mt R2 k) := fun k hk => by
   by_cases e : k = p.length
   · subst e; exact (hF2 _ hk).congr hMr
   · exact (hdone k hk e).1
  have hG4 : Gz.Gs m n 9 A0 (Gz.swp A p.length f) (Gz.mt R2) (p ++ [(c : Int)]).length (c + 1) (Gz.pv (p ++ [(c : Int)])) := by
   rw [List.length_append]
   exact hG3.congr (fun _ _ _ _ => rfl) (fun l hl => qL p c l hl)
  obtain ⟨R3, p3, A3, hE3, h⟩ := ih (c + 1) R2 (p ++ [(c : Int)]) _ (by omega) hSR hF3 (fun l hl => by
   rw [qL p c l (by simpa using hl)]
   by_cases e : l = p.length
   · rw [if_pos e, e]; simp [List.getD_eq_getElem?_getD]
   · rw [if_neg e, ← hp l (by simp at hl; omega), List.getD_eq_getElem?_getD, List.getElem?_append_left (by simp at hl; omega), ← List.getD_eq_getElem?_getD]) hG4
  refine ⟨R3, p3, A3, evn c1 (evb hs ?_), h⟩
  rw [hRp, hS.1]
  exact evb hE2 hE3
theorem jc (m n : Nat) (hm : 1 ≤ m ∧ m ≤ 5) (hn : 1 ≤ n ∧ n ≤ 1000) (R : List (List Int)) (hS : Gz.Shape m n R) (hb : ∀ i, i < m → ∀ j, j < n → -9 ≤ Gz.mt R i j ∧ Gz.mt R i j ≤ 9) :
  ∃ R2 p2 A2, Ev (fun k => impl_reduced.f k R (n : Int)) (p2, R2) ∧ Gz.Shape m n R2 ∧ (∀ i, i < m → Gz.Fair n (Gz.mt R2 i)) ∧ (∀ l, l < p2.length → p2.getD l 0 = ((Gz.pv p2 l : Nat) : Int)) ∧ Gz.Gs m n 9 (Gz.mt R) A2 (Gz.mt R2) p2.length n (Gz.pv p2) := by
 obtain ⟨R2, p2, A2, hE, h⟩ := kg m n hm (by omega) (Gz.mt R) n 0 R [] (Gz.mt R) (by omega) hS (fun i hi => Gz.small_fair n _ (hb i hi)) (fun l h => by simp at h) (Gz.Gs.start hb _)
 refine ⟨R2, p2, A2, ?_, h⟩
 unfold impl_reduced.f
 refine evp ⟨by have := hS.1; omega, fun r hr => ?_⟩ (by rw [Int.toNat_natCast]; exact hE)
 obtain ⟨i, hi, rfl⟩ := List.getElem_of_mem hr
 have := hS.2 i (by rw [← hS.1]; exact hi)
 rw [List.getD_eq_getElem?_getD, List.getElem?_eq_getElem hi] at this
 simp only [Option.getD_some] at this
 omega
theorem zu (V : List (List Int)) (i : Nat) : rd_L2 V (i : Int) = V.getD i [] := by
 show V.getD ((i : Int)).toNat [] = _
 rw [Int.toNat_natCast]
theorem zp (l : List Int) (i : Nat) : rd l (i : Int) = l.getD i 0 := by
 show l.getD ((i : Int)).toNat 0 = _
 rw [Int.toNat_natCast]
def col (V : List (List Int)) (i : Nat) : List Int := V.map fun v => v.getD i 0
def trans (V : List (List Int)) (m : Nat) : List (List Int) := (List.range m).map (col V)
theorem jO (V : List (List Int)) (i j : Nat) (h : j < V.length) : (col V i).getD j 0 = Gz.mt V j i := by
 unfold col Gz.mt
 simp [List.getD_eq_getElem?_getD, List.getElem?_map, List.getElem?_eq_getElem h]
theorem qs (V : List (List Int)) (m : Nat) : Gz.Shape m V.length (trans V m) := by
 refine ⟨by simp [trans], fun i hi => ?_⟩
 simp [trans, List.getD_eq_getElem?_getD, List.getElem?_map, List.getElem?_range hi, col]
theorem qk (V : List (List Int)) (m i j : Nat) (hi : i < m) (hj : j < V.length) : Gz.mt (trans V m) i j = Gz.mt V j i := by
 rw [← jO V i j hj]
 unfold Gz.mt trans
 simp [List.getD_eq_getElem?_getD, List.getElem?_map, List.getElem?_range hi]
theorem jP (V : List (List Int)) (m : Nat) (hm : m < 1000) (hV : V.length < 1000) (hS : ∀ i, i < V.length → (V.getD i []).length = m) (X : List (List Int)) (hX : X.length < 1000) (c : Nat) (hc : c < m) (R : List Int × Bool) (hR : Ev (fun k => impl_balance.l0 k V (V.length : Int) (X ++ [col V c]) (m : Int) (((c + 1 : Nat) : Int))) R) :
  ∀ d i, i + d = V.length → Ev (fun k => impl_balance.l1 k V (V.length : Int) X (c : Int) ((col V c).take i) (m : Int) (c : Int) V (V.length : Int) (i : Int)) R := by
 intro d
 induction d with
 | zero =>
  intro i hi
  refine Ev.step (fun k => impl_balance.l1.eq_2 ..) (evn (by omega) (evp (by omega) ?_))
  rw [show i = V.length by omega, w64s c (by omega), List.take_of_length_le (by simp [col])]
  exact hR
 | succ d ih =>
  intro i hi
  refine Ev.step (fun k => impl_balance.l1.eq_2 ..) (evp (by omega) (evp (by omega) (evp (by omega) (evp (by omega) (evp (by rw [zu, hS i (by omega)]; omega) (evp (by rw [List.length_take]; omega) ?_))))))
  rw [zu, zp, w64s i (by omega)]
  have e : (col V c).take i ++ [(V.getD i []).getD c 0] = (col V c).take (i + 1) := by
   rw [List.take_succ_eq_append_getElem (by simp [col]; omega)]
   congr 1
   simp [col, List.getD_eq_getElem?_getD, List.getElem?_eq_getElem (show i < V.length by omega)]
  rw [e]
  exact ih (i + 1) (by omega)
theorem jQ (V : List (List Int)) (m : Nat) (hm : m < 1000) (hV : V.length < 1000) (hS : ∀ i, i < V.length → (V.getD i []).length = m) (R : List Int × Bool) (hR : Ev (fun k => impl_balance.l0 k V (V.length : Int) (trans V m) (m : Int) (m : Int)) R) :
  ∀ d c, c + d = m → Ev (fun k => impl_balance.l0 k V (V.length : Int) ((trans V m).take c) (m : Int) (c : Int)) R := by
 intro d
 induction d with
 | zero =>
  intro c hc
  obtain rfl : c = m := by omega
  rw [List.take_of_length_le (by simp [trans])]
  exact hR
 | succ d ih =>
  intro c hc
  refine Ev.step (fun k => impl_balance.l0.eq_2 ..) (evp (by omega) ?_)
  have e : (trans V m).take c ++ [col V c] = (trans V m).take (c + 1) := by
   rw [List.take_succ_eq_append_getElem (by simp [trans]; omega)]
   congr 1
   simp [trans]
  have h := ih (c + 1) (by omega)
  rw [← e] at h
  have h2 := jP V m hm hV hS ((trans V m).take c) (by rw [List.length_take]; omega) c (by omega) R h V.length 0 (by omega)
  rw [List.take_zero] at h2
  exact h2
theorem jR (O : List Int) (hO : O.length < 1000) : ∀ d i, i + d = O.length → ∃ r, Ev (fun k => impl_balance.l5 k O O (O.length : Int) (i : Int)) r ∧ (r.2 = true ↔ ∀ j, i ≤ j → j < O.length → 0 < O.getD j 0) := by
 intro d
 induction d with
 | zero =>
  intro i hi
  exact ⟨(O, true), Ev.step (fun k => impl_balance.l5.eq_2 ..) (evn (by omega) (evs rfl)), by simp; intro j h1 h2; omega⟩
 | succ d ih =>
  intro i hi
  by_cases c : O.getD i 0 ≤ 0
  ·
   refine ⟨([], false), Ev.step (fun k => impl_balance.l5.eq_2 ..) (evp (by omega) (evp (by omega) (evp (by omega) (evp (by rw [zp]; exact c) (evs rfl))))), ?_⟩
   constructor
   · intro h; cases h
   · intro h; have := h i (Nat.le_refl _) (by omega); omega
  ·
   obtain ⟨r, hr, h⟩ := ih (i + 1) (by omega)
   refine ⟨r, Ev.step (fun k => impl_balance.l5.eq_2 ..) (evp (by omega) (evp (by omega) (evp (by omega) (evn (by rw [zp]; exact c) ?_)))), ?_⟩
   · rw [w64s i (by omega)]; exact hr
   ·
    rw [h]
    constructor
    ·
     intro h j h1 h2
     by_cases e : j = i
     · rw [e]; omega
     · exact h j (by omega) h2
    · intro h j h1 h2; exact h j (by omega) h2
theorem jS (n : Nat) (hn : n < 1000) (R2 : List (List Int)) (p : List Int) (hpl : p.length + 1 = n) (hp : ∀ l, l < p.length → p.getD l 0 = ((Gz.pv p l : Nat) : Int)) (Q : List Int × Bool → Prop) (hQ : ∀ f, f ≤ p.length → (∀ l, l < f → Gz.pv p l = l) → (f < p.length → Gz.pv p f ≠ f) → ∃ r, Ev (fun k => impl_balance.j3 k (n : Int) R2 p (f : Int)) r ∧ Q r) :
  ∀ d i, i + d = p.length → (∀ l, l < i → Gz.pv p l = l) → ∃ r, Ev (fun k => impl_balance.l2 k (n : Int) R2 p ((p.length : Nat) : Int) p (p.length : Int) (i : Int)) r ∧ Q r := by
 intro d
 induction d with
 | zero =>
  intro i hi h
  obtain ⟨r, hr, hq⟩ := hQ i (by omega) h (fun h => by omega)
  refine ⟨r, Ev.step (fun k => impl_balance.l2.eq_2 ..) (evn (by omega) ?_), hq⟩
  rw [show p.length = i by omega]; exact hr
 | succ d ih =>
  intro i hi h
  by_cases c : Gz.pv p i = i
  ·
   obtain ⟨r, hr, hq⟩ := ih (i + 1) (by omega) (fun l hl => by
    by_cases e : l = i
    · rw [e]; exact c
    · exact h l (by omega))
   refine ⟨r, Ev.step (fun k => impl_balance.l2.eq_2 ..) (evp (by omega) (evp (by omega) (evp (by omega) (evp (by rw [zp, hp i (by omega), c]) ?_)))), hq⟩
   rw [w64s i (by omega)]; exact hr
  ·
   obtain ⟨r, hr, hq⟩ := hQ i (by omega) h (fun _ => c)
   exact ⟨r, Ev.step (fun k => impl_balance.l2.eq_2 ..) (evp (by omega) (evp (by omega) (evp (by omega) (evn (by rw [zp, hp i (by omega)]; omega) hr)))), hq⟩
theorem kh (n r : Nat) (hn : n ≤ 6) (hr : r ≤ 5) : (((n * 9) ^ r : Nat) : Int) ≤ 459165024 := by
 have h1 : (n * 9) ^ r ≤ 54 ^ r := Nat.pow_le_pow_left (by omega) r
 have h2 : 54 ^ r ≤ 54 ^ 5 := Nat.pow_le_pow_right (by decide) hr
 have h3 : (54 : Nat) ^ 5 = 459165024 := by decide
 omega
theorem zo {a : Int} {w : Nat} {B : Nat} (h : (w : Int) ∣ a) (h0 : a ≠ 0) (hB : a.natAbs ≤ B) : w ≤ B := by
 have := Int.natAbs_dvd_natAbs.2 h
 rw [Int.natAbs_natCast] at this
 exact Nat.le_trans (Nat.le_of_dvd (by omega) this) hB
theorem jd (w : Nat) (a : Int) (hw : 1 ≤ w) (ha : a ≠ 0) : w / Nat.gcd w a.natAbs * a.natAbs = Nat.lcm w a.natAbs := by
 unfold Nat.lcm
 rw [Nat.mul_comm w, Nat.mul_div_assoc _ (Nat.gcd_dvd_left _ _), Nat.mul_comm]
theorem jT (a : Int) (h : -9223372036854775807 ≤ a ∧ a ≤ 9223372036854775807) : mx a (wrap64 (-a)) = (a.natAbs : Int) := by
 rw [w64 (by omega) (by omega)]; unfold mx; split <;> omega
structure Fin (m n : Nat) (A0 A2 : Nat → Nat → Int) (R2 : List (List Int)) (p : List Int) (f : Nat) (z : Nat → Int) : Prop where
 hm : 1 ≤ m ∧ m ≤ 5
 hn : n ≤ 6
 S : Gz.Shape m n R2
 F : ∀ i, i < m → Gz.Fair n (Gz.mt R2 i)
 P : ∀ l, l < p.length → p.getD l 0 = ((Gz.pv p l : Nat) : Int)
 G : Gz.Gs m n 9 A0 A2 (Gz.mt R2) p.length n (Gz.pv p)
 hr : p.length + 1 = n
 fr : Gz.Free n p.length (Gz.pv p) f
 z0 : z f ≠ 0
 zb : ∀ j, -459165024 ≤ z j ∧ z j ≤ 459165024
 zr : ∀ l, l < p.length → Gz.mt R2 l (Gz.pv p l) * z (Gz.pv p l) + Gz.mt R2 l f * z f = 0
section
variable {m n : Nat} {A0 A2 : Nat → Nat → Int} {R2 : List (List Int)} {p : List Int} {f : Nat} {z : Nat → Int}
theorem Fin.fn (h : Fin m n A0 A2 R2 p f z) : f < n := by have := h.fr.1; have := h.hr; omega
theorem Fin.pn (h : Fin m n A0 A2 R2 p f z) (l : Nat) (hl : l < p.length) : Gz.pv p l < n := h.G.ps l hl
theorem Fin.rm (h : Fin m n A0 A2 R2 p f z) : p.length ≤ m := h.G.hr
theorem Fin.bd (h : Fin m n A0 A2 R2 p f z) (i j : Nat) : -1660753125 ≤ Gz.mt R2 i j ∧ Gz.mt R2 i j ≤ 1660753125 :=
 qi h.S 1660753125 (by decide) (fun i hi j hj => by
  have := h.G.small (by decide) h.hm.1 i hi (h.F i hi) j hj
  have := pow5 m h.hm.2
  omega) i j
theorem Fin.ne (h : Fin m n A0 A2 R2 p f z) (l : Nat) (hl : l < p.length) : Gz.pv p l ≠ f := by
 rcases Nat.lt_or_ge l f with c | c
 · rw [h.fr.2.1 l c]; omega
 · rw [h.fr.2.2 l c hl]; omega
theorem Fin.inj (h : Fin m n A0 A2 R2 p f z) (k l : Nat) (hk : k < p.length) (hl : l < p.length) (hne : k ≠ l) : Gz.pv p k ≠ Gz.pv p l := by
 rcases Nat.lt_or_ge k l with c | c
 · have := h.G.asc k l c hl; omega
 · have := h.G.asc l k (by omega) hk; omega
theorem Fin.big (h : Fin m n A0 A2 R2 p f z) : (2520 * z f).natAbs ≤ 1157095860480 ∧ 2520 * z f ≠ 0 := by
 have := h.zb f; have := h.z0; omega
theorem Fin.out (h : Fin m n A0 A2 R2 p f z) (w : Nat) (hw : (w : Int) ∣ 2520 * z f) (l : Nat) (hl : l < p.length) (hd : Gz.mt R2 l (Gz.pv p l) ∣ (w : Int)) :
  (-(Gz.mt R2 l f) * Int.tdiv (w : Int) (Gz.mt R2 l (Gz.pv p l))).natAbs ≤ 1157095860480 ∧ Gz.mt R2 l (Gz.pv p l) * (-(Gz.mt R2 l f) * Int.tdiv (w : Int) (Gz.mt R2 l (Gz.pv p l))) + Gz.mt R2 l f * (w : Int) = 0 := by
 have ha := h.G.diag l hl
 have hz := h.zr l hl
 have hq : Gz.mt R2 l (Gz.pv p l) * Int.tdiv (w : Int) (Gz.mt R2 l (Gz.pv p l)) = (w : Int) := Int.mul_tdiv_cancel' hd
 generalize Int.tdiv (w : Int) (Gz.mt R2 l (Gz.pv p l)) = q at hq ⊢
 generalize Gz.mt R2 l (Gz.pv p l) = a at *
 generalize Gz.mt R2 l f = b at *
 have hzb := h.zb (Gz.pv p l)
 generalize z (Gz.pv p l) = y at *
 have h0 := h.z0
 obtain ⟨t, ht⟩ := hw
 refine ⟨?_, ?_⟩
 ·
  have e1 : (-b * q) * z f = (w : Int) * y := by
   rw [← hq, Int.mul_assoc, Int.neg_mul, Int.mul_left_comm b q, Int.mul_right_comm a q y, show a * y = -(b * z f) by omega, Int.neg_mul, Int.mul_comm q]
  have e2 : (-b * q) * t = 2520 * y := by
   refine Int.eq_of_mul_eq_mul_right h0 ?_
   rw [Int.mul_right_comm, e1, Int.mul_right_comm, ← ht]
   rw [Int.mul_right_comm]
  have ht0 : t ≠ 0 := fun e => by rw [e, Int.mul_zero] at ht; omega
  have e3 : (-b * q).natAbs * t.natAbs = (2520 * y).natAbs := by rw [← Int.natAbs_mul, e2]
  have : (-b * q).natAbs * 1 ≤ (-b * q).natAbs * t.natAbs := Nat.mul_le_mul_left _ (by omega)
  omega
 · rw [← hq, Int.mul_left_comm, Int.neg_mul, Int.mul_left_comm b]; omega
theorem jU (h : Fin m n A0 A2 R2 p f z) (Q : List Int × Bool → Prop)
  (hQ : ∀ w : Nat, 1 ≤ w → (w : Int) ∣ 2520 * z f → (∀ k, k < p.length → Gz.mt R2 k (Gz.pv p k) ∣ (w : Int)) → ∃ r, Ev (fun k => impl_balance.l4 k R2 (f : Int) ((List.replicate n 0).set f (w : Int)) (w : Int) p (p.length : Int) 0) r ∧ Q r) :
  ∀ d l (w : Nat), l + d = p.length → 1 ≤ w → (w : Int) ∣ 2520 * z f → (∀ k, k < l → Gz.mt R2 k (Gz.pv p k) ∣ (w : Int)) → ∃ r, Ev (fun k => impl_balance.l3 k R2 p (f : Int) (List.replicate n 0) (w : Int) p (p.length : Int) (l : Int)) r ∧ Q r := by
 have hfn := h.fn
 have hn := h.hn
 have hrm := h.rm
 have hm5 := h.hm
 intro d
 induction d with
 | zero =>
  intro l w hl h1 h2 h3
  obtain ⟨r, hr, hq⟩ := hQ w h1 h2 (fun k hk => h3 k (by omega))
  refine ⟨r, Ev.step (fun k => impl_balance.l3.eq_2 ..) (evn (by omega) (evp (by omega) (evp (by simp; omega) ?_))), hq⟩
  rw [Int.toNat_natCast]; exact hr
 | succ d ih =>
  intro l w hl h1 h2 h3
  have hlr : l < p.length := by omega
  have hpn := h.pn l hlr
  have ha := h.G.diag l hlr
  have hab := h.bd l (Gz.pv p l)
  have hbig := h.big
  have hwb := zo h2 hbig.2 hbig.1
  have hlen : (R2.getD l []).length = n := h.S.2 l (by omega)
  have hent : rd (R2.getD l []) ((Gz.pv p l : Nat) : Int) = Gz.mt R2 l (Gz.pv p l) := zt R2 l _
  generalize hav : Gz.mt R2 l (Gz.pv p l) = a at ha hab hent
  have hdv : Ev (fun k => impl_divisor.f k [(w : Int), a]) ((Nat.gcd w a.natAbs : Nat) : Int) := by
   refine evr (qf _ (by simp) (fun j hj => ?_)) ?_
   ·
    rcases j with _ | _ | j
    · simp; omega
    · simp; omega
    · simp at hj; omega
   · simp [Gz.gl]
  have hg1 : 1 ≤ Nat.gcd w a.natAbs := Nat.gcd_pos_of_pos_left _ h1
  have hda : a ∣ 2520 * z f := by rw [← hav]; exact h.G.pivot_dvd h.hr h.fr (fun l hl => h.F l (by omega)) z h.zr l hlr
  have hlcm : ((Nat.lcm w a.natAbs : Nat) : Int) ∣ 2520 * z f := by
   rw [← Int.dvd_natAbs]
   refine Int.natCast_dvd_natCast.2 (Nat.lcm_dvd ?_ ?_)
   · have := Int.natAbs_dvd_natAbs.2 h2; rwa [Int.natAbs_natCast] at this
   · exact Int.natAbs_dvd_natAbs.2 hda
  have hlb := zo hlcm hbig.2 hbig.1
  have hl1 : 1 ≤ Nat.lcm w a.natAbs := Nat.lcm_pos h1 (by omega)
  obtain ⟨r, hr, hq⟩ := ih (l + 1) (Nat.lcm w a.natAbs) (by omega) hl1 hlcm (fun k hk => by
   by_cases e : k = l
   ·
    subst e
    rw [hav]
    exact Int.dvd_trans (Int.dvd_natAbs.2 (Int.dvd_refl a)) (Int.natCast_dvd_natCast.2 (Nat.dvd_lcm_right _ _))
   · exact Int.dvd_trans (h3 k (by omega)) (Int.natCast_dvd_natCast.2 (Nat.dvd_lcm_left _ _)))
  refine ⟨r, Ev.step (fun k => impl_balance.l3.eq_2 ..) (evp (by omega) (evp (by omega) (evp (by omega) (evp (by rw [h.S.1]; omega) ?_)))), hq⟩
  rw [zp, h.P l hlr, zu, hent]
  refine evp (by omega) (evp (by rw [hlen]; omega) (evb hdv (evn (by omega) ?_)))
  rw [jT a (by omega), show Int.tdiv (w : Int) ((Nat.gcd w a.natAbs : Nat) : Int) = ((w / Nat.gcd w a.natAbs : Nat) : Int) from rfl]
  have hdl : w / Nat.gcd w a.natAbs ≤ w := Nat.div_le_self _ _
  have hls := jd w a h1 ha
  generalize w / Nat.gcd w a.natAbs = qn at hdl hls ⊢
  rw [w64 (x := (qn : Int)) (by omega) (by omega), ← Int.natCast_mul, hls, w64 (by omega) (by omega), w64s l (by omega)]
  exact hr
theorem jV (h : Fin m n A0 A2 R2 p f z) (w : Nat) (hw1 : 1 ≤ w) (hw2 : (w : Int) ∣ 2520 * z f) (hw3 : ∀ k, k < p.length → Gz.mt R2 k (Gz.pv p k) ∣ (w : Int)) (Q : List Int × Bool → Prop)
  (hQ : ∀ L : List Int, L.length = n → L.getD f 0 = (w : Int) → (∀ k, k < p.length → Gz.mt R2 k (Gz.pv p k) * L.getD (Gz.pv p k) 0 + Gz.mt R2 k f * (w : Int) = 0) → (∀ j, (L.getD j 0).natAbs ≤ 1157095860480) → ∃ r, Ev (fun k => (impl_shortened.f k L).bind fun t => impl_balance.l5 k t t (L.length : Int) 0) r ∧ Q r) :
  ∀ d l (L : List Int), l + d = p.length → L.length = n → L.getD f 0 = (w : Int) → (∀ k, k < l → Gz.mt R2 k (Gz.pv p k) * L.getD (Gz.pv p k) 0 + Gz.mt R2 k f * (w : Int) = 0) → (∀ j, (L.getD j 0).natAbs ≤ 1157095860480) → ∃ r, Ev (fun k => impl_balance.l4 k R2 (f : Int) L (w : Int) p (p.length : Int) (l : Int)) r ∧ Q r := by
 have hfn := h.fn
 have hn := h.hn
 have hrm := h.rm
 have hbig := h.big
 have hwb := zo hw2 hbig.2 hbig.1
 have hm5 := h.hm
 intro d
 induction d with
 | zero =>
  intro l L hl h1 h2 h3 h4
  obtain ⟨r, hr, hq⟩ := hQ L h1 h2 (fun k hk => h3 k (by omega)) h4
  exact ⟨r, Ev.step (fun k => impl_balance.l4.eq_2 ..) (evn (by omega) hr), hq⟩
 | succ d ih =>
  intro l L hl h1 h2 h3 h4
  have hlr : l < p.length := by omega
  have hpn := h.pn l hlr
  have ha := h.G.diag l hlr
  have hfb := h.bd l f
  have hlen : (R2.getD l []).length = n := h.S.2 l (by omega)
  have hent : rd (R2.getD l []) ((Gz.pv p l : Nat) : Int) = Gz.mt R2 l (Gz.pv p l) := zt R2 l _
  have hentf : rd (R2.getD l []) (f : Int) = Gz.mt R2 l f := zt R2 l _
  obtain ⟨o1, o2⟩ := h.out w hw2 l hlr (hw3 l hlr)
  have hq1 : (Int.tdiv (w : Int) (Gz.mt R2 l (Gz.pv p l))).natAbs ≤ w := by rw [Int.natAbs_tdiv]; exact Nat.div_le_self _ _
  have hget : ∀ j (v : Int), (L.set (Gz.pv p l) v).getD j 0 = if j = Gz.pv p l then v else L.getD j 0 := fun j v => by
   by_cases e : j = Gz.pv p l
   · rw [if_pos e, e, List.getD_eq_getElem?_getD, List.getElem?_set_self (by omega)]; rfl
   · rw [if_neg e, List.getD_eq_getElem?_getD, List.getElem?_set_ne (fun h => e h.symm), ← List.getD_eq_getElem?_getD]
  obtain ⟨r, hr, hq⟩ := ih (l + 1) (L.set (Gz.pv p l) (-(Gz.mt R2 l f) * Int.tdiv (w : Int) (Gz.mt R2 l (Gz.pv p l)))) (by omega) (by rw [List.length_set]; exact h1) (by rw [hget, if_neg (h.ne l hlr).symm]; exact h2) (fun k hk => by
   rw [hget]
   by_cases e : k = l
   · subst e; rw [if_pos rfl]; exact o2
   ·
    rw [if_neg (h.inj k l (by omega) hlr e)]; exact h3 k (by omega)) (fun j => by
   rw [hget]
   split
   · exact o1
   · exact h4 j)
  refine ⟨r, Ev.step (fun k => impl_balance.l4.eq_2 ..) (evp (by omega) (evp (by omega) (evp (by omega) (evp (by rw [h.S.1]; omega) (evp (by omega) ?_))))), hq⟩
  rw [zp, h.P l hlr, zu, hent, hentf]
  refine evp (by rw [hlen]; omega) (evp (by omega) (evp (by rw [hlen]; omega) (evn ha (evp (by omega) ?_))))
  rw [Int.toNat_natCast, w64 (x := -(Gz.mt R2 l f)) (by omega) (by omega), w64 (x := Int.tdiv (w : Int) (Gz.mt R2 l (Gz.pv p l))) (by omega) (by omega), w64 (by omega) (by omega), w64s l (by omega)]
  exact hr
end
theorem je (V : List (List Int)) (m : Nat) (hm : 1 ≤ m ∧ m ≤ 5) (hn : 1 ≤ V.length ∧ V.length ≤ 6) (hS : ∀ i, i < V.length → (V.getD i []).length = m) (hb : ∀ i, i < V.length → ∀ j, j < m → -9 ≤ Gz.mt V i j ∧ Gz.mt V i j ≤ 9) :
  ∃ r, Ev (fun k => impl_balance.f k V) r ∧ (r.2 = true ↔ Gz.PosRel m V.length (fun i j => Gz.mt V j i)) := by
 have hT := qs V m
 obtain ⟨R2, p, A2, hE, hS2, hF, hP, hG⟩ := jc m V.length hm (by omega) (trans V m) hT (fun i hi j hj => by rw [qk V m i j hi hj]; exact hb j hj i hi)
 have hPR : Gz.PosRel m V.length (Gz.mt (trans V m)) ↔ Gz.PosRel m V.length (fun i j => Gz.mt V j i) := by
  have e : ∀ z, Gz.InKer m V.length (Gz.mt (trans V m)) z ↔ Gz.InKer m V.length (fun i j => Gz.mt V j i) z := fun z => by
   have hsm : ∀ i, i < m → Gz.sm (fun j => Gz.mt (trans V m) i j * z j) V.length = Gz.sm (fun j => Gz.mt V j i * z j) V.length := fun i hi => Gz.sm_congr fun j hj => by rw [qk V m i j hi hj]
   exact ⟨fun h i hi => (hsm i hi).symm.trans (h i hi), fun h i hi => (hsm i hi).trans (h i hi)⟩
  unfold Gz.PosRel
  simp only [e]
 rw [← hPR]
 have hfin : ∃ r, Ev (fun k => impl_balance.l0 k V (V.length : Int) (trans V m) (m : Int) (m : Int)) r ∧ (r.2 = true ↔ Gz.PosRel m V.length (Gz.mt (trans V m))) := by
  have hw : wrap64 ((V.length : Int) - 1) = ((V.length - 1 : Nat) : Int) := by unfold wrap64; omega
  by_cases c : p.length + 1 = V.length
  ·
   have key := jS V.length (by omega) R2 p c hP (fun r => r.2 = true ↔ Gz.PosRel m V.length (Gz.mt (trans V m))) (fun f hf h1 h2 => by
    have hfr := hG.free_at c f hf h1 h2
    obtain ⟨z, z0, zb, zr⟩ := hG.tame (by decide) c hfr
    have h54 := kh V.length p.length hn.2 (by have := hG.hr; omega)
    have hF5 : Fin m V.length (Gz.mt (trans V m)) A2 R2 p f z := ⟨hm, hn.2, hS2, hF, hP, hG, c, hfr, z0, fun j => by have := zb j; omega, zr⟩
    obtain ⟨r, hr, hq⟩ := jU hF5 (fun r => r.2 = true ↔ Gz.PosRel m V.length (Gz.mt (trans V m))) (fun w w1 w2 w3 => by
     have hfn := hF5.fn
     have hb2 := hF5.big
     have hwb := zo w2 hb2.2 hb2.1
     have hzero : ∀ j, ((List.replicate V.length (0 : Int)).set f (w : Int)).getD j 0 = if j = f then (w : Int) else 0 := fun j => by
      by_cases e : j = f
      · rw [if_pos e, e, List.getD_eq_getElem?_getD, List.getElem?_set_self (by simp; omega)]; rfl
      ·
       rw [if_neg e, List.getD_eq_getElem?_getD, List.getElem?_set_ne (fun h => e h.symm), List.getElem?_replicate]
       split <;> rfl
     exact jV hF5 w w1 w2 w3 _ (fun L l1 l2 l3 l4 => by
      have hs := qh L (by omega) (fun j _ => by have := l4 j; omega)
      obtain ⟨g, hg, hcut⟩ := Gz.cut_at L
      have hcl := Gz.cut_len L
      obtain ⟨r, hr, hiff⟩ := jR (Gz.cut L) (by omega) (Gz.cut L).length 0 (by omega)
      rw [hcl] at hr
      refine ⟨r, evb hs hr, ?_⟩
      rw [hiff, hG.posrel c hfr (fun j => L.getD j 0) (by rw [l2]; omega) (fun l hl => by rw [l2]; exact l3 l hl), hcl, l1]
      constructor
      ·
       intro h j hj
       have := h j (Nat.zero_le _) hj
       show 0 < L.getD j 0
       rw [hcut j]; exact Int.mul_pos (by omega) this
      ·
       intro h j _ hj
       have := h j hj
       rw [hcut j] at this
       exact Classical.byContradiction fun hn0 => by
        have := Int.mul_nonpos_of_nonneg_of_nonpos (show 0 ≤ g by omega) (show (Gz.cut L).getD j 0 ≤ 0 by omega)
        omega) p.length 0 _ (by omega) (by simp) (by rw [hzero, if_pos rfl]) (fun k hk => by omega) (fun j => by rw [hzero]; split <;> omega)) p.length 0 1 (by omega) (Nat.le_refl _) (Int.one_dvd _) (fun k hk => by omega)
    refine ⟨r, Ev.step (fun k => impl_balance.j3.eq_2 ..) (evp (by omega) (evp (by omega) ?_)), hq⟩
    rw [Int.toNat_natCast]; exact hr) p.length 0 (by omega) (fun l hl => by omega)
   obtain ⟨r, hr, hq⟩ := key
   refine ⟨r, Ev.step (fun k => impl_balance.l0.eq_2 ..) (evn (by omega) (evb hE (evp ?_ ?_))), hq⟩
   · simp only; rw [hw]; omega
   · simp only; rw [hw, show V.length - 1 = p.length by omega]; exact hr
  ·
   refine ⟨([], false), Ev.step (fun k => impl_balance.l0.eq_2 ..) (evn (by omega) (evb hE (evn ?_ (evs rfl)))), ?_⟩
   · simp only; rw [hw]; omega
   ·
    constructor
    · intro h; cases h
    · intro h; exact absurd h (hG.norel hn.1 c)
 obtain ⟨r, hr, hq⟩ := hfin
 refine ⟨r, ?_, hq⟩
 unfold impl_balance.f
 refine evp (by omega) ?_
 rw [show rd_L2 V 0 = V.getD 0 [] from zu V 0, hS 0 (by omega)]
 have := jQ V m (by omega) (by omega) hS r hr m 0 (by omega)
 rw [List.take_zero] at this
 exact this
theorem zO (n : Nat) : ∀ r i, n < r + i → cmbs n r i = [] ∨ r = 0 := by
 intro r
 induction r with
 | zero => intro i _; exact .inr rfl
 | succ r ih =>
  intro i h
  left
  simp only [cmbs]
  rw [List.flatMap_eq_nil_iff]
  intro j hj
  have hj := List.mem_range'_1.1 hj
  rw [List.map_eq_nil_iff]
  rcases ih (j + 1) (by omega) with e | e
  · exact e
  · subst e; omega
theorem ql (n : Nat) : ∀ r i, ∀ s ∈ cmbs n r i, ∀ x ∈ s, ∃ q : Nat, x = (q : Int) ∧ q < n := by
 intro r
 induction r with
 | zero => intro i s hs x hx; simp [cmbs] at hs; subst hs; simp at hx
 | succ r ih =>
  intro i s hs x hx
  simp only [cmbs, List.mem_flatMap, List.mem_map] at hs
  obtain ⟨j, hj, c, hc, rfl⟩ := hs
  have hj := List.mem_range'_1.1 hj
  rcases List.mem_cons.1 hx with rfl | h
  · exact ⟨j, rfl, by omega⟩
  · exact ih _ c hc x h
structure Smp (P : List (List Int)) (L : List Int) (d : Nat) : Prop where
 hd : 1 ≤ d ∧ d ≤ 4
 hn : P.length ≤ 16
 hl : L.length = P.length
 rows : ∀ i, i < P.length → (P.getD i []).length = d ∧ ∀ t, t < d → -9 ≤ (P.getD i []).getD t 0 ∧ (P.getD i []).getD t 0 ≤ 9
 lab : ∀ i, i < P.length → L.getD i 0 = 1 ∨ L.getD i 0 = -1
def sA (P : List (List Int)) (L : List Int) (s : List Int) : Nat → Nat → Int := fun i j => if i = 0 then L.getD (s.getD j 0).toNat 0 else (P.getD (s.getD j 0).toNat []).getD (i - 1) 0 * L.getD (s.getD j 0).toNat 0
def zK (P : List (List Int)) (L : List Int) (d : Nat) (s : List Int) : Prop := Gz.PosRel (d + 1) s.length (sA P L s)
noncomputable def prB (P : List (List Int)) (L : List Int) (d : Nat) (s : List Int) : Bool := @decide (zK P L d s) (Classical.propDecidable _)
theorem qx (P : List (List Int)) (L : List Int) (d : Nat) (s : List Int) : prB P L d s = true ↔ zK P L d s := by unfold prB; exact @decide_eq_true_iff _ (Classical.propDecidable _)
theorem jy {b : Bool} {P : List (List Int)} {L : List Int} {d : Nat} {s : List Int} (h : b = true ↔ zK P L d s) : b = prB P L d s := by
 rw [Bool.eq_iff_iff, h, qx]
def sv (P : List (List Int)) (L : List Int) (q : Nat) : List Int := L.getD q 0 :: (P.getD q []).map fun x => x * L.getD q 0
theorem qy {x y : Int} (hx : -9 ≤ x ∧ x ≤ 9) (hy : y = 1 ∨ y = -1) : -9 ≤ x * y ∧ x * y ≤ 9 := by rcases hy with rfl | rfl <;> omega
theorem qG {P : List (List Int)} {L : List Int} {d : Nat} (h : Smp P L d) (q : Nat) (hq : q < P.length) : ∀ e i, i + e = d → Ev (fun k => impl_Sample_signed.l0 k (q : Int) (L.getD q 0 :: ((P.getD q []).map fun x => x * L.getD q 0).take i) (P.getD q []) ((P.getD q []).length : Int) (i : Int) P L) (sv P L q) := by
 obtain ⟨hr, hb⟩ := h.rows q hq
 have hd := h.hd
 have hl := h.hl
 have hlab := h.lab q hq
 unfold sv
 generalize P.getD q [] = row at *
 intro e
 induction e with
 | zero =>
  intro i hi
  refine Ev.step (fun k => impl_Sample_signed.l0.eq_2 ..) (evn (by omega) (evs ?_))
  rw [List.take_of_length_le (by rw [List.length_map]; omega)]
 | succ e ih =>
  intro i hi
  have hx := qy (hb i (by omega)) hlab
  refine Ev.step (fun k => impl_Sample_signed.l0.eq_2 ..) (evp (by omega) (evp (by omega) (evp (by omega) (evp (by omega) (evp (by omega) (evp (by rw [List.length_cons, List.length_take, List.length_map]; omega) ?_))))))
  rw [zp, zp, w64 (by omega) (by omega), w64s i (by omega)]
  have e1 : (L.getD q 0 :: (row.map fun x => x * L.getD q 0).take i) ++ [row.getD i 0 * L.getD q 0] = L.getD q 0 :: (row.map fun x => x * L.getD q 0).take (i + 1) := by
   rw [List.cons_append, List.take_succ_eq_append_getElem (by rw [List.length_map]; omega), List.getElem_map]
   congr 3
   rw [List.getD_eq_getElem?_getD, List.getElem?_eq_getElem (show i < row.length by omega)]; rfl
  rw [e1]; exact ih (i + 1) (by omega)
theorem jz {P : List (List Int)} {L : List Int} {d : Nat} (h : Smp P L d) (q : Nat) (hq : q < P.length) : Ev (fun k => impl_Sample_signed.f k P L (q : Int)) (sv P L q) := by
 have hl := h.hl
 unfold impl_Sample_signed.f
 refine evp (by omega) (evp (by omega) (evp (by omega) ?_))
 rw [zp, zu]
 have := qG h q hq d 0 (by omega)
 rw [List.take_zero] at this
 exact this
theorem jA {P : List (List Int)} {L : List Int} {d : Nat} (h : Smp P L d) : ∀ s : List Int, (∀ x ∈ s, ∃ q : Nat, x = (q : Int) ∧ q < P.length) → Ev (fun k => impl_Sample_canPart.rows k P L s) (s.map fun x => sv P L x.toNat) := by
 intro s
 induction s with
 | nil => intro _; exact evs rfl
 | cons x s ih =>
  intro hs
  obtain ⟨q, rfl, hq⟩ := hs x (by simp)
  exact evb (jz h q hq) (evb (ih fun y hy => hs y (by simp [hy])) (evs (by simp)))
theorem ki (P : List (List Int)) (L : List Int) (s : List Int) (i j : Nat) (hj : j < s.length) (hi : i = 0 ∨ i - 1 < (P.getD (s.getD j 0).toNat []).length) : Gz.mt (s.map fun x => sv P L x.toNat) j i = sA P L s i j := by
 unfold Gz.mt sA
 have e : (s.map fun x => sv P L x.toNat).getD j [] = sv P L (s.getD j 0).toNat := by simp [List.getD_eq_getElem?_getD, List.getElem?_map, List.getElem?_eq_getElem hj]
 rw [e]
 unfold sv
 cases i with
 | zero => simp
 | succ i =>
  have hi : i < (P.getD (s.getD j 0).toNat []).length := by simpa using hi
  rw [if_neg (by omega), List.getD_cons_succ, Nat.add_sub_cancel]
  generalize P.getD (s.getD j 0).toNat [] = row at *
  generalize L.getD (s.getD j 0).toNat 0 = y at *
  simp [List.getD_eq_getElem?_getD, List.getElem?_map, List.getElem?_eq_getElem hi]
theorem qm (s : List Int) (j : Nat) (hj : j < s.length) : s.getD j 0 ∈ s := by
 rw [List.getD_eq_getElem?_getD, List.getElem?_eq_getElem hj]; exact List.getElem_mem hj
theorem kj {P : List (List Int)} {L : List Int} {d : Nat} (h : Smp P L d) (s : List Int) (hs : ∀ x ∈ s, ∃ q : Nat, x = (q : Int) ∧ q < P.length) (i j : Nat) (hi : i < d + 1) (hj : j < s.length) : -9 ≤ sA P L s i j ∧ sA P L s i j ≤ 9 := by
 obtain ⟨q, e, hq⟩ := hs _ (qm s j hj)
 unfold sA
 rw [e, Int.toNat_natCast]
 split
 · rcases h.lab q hq with e | e <;> omega
 · exact qy ((h.rows q hq).2 (i - 1) (by omega)) (h.lab q hq)
theorem iOne {P : List (List Int)} {L : List Int} {d : Nat} (h : Smp P L d) (s : List Int) (hs : ∀ x ∈ s, ∃ q : Nat, x = (q : Int) ∧ q < P.length) (hl : 1 ≤ s.length ∧ s.length ≤ 6) : Ev (fun k => impl_Sample_canPart.one k P L s) (prB P L d s) := by
 have hd := h.hd
 have hrow : ∀ j, j < s.length → (P.getD (s.getD j 0).toNat []).length = d := fun j hj => by
  obtain ⟨q, e, hq⟩ := hs _ (qm s j hj)
  rw [e, Int.toNat_natCast]; exact (h.rows q hq).1
 have hat : ∀ j, j < s.length → ∀ i, i < d + 1 → Gz.mt (s.map fun x => sv P L x.toNat) j i = sA P L s i j := fun j hj i hi => ki P L s i j hj (by rw [hrow j hj]; omega)
 obtain ⟨r, hr, hiff⟩ := je (s.map fun x => sv P L x.toNat) (d + 1) (by omega) (by simpa using hl) (fun i hi => by
  have hi : i < s.length := by simpa using hi
  have e : (s.map fun x => sv P L x.toNat).getD i [] = sv P L (s.getD i 0).toNat := by simp [List.getD_eq_getElem?_getD, List.getElem?_map, List.getElem?_eq_getElem hi]
  rw [e]; unfold sv; simp only [List.length_cons, List.length_map]; rw [hrow i hi]) (fun j hj i hi => by
  have hj : j < s.length := by simpa using hj
  rw [hat j hj i hi]; exact kj h s hs i j hi hj)
 have hP : Gz.PosRel (d + 1) (s.map fun x => sv P L x.toNat).length (fun i j => Gz.mt (s.map fun x => sv P L x.toNat) j i) ↔ zK P L d s := by
  unfold zK
  rw [List.length_map]
  exact Gz.PosRel_congr (fun i hi j hj => hat j hj i hi)
 have hb := jy (hiff.trans hP)
 have hcp : impl_copied.f s = some s := by
  unfold impl_copied.f
  simp only [Option.bind_some, List.nil_append, List.length_nil, Nat.zero_add]
  rw [if_pos (by omega)]
 unfold impl_Sample_canPart.one
 exact evb (jA h s hs) (evb hr (evb (evc hcp) (evs hb)))
theorem jW (P : List (List Int)) (L : List Int) (d : Nat) : ∀ S : List (List Int), (∀ s ∈ S, Ev (fun k => impl_Sample_canPart.one k P L s) (prB P L d s)) → ∃ k0, ∀ k, k0 ≤ k → ∀ s ∈ S, impl_Sample_canPart.one k P L s = some (prB P L d s) := by
 intro S
 induction S with
 | nil => intro _; exact ⟨0, fun _ _ s hs => by simp at hs⟩
 | cons s S ih =>
  intro h
  obtain ⟨a, ha⟩ := h s (by simp)
  obtain ⟨b, hb⟩ := ih fun t ht => h t (by simp [ht])
  refine ⟨max a b, fun k hk t ht => ?_⟩
  rcases List.mem_cons.1 ht with rfl | ht
  · exact ha k (by omega)
  · exact hb k (by omega) t ht
noncomputable def canV (P : List (List Int)) (L : List Int) (d : Nat) : Bool := !((List.range' 2 (d + 1)).flatMap fun r => cmbs P.length r 0).any (prB P L d)
theorem qM (n d : Nat) (p : List Int → Bool) : ((List.range' 2 (min n (d + 2) - 1)).flatMap fun r => cmbs n r 0).any p = ((List.range' 2 (d + 1)).flatMap fun r => cmbs n r 0).any p := by
 rcases Nat.lt_or_ge n (d + 2) with h | h
 ·
  have e : List.range' 2 (d + 1) = List.range' 2 (min n (d + 2) - 1) ++ List.range' (2 + (min n (d + 2) - 1)) (d + 1 - (min n (d + 2) - 1)) := by
   have := List.range'_append_1 (s := 2) (m := min n (d + 2) - 1) (n := d + 1 - (min n (d + 2) - 1))
   rw [show min n (d + 2) - 1 + (d + 1 - (min n (d + 2) - 1)) = d + 1 by omega] at this
   exact this.symm
  rw [e, List.flatMap_append, List.any_append]
  have h0 : ((List.range' (2 + (min n (d + 2) - 1)) (d + 1 - (min n (d + 2) - 1))).flatMap fun r => cmbs n r 0) = [] := by
   rw [List.flatMap_eq_nil_iff]
   intro r hr
   have hr := List.mem_range'_1.1 hr
   exact (zO n r 0 (by omega)).resolve_right (by omega)
  rw [h0]; simp
 · rw [show min n (d + 2) - 1 = d + 1 by omega]
theorem iCanPart {P : List (List Int)} {L : List Int} {d : Nat} (h : Smp P L d) : Ev (fun k => impl_Sample_canPart.f k P L) (canV P L d) := by
 have hd := h.hd
 have hn := h.hn
 by_cases h0 : P.length = 0
 ·
  refine ⟨0, fun k _ => ?_⟩
  show impl_Sample_canPart.f k P L = some (canV P L d)
  unfold impl_Sample_canPart.f canV
  rw [if_pos h0]
  have e : ((List.range' 2 (d + 1)).flatMap fun r => cmbs P.length r 0) = [] := by
   rw [List.flatMap_eq_nil_iff]
   intro r hr
   have hr := List.mem_range'_1.1 hr
   exact (zO P.length r 0 (by omega)).resolve_right (by omega)
  rw [e]; rfl
 ·
  have hr0 : (rd_L2 P 0).length = d := by rw [show rd_L2 P 0 = P.getD 0 [] from zu P 0]; exact (h.rows 0 (by omega)).1
  obtain ⟨k0, hk⟩ := jW P L d (impl_Sample_canPart.sets P.length (impl_Sample_canPart.most P.length d)) (fun s hs => by
   obtain ⟨r, hr, hs⟩ := List.mem_flatMap.1 hs
   have hr := List.mem_range'_1.1 hr
   have hM : impl_Sample_canPart.most P.length d = min P.length (d + 2) := rfl
   have hln := cmbs_len P.length r 0 s hs
   exact iOne h s (ql _ r 0 s hs) (by omega))
  refine ⟨k0, fun k hk0 => ?_⟩
  have hkk := hk k hk0
  show impl_Sample_canPart.f k P L = some (canV P L d)
  unfold impl_Sample_canPart.f
  rw [if_neg h0, hr0, if_pos ⟨by omega, by omega, fun s hs => by rw [hkk s hs]; rfl⟩]
  unfold canV
  congr 2
  rw [← qM]
  show (impl_Sample_canPart.sets P.length (impl_Sample_canPart.most P.length d)).any _ = (impl_Sample_canPart.sets P.length (impl_Sample_canPart.most P.length d)).any _
  rw [Bool.eq_iff_iff, List.any_eq_true, List.any_eq_true]
  constructor
  ·
   rintro ⟨s, hs, hp⟩
   refine ⟨s, hs, ?_⟩
   unfold impl_Sample_canPart.p at hp
   rw [hkk s hs] at hp; exact hp
  ·
   rintro ⟨s, hs, hp⟩
   refine ⟨s, hs, ?_⟩
   unfold impl_Sample_canPart.p
   rw [hkk s hs]; exact hp
theorem jf (f : Nat → Int) : ∀ n, Gz.sm f (n + 1) = f 0 + Gz.sm (fun t => f (t + 1)) n := by
 intro n
 induction n with
 | zero => simp [Gz.sm]
 | succ n ih => rw [show Gz.sm f (n + 1 + 1) = Gz.sm f (n + 1) + f (n + 1) from rfl, ih]; simp only [Gz.sm]; omega
theorem jX : ∀ v p : List Int, v.length = p.length → dot v p = Gz.sm (fun t => v.getD t 0 * p.getD t 0) v.length := by
 intro v
 induction v with
 | nil => intro p _; cases p <;> rfl
 | cons a v ih =>
  intro p h
  cases p with
  | nil => simp at h
  | cons b p =>
   rw [List.length_cons, jf]
   simp only [List.getD_cons_zero, List.getD_cons_succ, dot]
   rw [ih p (by simpa using h)]
theorem kk {P : List (List Int)} {L : List Int} {d : Nat} (h : Smp P L d) (W : List Int) (b : Int) (hW : W.length = d) (hfit : ∀ i, i < P.length → L.getD i 0 = if dot W (P.getD i []) ≥ b then 1 else -1) (s : List Int) (hs : ∀ x ∈ s, ∃ q : Nat, x = (q : Int) ∧ q < P.length) (hl : 1 ≤ s.length) : ¬ zK P L d s := by
 rintro ⟨z, hz, hk, _⟩
 have hq : ∀ j, j < s.length → ∃ q : Nat, (s.getD j 0).toNat = q ∧ q < P.length := fun j hj => by
  obtain ⟨q, e, h⟩ := hs _ (qm s j hj)
  exact ⟨q, by rw [e, Int.toNat_natCast], h⟩
 have h0 : Gz.sm (fun j => L.getD (s.getD j 0).toNat 0 * z j) s.length = 0 := by
  refine Eq.trans (Gz.sm_congr fun j hj => ?_) (hk 0 (by omega))
  unfold sA; rw [if_pos rfl]
 have h1 : ∀ t, t < d → Gz.sm (fun j => W.getD t 0 * ((P.getD (s.getD j 0).toNat []).getD t 0 * L.getD (s.getD j 0).toNat 0 * z j)) s.length = 0 := fun t ht => by
  rw [Gz.sm_mul]
  have := hk (t + 1) (by omega)
  rw [Gz.sm_congr (g := fun j => (P.getD (s.getD j 0).toNat []).getD t 0 * L.getD (s.getD j 0).toNat 0 * z j) (fun j hj => by unfold sA; rw [if_neg (by omega), Nat.add_sub_cancel])] at this
  rw [this, Int.mul_zero]
 have h2 : Gz.sm (fun j => dot W (P.getD (s.getD j 0).toNat []) * (L.getD (s.getD j 0).toNat 0 * z j)) s.length = 0 := by
  rw [Gz.sm_congr (g := fun j => Gz.sm (fun t => W.getD t 0 * ((P.getD (s.getD j 0).toNat []).getD t 0 * L.getD (s.getD j 0).toNat 0 * z j)) d) (fun j hj => by
   obtain ⟨q, e, hqn⟩ := hq j hj
   rw [e, jX W _ (by rw [hW, (h.rows q hqn).1]), hW, Int.mul_comm, ← Gz.sm_mul]
   exact Gz.sm_congr fun t _ => by rw [Int.mul_left_comm, Int.mul_comm (L.getD q 0 * z j), Int.mul_assoc])]
  rw [Gz.sm_comm]
  exact Gz.sm_zero fun t ht => h1 t ht
 have h3 : Gz.sm (fun j => 2 * (dot W (P.getD (s.getD j 0).toNat []) * (L.getD (s.getD j 0).toNat 0 * z j)) + (1 - 2 * b) * (L.getD (s.getD j 0).toNat 0 * z j)) s.length = 0 := by
  rw [Gz.sm_add, Gz.sm_mul, Gz.sm_mul, h2, h0]; omega
 have h4 := Gz.sm_pos (f := fun j => 2 * (dot W (P.getD (s.getD j 0).toNat []) * (L.getD (s.getD j 0).toNat 0 * z j)) + (1 - 2 * b) * (L.getD (s.getD j 0).toNat 0 * z j)) (n := s.length) (by omega) (fun j hj => by
  obtain ⟨q, e, hqn⟩ := hq j hj
  have hzj := hz j hj
  have hf := hfit q hqn
  rw [e]
  generalize dot W (P.getD q []) = v at *
  have e1 : 2 * (v * (L.getD q 0 * z j)) + (1 - 2 * b) * (L.getD q 0 * z j) = ((2 * v + 1 - 2 * b) * L.getD q 0) * z j := by
   rw [← Int.mul_assoc 2 v, ← Int.add_mul, Int.mul_assoc]
   congr 1; omega
  rw [e1]
  refine Int.mul_pos ?_ hzj
  rw [hf]
  split <;> omega)
 omega
theorem can_of_fit {P : List (List Int)} {L : List Int} {d : Nat} (h : Smp P L d) (W : List Int) (b : Int) (hW : W.length = d) (hfit : ∀ i, i < P.length → L.getD i 0 = if dot W (P.getD i []) ≥ b then 1 else -1) : canV P L d = true := by
 unfold canV
 rw [Bool.not_eq_true', List.any_eq_false]
 intro s hs hp
 obtain ⟨r, hr, hs⟩ := List.mem_flatMap.1 hs
 have hr := List.mem_range'_1.1 hr
 exact kk h W b hW hfit s (ql _ r 0 s hs) (by rw [cmbs_len P.length r 0 s hs]; omega) ((qx P L d s).1 hp)
end Gw
theorem zP {l : List Int} (hl : ze l) (d : Nat) (hd : d ≤ 5) (b : Bool) (hb : b = true → 0 < d) (v : List Int) (hv : v.length = d) (p s : Int) (hp : 0 ≤ p ∧ p ≤ 700000) : ∃ r, Ev (fun k => spec_l1Cur_point.j1 k (d : Int) v b l p s) r ∧ r.1.length ≤ 6 ∧ p ≤ r.2.1 ∧ r.2.1 ≤ p + 10 := by
 by_cases c : b = true
 ·
  have hd0 := hb c
  obtain ⟨x, p1, s1, e1, h0, h1, g1, g2⟩ := zk hl p s (d : Int) (by omega)
  obtain ⟨y, p2, s2, e2, _, g3, g4⟩ := zl hl p1 s1 [10, (-10), 9, (-9), 4611686018427387904] (by simp) (by omega)
  obtain ⟨b2, p3, s3, e3, g5, g6⟩ := zB hl p2 s2 80 (by omega)
  by_cases c2 : b2 = true
  rotate_left
  · exact ⟨_, Ev.step (fun k => spec_l1Cur_point.j1.eq_2 ..) (evp c (evb (evc e1) (evb (evc e2) (evp h0 (evp (by simp only; omega) (evb (evs rfl) (evb (evc e3) (evn c2 (evs rfl))))))))), by simp; omega, by simp only; omega, by simp only; omega⟩
  exact ⟨_, Ev.step (fun k => spec_l1Cur_point.j1.eq_2 ..) (evp c (evb (evc e1) (evb (evc e2) (evp h0 (evp (by simp only; omega) (evb (evs rfl) (evb (evc e3) (evp c2 (evp (by simp only [List.length_set]; omega) (evs rfl)))))))))), by simp; omega, by simp only; omega, by simp only; omega⟩
 ·
  obtain ⟨b2, p3, s3, e3, g5, g6⟩ := zB hl p s 80 (by omega)
  by_cases c2 : b2 = true
  rotate_left
  · exact ⟨_, Ev.step (fun k => spec_l1Cur_point.j1.eq_2 ..) (evn c (evb (evc e3) (evn c2 (evs rfl)))), by simp only; omega, by simp only; omega, by simp only; omega⟩
  exact ⟨_, Ev.step (fun k => spec_l1Cur_point.j1.eq_2 ..) (evn c (evb (evc e3) (evp c2 (evp (by omega) (evs rfl))))), by simp; omega, by simp only; omega, by simp only; omega⟩
theorem qN {l : List Int} (hl : ze l) (d : Nat) (hd : d ≤ 5) (m : Int) : ∀ (e i : Nat) (p s : Int) (v : List Int), i + e = d → v.length = i → 0 ≤ p ∧ p + 2 * e ≤ 690000 → ∃ r, Ev (fun k => spec_l1Cur_point.l0 k (d : Int) v m (i : Int) l p s) r ∧ r.1.length ≤ 6 ∧ p ≤ r.2.1 ∧ r.2.1 ≤ p + 2 * e + 12 := by
 intro e
 induction e with
 | zero =>
  intro i p s v hi hv hp
  by_cases c : (d : Int) > 0
  ·
   obtain ⟨b, p1, s1, e1, g1, g2⟩ := zB hl p s 60 (by omega)
   obtain ⟨r, hr, h1, h2, h3⟩ := zP hl d hd b (fun _ => by omega) v (by omega) p1 s1 (by omega)
   exact ⟨r, Ev.step (fun k => spec_l1Cur_point.l0.eq_2 ..) (evn (by omega) (evp c (evb (evc e1) hr))), h1, by omega, by omega⟩
  ·
   obtain ⟨r, hr, h1, h2, h3⟩ := zP hl d hd false (fun h => by cases h) v (by omega) p s (by omega)
   exact ⟨r, Ev.step (fun k => spec_l1Cur_point.l0.eq_2 ..) (evn (by omega) (evn c hr)), h1, by omega, by omega⟩
 | succ e ih =>
  intro i p s v hi hv hp
  obtain ⟨x, p1, s1, e1, _, _, g1, g2⟩ := zk hl p s (wrap64 ((wrap64 (2 * m)) + 1)) (by omega)
  obtain ⟨r, hr, h1, h2, h3⟩ := ih (i + 1) p1 s1 (v ++ [wrap64 (x - m)]) (by omega) (by simp; omega) (by omega)
  refine ⟨r, Ev.step (fun k => spec_l1Cur_point.l0.eq_2 ..) (evp (by omega) (evb (evc e1) (evp (by omega) ?_))), h1, by omega, by omega⟩
  simp only
  rw [w64s i (by omega)]; exact hr
theorem qO {l : List Int} (hl : ze l) (p s : Int) (d : Nat) (hd : d ≤ 5) (hp : 0 ≤ p ∧ p ≤ 600000) : ∃ r, Ev (fun k => spec_l1Cur_point.f k l p s (d : Int)) r ∧ r.1.length ≤ 6 ∧ p ≤ r.2.1 ∧ r.2.1 ≤ p + 30 := by
 obtain ⟨m, p1, s1, e1, _, g1, g2⟩ := zl hl p s [2, 3, 5, 9] (by simp) (by omega)
 obtain ⟨r, hr, h1, h2, h3⟩ := qN hl d hd m d 0 p1 s1 [] (by omega) rfl (by omega)
 unfold spec_l1Cur_point.f
 exact ⟨r, evb (evc e1) hr, h1, by omega, by omega⟩
def zh (l : List Int) (b : Int) (x : List Int) : Bool := planeB l b && (pointB x && decide (x.length = l.length))
theorem zS (l : List Int) (b : Int) (x : List Int) (hl : l.length ≤ 1048576) (hx : x.length ≤ 1048576) : Ev (fun k => spec_l2One.f k l b x) (zh l b x) := by
 unfold spec_l2One.f zh
 refine evb (zI l b (by omega)) ?_
 by_cases e1 : planeB l b = true
 ·
  refine evp e1 (evb (zJ x (by omega)) ?_)
  rw [e1, Bool.true_and]
  by_cases e2 : pointB x = true
  ·
   refine evp e2 (evs ?_)
   rw [e2, Bool.true_and]
   by_cases e3 : x.length = l.length
   · rw [decide_eq_true e3]; simp [e3]
   · rw [decide_eq_false e3]; simp only [beq_eq_false_iff_ne, ne_eq]; omega
  · exact evn e2 (evs (by rw [Bool.eq_false_iff.2 e2]; rfl))
 · exact evn e1 (evs (by rw [Bool.eq_false_iff.2 e1]; rfl))
theorem zq {l : List Int} {b : Int} {x : List Int} (h : zh l b x = true) : Pla l b ∧ (∀ y ∈ x, -9 ≤ y ∧ y ≤ 9) ∧ x.length = l.length := by
 unfold zh pointB inB at h
 simp only [Bool.and_eq_true, decide_eq_true_eq, List.all_eq_true] at h
 exact ⟨(planeB_iff l b).1 h.1, h.2.1.2, h.2.2⟩
def Szd (P : List (List Int)) (L : List Int) : Prop := P.length ≤ 17 ∧ (∀ r ∈ P, r.length ≤ 6) ∧ L.length ≤ 18
theorem jg {l : List Int} (d : Nat) (hd : d ≤ 5) (p s : Int) : ∀ (e : Nat) (P : List (List Int)) (L : List Int), P.length + e = 17 → (∀ r ∈ P, r.length ≤ 6) → L.length = P.length → ∃ r, Ev (fun k => spec_l1Cur_someSample.l1 k (d : Int) l p s P L) r ∧ Szd r.1 r.2.1 ∧ r.2.2.1 = p := by
 intro e
 induction e with
 | zero =>
  intro P L hP hr hL
  exact ⟨_, Ev.step (fun k => spec_l1Cur_someSample.l1.eq_2 ..) (evn (by omega) (evs rfl)), ⟨by simp only; omega, hr, by simp only; omega⟩, rfl⟩
 | succ e ih =>
  intro P L hP hr hL
  obtain ⟨r, h, h1, h2⟩ := ih (P ++ [List.replicate ((d : Int)).toNat 0]) (L ++ [1]) (by simp; omega) (fun x hx => by
   rcases List.mem_append.1 hx with hx | hx
   · exact hr x hx
   · rw [List.mem_singleton.1 hx, List.length_replicate]; omega) (by simp; omega)
  exact ⟨r, Ev.step (fun k => spec_l1Cur_someSample.l1.eq_2 ..) (evp (by omega) (evp (by omega) (evp (by omega) (evp (by omega) (evp (by omega) h))))), h1, h2⟩
theorem qo {l : List Int} (hl : ze l) (d n : Nat) (hd : d ≤ 5) (hn : n ≤ 16) (p s : Int) (hp : 0 ≤ p ∧ p ≤ 700000) (P : List (List Int)) (L : List Int) (hP : P.length = n) (hr : ∀ r ∈ P, r.length ≤ 6) (hL : L.length = n) : ∃ r, Ev (fun k => spec_l1Cur_someSample.j2 k (d : Int) (n : Int) l p s P L) r ∧ Szd r.1 r.2.1 ∧ p ≤ r.2.2.1 ∧ r.2.2.1 ≤ p + 10 := by
 obtain ⟨x, p1, s1, e1, h0, h1, g1, g2⟩ := zk hl p s 50 (by omega)
 by_cases c0 : x = 0
 · exact ⟨_, Ev.step (fun k => spec_l1Cur_someSample.j2.eq_2 ..) (evb (evc e1) (evp c0 (evp (by omega) (evs rfl)))), ⟨by simp only; omega, hr, by simp; omega⟩, by simp only; omega, by simp only; omega⟩
 by_cases c1 : x = 1
 ·
  by_cases c : (n : Int) > 0
  ·
   obtain ⟨y, p2, s2, e2, z0, z1, g3, g4⟩ := zk hl p1 s1 (n : Int) (by omega)
   obtain ⟨z, p3, s3, e3, _, g5, g6⟩ := zl hl p2 s2 [0, 2, (-2), 1] (by simp) (by omega)
   exact ⟨_, Ev.step (fun k => spec_l1Cur_someSample.j2.eq_2 ..) (evb (evc e1) (evn c0 (evp c1 (evp c (evb (evc e2) (evb (evc e3) (evp z0 (evp (by simp only; omega) (evs rfl))))))))), ⟨by simp only; omega, hr, by simp; omega⟩, by simp only; omega, by simp only; omega⟩
  · exact ⟨_, Ev.step (fun k => spec_l1Cur_someSample.j2.eq_2 ..) (evb (evc e1) (evn c0 (evp c1 (evn c (evs rfl))))), ⟨by simp only; omega, hr, by simp only; omega⟩, by simp only; omega, by simp only; omega⟩
 by_cases c2 : x = 2
 rotate_left
 · exact ⟨_, Ev.step (fun k => spec_l1Cur_someSample.j2.eq_2 ..) (evb (evc e1) (evn c0 (evn c1 (evn c2 (evs rfl))))), ⟨by simp only; omega, hr, by simp only; omega⟩, by simp only; omega, by simp only; omega⟩
 obtain ⟨r, h, h1, h2⟩ := jg (l := l) d hd p1 s1 (17 - n) P L (by omega) hr (by omega)
 exact ⟨r, Ev.step (fun k => spec_l1Cur_someSample.j2.eq_2 ..) (evb (evc e1) (evn c0 (evn c1 (evp c2 h)))), h1, by omega, by omega⟩
theorem qp {l : List Int} (hl : ze l) (d n : Nat) (hd : d ≤ 5) (hn : n ≤ 16) (b : Bool) (hb : b = true → 1 < n) (p s : Int) (hp : 0 ≤ p ∧ p ≤ 700000) (P : List (List Int)) (L : List Int) (hP : P.length = n) (hr : ∀ r ∈ P, r.length ≤ 6) (hL : L.length = n) : ∃ r, Ev (fun k => spec_l1Cur_someSample.j1 k (d : Int) (n : Int) b l p s P L) r ∧ Szd r.1 r.2.1 ∧ p ≤ r.2.2.1 ∧ r.2.2.1 ≤ p + 10 := by
 by_cases c : b = true
 ·
  have h2 := hb c
  have h1 : (rdl P 1).length ≤ 6 := hr _ (rdl_mem P 1 (by omega))
  obtain ⟨r, h, h3, h4, h5⟩ := qo hl d n hd hn p s hp (P.set 0 (rdl P 1)) L (by simp [hP]) (fun x hx => by
   rcases List.mem_or_eq_of_mem_set hx with hx | rfl
   · exact hr x hx
   · exact h1) hL
  refine ⟨r, Ev.step (fun k => spec_l1Cur_someSample.j1.eq_2 ..) (evp c (evp (by omega) ?_)), h3, h4, h5⟩
  rw [show rd_L2 P 1 = rdl P 1 from by simp [rd_L2, rdl]]
  exact evb (evc (kb _ (by omega))) (evp (by omega) h)
 ·
  obtain ⟨r, h, h3⟩ := qo hl d n hd hn p s hp P L hP hr hL
  exact ⟨r, Ev.step (fun k => spec_l1Cur_someSample.j1.eq_2 ..) (evn c h), h3⟩
theorem jh {l : List Int} (hl : ze l) (d n : Nat) (hd : d ≤ 5) (hn : n ≤ 16) (fits : Bool) (w : List Int) (q : Int) (hw : w.length ≤ 10) : ∀ (e i : Nat) (p s : Int) (P : List (List Int)) (L : List Int), i + e = n → P.length = i → (∀ r ∈ P, r.length ≤ 6) → L.length = i → 0 ≤ p ∧ p + 40 * e ≤ 590000 → ∃ r, Ev (fun k => spec_l1Cur_someSample.l0 k (d : Int) (n : Int) fits (i : Int) l p s P L w q) r ∧ Szd r.1 r.2.1 ∧ p ≤ r.2.2.1 ∧ r.2.2.1 ≤ p + 40 * e + 12 := by
 intro e
 induction e with
 | zero =>
  intro i p s P L hi hP hr hL hp
  by_cases c : (n : Int) > 1
  ·
   obtain ⟨b, p1, s1, e1, g1, g2⟩ := zB hl p s 10 (by omega)
   obtain ⟨r, h, h1, h2, h3⟩ := qp hl d n hd hn b (fun _ => by omega) p1 s1 (by omega) P L (by omega) hr (by omega)
   exact ⟨r, Ev.step (fun k => spec_l1Cur_someSample.l0.eq_2 ..) (evn (by omega) (evp c (evb (evc e1) h))), h1, by omega, by omega⟩
  ·
   obtain ⟨r, h, h1, h2, h3⟩ := qp hl d n hd hn false (fun h => by cases h) p s (by omega) P L (by omega) hr (by omega)
   exact ⟨r, Ev.step (fun k => spec_l1Cur_someSample.l0.eq_2 ..) (evn (by omega) (evn c h)), h1, by omega, by omega⟩
 | succ e ih =>
  intro i p s P L hi hP hr hL hp
  obtain ⟨⟨x, p1, s1⟩, hx, hx1, g1, g2⟩ := qO hl p s d hd (by omega)
  simp only at hx1 g1 g2
  obtain ⟨y, p2, s2, e2, _, _, g3, g4⟩ := zk hl p1 s1 2 (by omega)
  have hrow : ∀ r ∈ P ++ [x], r.length ≤ 6 := fun r h => by
   rcases List.mem_append.1 h with h | h
   · exact hr r h
   · rw [List.mem_singleton.1 h]; exact hx1
  have next : ∀ z : Int, ∃ r, Ev (fun k => spec_l1Cur_someSample.l0 k (d : Int) (n : Int) fits (wrap64 ((i : Int) + 1)) l p2 s2 (P ++ [x]) (L ++ [z]) w q) r ∧ Szd r.1 r.2.1 ∧ p ≤ r.2.2.1 ∧ r.2.2.1 ≤ p + 40 * ((e + 1 : Nat) : Int) + 12 := fun z => by
   obtain ⟨r, h, h1, h2, h3⟩ := ih (i + 1) p2 s2 (P ++ [x]) (L ++ [z]) (by omega) (by simp; omega) hrow (by simp; omega) (by omega)
   rw [w64s i (by omega)]
   exact ⟨r, h, h1, by omega, by omega⟩
  by_cases c : fits = true
  ·
   by_cases c2 : zh w q x = true
   rotate_left
   ·
    obtain ⟨r, h, h1⟩ := next (wrap64 (1 - (wrap64 (2 * y))))
    exact ⟨r, Ev.step (fun k => spec_l1Cur_someSample.l0.eq_2 ..) (evp (by omega) (evb hx (evb (evc e2) (evp c (evb (zS w q x (by omega) (by omega)) (evn c2 (evp (by omega) (evp (by omega) h)))))))), h1⟩
   obtain ⟨hP2, hx9, hlen⟩ := zq c2
   obtain ⟨r, h, h1⟩ := next (sideV w q x)
   exact ⟨r, Ev.step (fun k => spec_l1Cur_someSample.l0.eq_2 ..) (evp (by omega) (evb hx (evb (evc e2) (evp c (evb (zS w q x (by omega) (by omega)) (evp c2 (evb (zD w q x 99 9 (by omega) (by omega) hP2.2.1 hx9 (by have := hP2.1; omega) (by omega)) (evp (by omega) (evp (by omega) h))))))))), h1⟩
  ·
   obtain ⟨r, h, h1⟩ := next (wrap64 (1 - (wrap64 (2 * y))))
   exact ⟨r, Ev.step (fun k => spec_l1Cur_someSample.l0.eq_2 ..) (evp (by omega) (evb hx (evb (evc e2) (evn c (evp (by omega) (evp (by omega) h)))))), h1⟩
theorem kl {l : List Int} (hl : ze l) (p s : Int) (d : Nat) (hd : d ≤ 5) (most : Nat) (hm : most ≤ 16) (hp : 0 ≤ p ∧ p ≤ 400000) : ∃ r, Ev (fun k => spec_l1Cur_someSample.f k l p s (d : Int) (most : Int)) r ∧ Szd r.1 r.2.1 ∧ p ≤ r.2.2.1 ∧ r.2.2.1 ≤ p + 1000 := by
 obtain ⟨x, p1, s1, e1, hx, g1, g2⟩ := zl hl p s [4, 6, 3, 5, 2, 8, 1, 0, 12, 16] (by simp) (by omega)
 obtain ⟨a, rfl⟩ := Int.eq_ofNat_of_zero_le (show 0 ≤ x by simp at hx; omega)
 have ha : a ≤ 16 := by simp at hx; omega
 have hn : spec_l1Least.f (a : Int) (most : Int) = some ((min a most : Nat) : Int) := by
  unfold spec_l1Least.f
  by_cases c : (a : Int) < (most : Int)
  · rw [if_pos c]; congr 1; omega
  · rw [if_neg c]; congr 1; omega
 obtain ⟨v, hv, h1, h2, h3⟩ := qb hl p1 s1 d (by omega) (by omega)
 obtain ⟨b, p3, s3, e3, g5, g6⟩ := zB hl v.2.2.1 v.2.2.2 3 (by omega)
 obtain ⟨r, hr, h4, h5, h6⟩ := jh hl d (min a most) hd (by omega) (!b) v.1 v.2.1 (by omega) (min a most) 0 p3 s3 [] [] (by omega) rfl (by simp) rfl (by omega)
 unfold spec_l1Cur_someSample.f
 exact ⟨r, evb (evc e1) (evb (evc hn) (evb hv (evb (evc e3) hr))), h4, by omega, by omega⟩
theorem zH {l : List Int} (hl : ze l) (p s : Int) (hp : 0 ≤ p ∧ p ≤ 900000) : ∃ (d : Nat) (p' s' : Int), spec_l1Cur_space.f l p s = some ((d : Int), p', s') ∧ d ≤ 4 ∧ p ≤ p' ∧ p' ≤ p + 2 := by
 obtain ⟨x, p1, s1, e1, hx, g1, g2⟩ := zl hl p s [2, 2, 3, 1, 2, 4] (by simp) (by omega)
 obtain ⟨d, rfl⟩ := Int.eq_ofNat_of_zero_le (show 0 ≤ x by simp at hx; omega)
 unfold spec_l1Cur_space.f
 rw [e1]
 exact ⟨d, p1, s1, rfl, by simp at hx; omega, g1, g2⟩
theorem jB {l : List Int} (hl : ze l) (p s : Int) (hp : 0 ≤ p ∧ p ≤ 800000) (P : List (List Int)) (L : List Int) : ∃ (d : Nat) (p' s' : Int), spec_l1Cur_lengthOf.f l p s P L = some ((d : Int), p', s') ∧ d ≤ 5 ∧ p ≤ p' ∧ p' ≤ p + 5 := by
 unfold spec_l1Cur_lengthOf.f
 obtain ⟨d, p1, s1, e1, hd, g1, g2⟩ := zH hl p s (by omega)
 by_cases c : (P.length : Int) > 0
 ·
  rw [if_pos c, if_pos (by omega)]
  by_cases c2 : ((rd_L2 P 0).length : Int) ≤ 5
  rotate_left
  ·
   rw [if_neg c2, e1]
   exact ⟨d, p1, s1, rfl, by omega, by omega, by omega⟩
  rw [if_pos c2]
  obtain ⟨b, p2, s2, e2, g3, g4⟩ := zB hl p s 30 (by omega)
  rw [e2]
  simp only [Option.bind_some]
  by_cases c3 : b = true
  rotate_left
  ·
   rw [if_neg c3]
   exact ⟨_, p2, s2, rfl, by omega, by omega, by omega⟩
  obtain ⟨d, p3, s3, e3, hd, g5, g6⟩ := zH hl p2 s2 (by omega)
  rw [if_pos c3, e3]
  exact ⟨d, p3, s3, rfl, by omega, by omega, by omega⟩
 ·
  rw [if_neg c, e1]
  exact ⟨d, p1, s1, rfl, by omega, by omega, by omega⟩
theorem qz {l : List Int} (hl : ze l) : ∃ r, Ev (fun k => spec_l1Cur_suited.f k l 0 0) r ∧ Szd r.1 r.2.1 ∧ r.2.2.1.length ≤ 10 ∧ 0 ≤ r.2.2.2.2.1 ∧ r.2.2.2.2.1 ≤ 5000 := by
 obtain ⟨d, p1, s1, e1, hd, g1, g2⟩ := zH hl 0 0 (by omega)
 obtain ⟨r, hr, h1, h2, h3⟩ := kl hl p1 s1 d (by omega) 16 (by omega) (by omega)
 obtain ⟨d2, p3, s3, e3, hd2, g3, g4⟩ := jB hl r.2.2.1 r.2.2.2 (by omega) r.1 r.2.1
 obtain ⟨v, hv, h4, h5, h6⟩ := qb hl p3 s3 d2 (by omega) (by omega)
 unfold spec_l1Cur_suited.f spec_l1Cur_sample.f
 exact ⟨_, evb (evb (evc e1) (evb hr (evs rfl))) (evb (evc e3) (evb hv (evs rfl))), h1, by simp only; omega, by simp only; omega, by simp only; omega⟩
theorem ji {l : List Int} (hl : ze l) : ∃ r, Ev (fun k => spec_DrawSidesOf.f k l) r ∧ Szd r.1 r.2.1 ∧ r.2.2.1.length ≤ 10 := by
 obtain ⟨r, hr, h1, h2, _⟩ := qz hl
 unfold spec_DrawSidesOf.f
 exact ⟨_, evb hr (evs rfl), h1, h2⟩
theorem jC {l : List Int} (hl : ze l) : ∃ r, Ev (fun k => spec_DrawSideOf.f k l) r ∧ r.1.length ≤ 10 ∧ r.2.2.length ≤ 6 := by
 obtain ⟨d, p1, s1, e1, hd, g1, g2⟩ := zH hl 0 0 (by omega)
 obtain ⟨v, hv, h4, h5, h6⟩ := qb hl p1 s1 d (by omega) (by omega)
 obtain ⟨x, hx, h7, _⟩ := qO hl v.2.2.1 v.2.2.2 d (by omega) (by omega)
 unfold spec_DrawSideOf.f spec_DrawProductOf.f
 exact ⟨_, evb (evb (evc e1) (evb hv (evb hx (evs rfl)))) (evs rfl), by simp only; omega, h7⟩
def zg (p : List (List Int)) (l : List Int) (b : Int) (n : Nat) : List Int := (List.range n).map fun i => sideV l b (rdl p i)
def za (p : List (List Int)) (y : List Int) (l : List Int) (b : Int) : List Int × Bool := if suitB p y l b = true then (zg p l b p.length, true) else ([], false)
theorem qH (p : List (List Int)) (y : List Int) (l : List Int) (b : Int) : (za p y l b).1.length ≤ p.length := by
 unfold za
 split
 · simp [zg]
 · simp
theorem qI {p : List (List Int)} {y : List Int} {l : List Int} {b : Int} (h : suitB p y l b = true) : ∀ (d i : Nat), i + d = p.length → Ev (fun k => spec_l2Sides.l0 k (zg p l b i) (i : Int) p y l b) (zg p l b p.length) := by
 obtain ⟨h1, h2, h3, h4⟩ := suitB_at h
 have hpl := h3.1
 intro d
 induction d with
 | zero =>
  intro i hi
  exact Ev.step (fun k => spec_l2Sides.l0.eq_2 ..) (evn (by omega) (evs (by rw [show i = p.length by omega])))
 | succ d ih =>
  intro i hi
  have hp := h4 i (by omega)
  have hn := ih (i + 1) (by omega)
  have e : zg p l b (i + 1) = zg p l b i ++ [sideV l b (rdl p i)] := by unfold zg; rw [List.range_succ, List.map_append]; rfl
  have hlen : (zg p l b i).length = i := by simp [zg]
  rw [e] at hn
  refine Ev.step (fun k => spec_l2Sides.l0.eq_2 ..) (evp (by omega) (evp (by omega) ?_))
  rw [show rd_L2 p (i : Int) = rdl p i from zx p i]
  refine evb (zD l b (rdl p i) 99 9 (by omega) (by omega) h3.2.1 hp.2 (by omega) (by omega)) (evp (by omega) ?_)
  rw [w64s i (by omega)]; exact hn
theorem qA {p : List (List Int)} {y : List Int} {l : List Int} {b : Int} (h : suitB p y l b = true) : Ev (fun k => spec_l2Sides.f k p y l b) (zg p l b p.length) := by
 unfold spec_l2Sides.f
 exact qI h p.length 0 (by omega)
theorem jY (p : List (List Int)) (y : List Int) (l : List Int) (b : Int) (hx : p.length ≤ 1048576) (hr : ∀ r ∈ p, (r.length : Int) ≤ 1048576) (hy : y.length ≤ 1048576) (hl : l.length ≤ 1048576) : Ev (fun k => spec_SidesOf.f k p y l b) (za p y l b) := by
 unfold spec_SidesOf.f za
 refine evb (zE p y l b hx hr hy hl) ?_
 by_cases e : suitB p y l b = true
 · exact evp e (evb (qA e) (evs (by rw [if_pos e])))
 · exact evn e (evs (by rw [if_neg e]))
theorem qP {p : List (List Int)} {y : List Int} {l : List Int} {b : Int} (h : suitB p y l b = true) : ∀ (d i : Nat), i + d = p.length → Ev (fun k => impl_SidesOf.l0 k (zg p l b i) p (p.length : Int) (i : Int) l b) (zg p l b p.length, true) := by
 obtain ⟨h1, h2, h3, h4⟩ := suitB_at h
 have hpl := h3.1
 intro d
 induction d with
 | zero =>
  intro i hi
  exact Ev.step (fun k => impl_SidesOf.l0.eq_2 ..) (evn (by omega) (evs (by rw [show i = p.length by omega])))
 | succ d ih =>
  intro i hi
  have hp := h4 i (by omega)
  have hn := ih (i + 1) (by omega)
  have e : zg p l b (i + 1) = zg p l b i ++ [sideV l b (rdl p i)] := by unfold zg; rw [List.range_succ, List.map_append]; rfl
  have hlen : (zg p l b i).length = i := by simp [zg]
  rw [e] at hn
  refine Ev.step (fun k => impl_SidesOf.l0.eq_2 ..) (evp (by omega) (evp (by omega) (evp (by omega) ?_)))
  rw [show rd_L2 p (i : Int) = rdl p i from zx p i]
  refine evb (qD l b (rdl p i) 99 9 (by omega) (by omega) h3.2.1 hp.2 (by omega) (by omega)) (evp (by omega) ?_)
  rw [w64s i (by omega)]; exact hn
theorem jZ (p : List (List Int)) (y : List Int) (l : List Int) (b : Int) (hx : p.length ≤ 1048576) (hr : ∀ r ∈ p, (r.length : Int) ≤ 1048576) (hy : y.length ≤ 1048576) (hl : l.length ≤ 1048576) : Ev (fun k => impl_SidesOf.f k p y l b) (za p y l b) := by
 unfold impl_SidesOf.f za
 refine evb (zY p y l b hx hr hl) ?_
 by_cases e : suitB p y l b = true
 ·
  refine evp e ?_
  rw [if_pos e]
  exact qP e p.length 0 (by omega)
 · exact evn e (evs (by rw [if_neg e]))
theorem qt {l : List Int} (hl : ze l) : ∃ r, Ev (fun k => spec_DrawFitsSample.f k l) r ∧ Szd r.1 r.2.1 ∧ r.2.2.1.length ≤ 10 := by
 obtain ⟨⟨P, L, v, b, p, s⟩, hr, h1, h2, g1, g2⟩ := qz hl
 simp only at h1 h2 g1 g2
 obtain ⟨a1, a2, a3⟩ := id h1
 unfold spec_DrawFitsSample.f
 have hb := zE P L v b (by omega) (fun r hr => by have := a2 r hr; omega) (by omega) (by omega)
 by_cases e : suitB P L v b = true
 ·
  obtain ⟨c, p1, s1, e1, g3, g4⟩ := zB hl p s 2 (by omega)
  by_cases c2 : c = true
  rotate_left
  · exact ⟨_, evb hr (evb hb (evp e (evb (evc e1) (evn c2 (evs rfl))))), h1, h2⟩
  exact ⟨_, evb hr (evb hb (evp e (evb (evc e1) (evp c2 (evb (qA e) (evs rfl)))))), ⟨a1, a2, by simp [zg]; omega⟩, h2⟩
 · exact ⟨_, evb hr (evb hb (evn e (evs rfl))), h1, h2⟩
theorem qQ (l : List Int) (b : Int) (x : List Int) (hl : l.length ≤ 1048576) (hx : x.length ≤ 1048576) : Ev (fun k => impl_meets.f k l b x) (zh l b x) := by
 unfold impl_meets.f zh
 refine evb (zz l b (by omega)) ?_
 by_cases e1 : planeB l b = true
 ·
  refine evp e1 (evb (zA x (by omega)) ?_)
  rw [e1, Bool.true_and]
  by_cases e2 : pointB x = true
  ·
   refine evp e2 (evs ?_)
   rw [e2, Bool.true_and]
   by_cases e3 : x.length = l.length
   · rw [decide_eq_true e3]; simp [e3]
   · rw [decide_eq_false e3]; simp only [beq_eq_false_iff_ne, ne_eq]; omega
  · exact evn e2 (evs (by rw [Bool.eq_false_iff.2 e2]; rfl))
 · exact evn e1 (evs (by rw [Bool.eq_false_iff.2 e1]; rfl))
def zc (l : List Int) (b : Int) (x : List Int) : Int × Bool := if zh l b x = true then (sideV l b x, true) else (0, false)
def zi (l : List Int) (b : Int) (x : List Int) : Int × Bool := if zh l b x = true then (dot l x, true) else (0, false)
theorem jD (l : List Int) (b : Int) (x : List Int) (hl : l.length ≤ 1048576) (hx : x.length ≤ 1048576) : Ev (fun k => impl_SideOf.f k l b x) (zc l b x) := by
 unfold impl_SideOf.f zc
 refine evb (qQ l b x hl hx) ?_
 by_cases e : zh l b x = true
 ·
  obtain ⟨h1, h2, h3⟩ := zq e
  have := h1.1
  exact evp e (evb (qD l b x 99 9 (by omega) (by omega) h1.2.1 h2 (by omega) (by omega)) (evs (by rw [if_pos e])))
 · exact evn e (evs (by rw [if_neg e]))
theorem jE (l : List Int) (b : Int) (x : List Int) (hl : l.length ≤ 1048576) (hx : x.length ≤ 1048576) : Ev (fun k => spec_SideOf.f k l b x) (zc l b x) := by
 unfold spec_SideOf.f zc
 refine evb (zS l b x hl hx) ?_
 by_cases e : zh l b x = true
 ·
  obtain ⟨h1, h2, h3⟩ := zq e
  have := h1.1
  exact evp e (evb (zD l b x 99 9 (by omega) (by omega) h1.2.1 h2 (by omega) (by omega)) (evs (by rw [if_pos e])))
 · exact evn e (evs (by rw [if_neg e]))
theorem jF (l : List Int) (b : Int) (x : List Int) (hl : l.length ≤ 1048576) (hx : x.length ≤ 1048576) : Ev (fun k => impl_ProductOf.f k l b x) (zi l b x) := by
 unfold impl_ProductOf.f zi
 refine evb (qQ l b x hl hx) ?_
 by_cases e : zh l b x = true
 ·
  obtain ⟨h1, h2, h3⟩ := zq e
  have := h1.1
  exact evp e (evb (qv l x 99 9 (by omega) (by omega) h1.2.1 h2 (by omega) (by omega)) (evs (by rw [if_pos e])))
 · exact evn e (evs (by rw [if_neg e]))
theorem jG (l : List Int) (b : Int) (x : List Int) (hl : l.length ≤ 1048576) (hx : x.length ≤ 1048576) : Ev (fun k => spec_ProductOf.f k l b x) (zi l b x) := by
 unfold spec_ProductOf.f zi
 refine evb (zS l b x hl hx) ?_
 by_cases e : zh l b x = true
 ·
  obtain ⟨h1, h2, h3⟩ := zq e
  have := h1.1
  exact evp e (evb (jk l x 99 9 (by omega) (by omega) h1.2.1 h2 (by omega) (by omega)) (evs (by rw [if_pos e])))
 · exact evn e (evs (by rw [if_neg e]))
theorem jj (l : List Int) (x : Int) (hl : l.length ≤ 1048576) : ∀ (d i : Nat), i + d = l.length → Ev (fun k => laws_rHas.l0 k l x (i : Int)) (decide (x ∈ l.drop i)) := by
 intro d
 induction d with
 | zero =>
  intro i hi
  refine Ev.step (fun k => laws_rHas.l0.eq_2 ..) (evn (by omega) (evs ?_))
  simp [List.drop_of_length_le (show l.length ≤ i by omega)]
 | succ d ih =>
  intro i hi
  refine Ev.step (fun k => laws_rHas.l0.eq_2 ..) (evp (by omega) (evp (by omega) ?_))
  have ea : l.getD i 0 = l[i] := by rw [List.getD_eq_getElem?_getD, List.getElem?_eq_getElem (show i < l.length by omega)]; rfl
  rw [w64s i (by omega), rd_nat, List.drop_eq_getElem_cons (show i < l.length by omega), ea]
  by_cases e : l[i] = x
  · exact evp e (evs (by simp [e]))
  ·
   refine evn e (evr (ih (i + 1) (by omega)) ?_)
   simp only [List.mem_cons, show (x = l[i]) = False from eq_false (fun h => e h.symm), false_or]
theorem km (l : List Int) (x : Int) (hl : l.length ≤ 1048576) : Ev (fun k => laws_rHas.f k l x) (decide (x ∈ l)) := by
 unfold laws_rHas.f
 exact evr (jj l x hl l.length 0 (by omega)) (by simp)
def dm (P : List (List Int)) : Nat := if P.length = 0 then 1 else (rdl P 0).length
theorem qR {P : List (List Int)} {L : List Int} (h : sampB P L = true) : Gw.Smp P L (dm P) := by
 simp only [sampB, Bool.and_eq_true, decide_eq_true_eq, List.all_eq_true, List.mem_range] at h
 obtain ⟨h1, h2, h3, h4⟩ := h
 have hs : ∀ i, i < P.length → (1 ≤ (rdl P i).length ∧ (rdl P i).length ≤ 4) ∧ (∀ x ∈ rdl P i, -9 ≤ x ∧ x ≤ 9) ∧ (rdl P i).length = (rdl P 0).length := fun i hi => by
  have := h4 i hi
  simp only [spok, pointB, inB, Bool.and_eq_true, decide_eq_true_eq, List.all_eq_true] at this
  exact ⟨this.1.1, this.1.2, this.2⟩
 unfold dm
 refine ⟨?_, h1, h2, fun i hi => ?_, fun i hi => ?_⟩
 ·
  by_cases e : P.length = 0
  · rw [if_pos e]; omega
  · rw [if_neg e]; exact (hs 0 (by omega)).1
 ·
  rw [if_neg (by omega)]
  obtain ⟨a, b, c⟩ := hs i hi
  refine ⟨c, fun t ht => ?_⟩
  have ht2 : t < (rdl P i).length := by omega
  have : (P.getD i []).getD t 0 = (rdl P i)[t] := by rw [List.getD_eq_getElem?_getD, show P.getD i [] = rdl P i from rfl, List.getElem?_eq_getElem ht2]; rfl
  rw [this]
  exact b _ (List.getElem_mem ht2)
 ·
  simp only [labB, List.all_eq_true, decide_eq_true_eq] at h3
  have hil : i < L.length := by omega
  rw [List.getD_eq_getElem?_getD, List.getElem?_eq_getElem hil]
  exact h3 _ (List.getElem_mem hil)
theorem jH {p : List (List Int)} {y : List Int} {l : List Int} {b : Int} (hx : p.length ≤ 1048576) (hr : ∀ r ∈ p, (r.length : Int) ≤ 1048576) (h : (fitsV p y l b).1 = true) : Ev (fun k => impl_CanPart.f k p y) (true, true) := by
 unfold fitsV at h
 have e : suitB p y l b = true := Classical.byContradiction fun e => by rw [if_neg e] at h; cases h
 rw [if_pos e] at h
 have he : errV l b p y p.length = [] := List.eq_nil_of_length_eq_zero (by simpa using h)
 have hs : sampB p y = true := by unfold suitB at e; rw [Bool.and_eq_true] at e; exact e.1
 obtain ⟨h1, h2, h3, h4⟩ := suitB_at e
 have hfit : ∀ i, i < p.length → y.getD i 0 = sideV l b (rdl p i) := fun i hi => by
  refine Classical.byContradiction fun hn => ?_
  have : (i : Int) ∈ errV l b p y p.length := List.mem_map.2 ⟨i, List.mem_filter.2 ⟨List.mem_range.2 hi, by unfold errs; exact decide_eq_true (fun h => hn h.symm)⟩, rfl⟩
  rw [he] at this; cases this
 have hc : Gw.canV p y (dm p) = true := by
  have hS := qR hs
  by_cases c : p.length = 0
  ·
   have hd : dm p = 1 := by unfold dm; rw [if_pos c]
   rw [hd] at hS ⊢
   exact Gw.can_of_fit hS [0] 0 rfl (fun i hi => by omega)
  ·
   have hd : dm p = l.length := by unfold dm; rw [if_neg c]; exact (h4 0 (by omega)).1
   rw [hd] at hS ⊢
   exact Gw.can_of_fit hS l b rfl (fun i hi => hfit i hi)
 unfold impl_CanPart.f
 refine evb (zv p y hx hr) (evp hs (evb (Gw.iCanPart (qR hs)) (evs ?_)))
 rw [hc]
theorem ka {p : List (List Int)} {y l : List Int} {b : Int} (h : suitB p y l b = true) : ∀ d i, i + d = p.length → Ev (fun k => laws_FnSides.l0 k (zg p l b p.length) (errV l b p y p.length) (fitsV p y l b).1 (i : Int) p y) true := by
 obtain ⟨h1, h2, h3, h4⟩ := suitB_at h
 have hS : (zg p l b p.length).length = p.length := by simp [zg]
 have hE := errV_len l b p y p.length
 intro d
 induction d with
 | zero =>
  intro i hi
  refine Ev.step (fun k => laws_FnSides.l0.eq_2 ..) (evn (by omega) (evs ?_))
  unfold fitsV
  rw [if_pos h]
  cases e : errV l b p y p.length with
  | nil => rfl
  | cons a t => simp; omega
 | succ d ih =>
  intro i hi
  have hrd : rd (zg p l b p.length) (i : Int) = sideV l b (rdl p i) := by
   rw [rd_nat]; unfold zg
   rw [List.getD_eq_getElem?_getD, List.getElem?_map, List.getElem?_range (by omega)]; rfl
  have hm : decide ((i : Int) ∈ errV l b p y p.length) = (sideV l b (rdl p i) != y.getD i 0) := by
   rw [Bool.eq_iff_iff, decide_eq_true_eq, bne_iff_ne]
   unfold errV
   rw [List.mem_map]
   constructor
   ·
    rintro ⟨j, hj, hji⟩
    obtain rfl : j = i := by omega
    have := (List.mem_filter.1 hj).2
    unfold errs at this; exact of_decide_eq_true this
   ·
    intro hne
    exact ⟨i, List.mem_filter.2 ⟨List.mem_range.2 (by omega), by unfold errs; exact decide_eq_true hne⟩, rfl⟩
  refine Ev.step (fun k => laws_FnSides.l0.eq_2 ..) (evp (by omega) (evb (km _ _ (by omega)) (evp (by omega) (evp (by omega) (evn ?_ ?_)))))
  · rw [hrd, rd_nat, hm]; simp
  · rw [w64s i (by omega)]; exact ih (i + 1) (by omega)
theorem qS (p : List (List Int)) (y l : List Int) (b : Int) : Ev (fun k => laws_FnSides.j7 k (za p y l b).1 (za p y l b).2 (zd p y l b).1 (fitsV p y l b).1 p y) true := by
 by_cases e : suitB p y l b = true
 ·
  have h := ka e p.length 0 (by omega)
  unfold za zd
  rw [if_pos e, if_pos e]
  exact Ev.step (fun k => laws_FnSides.j7.eq_2 ..) (evp rfl h)
 ·
  unfold za
  rw [if_neg e]
  exact Ev.step (fun k => laws_FnSides.j7.eq_2 ..) (evn (by simp) (evs rfl))
theorem law (l0 : List Int) (hb : ∀ x ∈ l0, (Lit.int .u8 x).wf = true) : Ev (fun k => laws_FnSides.f k l0) true := by
 unfold laws_FnSides.f laws_rBig.f
 simp only [Option.bind_some]
 by_cases c : (l0.length : Int) > 65536
 · exact evp (decide_eq_true c) (evs rfl)
 have hl := jI l0 (by omega) hb
 refine evn (by simpa using c) ?_
 have bne_self : ∀ b : Bool, ¬ (b != b) = true := fun b => by cases b <;> decide
 obtain ⟨⟨p, y, l, b⟩, hd, ⟨a1, a2, a3⟩, a4⟩ := ji hl
 simp only at a1 a2 a3 a4
 obtain ⟨⟨g, z, q, t⟩, hd2, ⟨b1, b2, b3⟩, b4⟩ := qt hl
 simp only at b1 b2 b3 b4
 obtain ⟨⟨u, v, x⟩, hd3, c1, c2⟩ := jC hl
 simp only at c1 c2
 have hr : ∀ r ∈ p, (r.length : Int) ≤ 1048576 := fun r h => by have := a2 r h; omega
 have hr2 : ∀ r ∈ g, (r.length : Int) ≤ 1048576 := fun r h => by have := b2 r h; omega
 have hsl := qH p y l b
 have hml := qJ p y l b
 have hok : (zd p y l b).2 = (za p y l b).2 ∧ (fitsV p y l b).2 = (za p y l b).2 := by
  unfold zd fitsV za; split <;> exact ⟨rfl, rfl⟩
 have hpo : (zi u v x).2 = (zc u v x).2 := by unfold zi zc; split <;> rfl
 have j6 : Ev (fun k => laws_FnSides.j6 k (za p y l b).1 (za p y l b).2 (zd p y l b).1 (fitsV p y l b).1 (fitsV g z q t).1 false p y g z) true := by
  refine Ev.step (fun k => laws_FnSides.j6.eq_2 ..) (evn (by decide) ?_)
  by_cases e : (fitsV g z q t).1 = true
  · exact evp e (evb (jH (by omega) hr2 e) (evp rfl (evp rfl (qS p y l b))))
  · exact evn e (qS p y l b)
 have hsp : Ev (fun k => spec_IsPlane.f k u v) (planeB u v) := by unfold spec_IsPlane.f; exact evb (zI u v (by omega)) (evs rfl)
 have hsx : Ev (fun k => spec_IsPoint.f k x) (pointB x) := by unfold spec_IsPoint.f; exact evb (zJ x (by omega)) (evs rfl)
 have hss : Ev (fun k => spec_IsSample.f k p y) (sampB p y) := by unfold spec_IsSample.f; exact evb (zW p y (by omega) hr (by omega)) (evs rfl)
 have j6b : Ev (fun k => laws_FnSides.j6 k (za p y l b).1 (za p y l b).2 (zd p y l b).1 (fitsV p y l b).1 (fitsV g z q t).1 (sampB p y != sampB p y) p y g z) true := by
  rw [show (sampB p y != sampB p y) = false by simp]; exact j6
 have chain : Ev (fun k => (impl_IsPlane.f k u v).bind fun t691 => ((spec_IsPlane.f k u v).bind fun t692 => (if (t691 != t692) = true then (laws_FnSides.j6 k (za p y l b).1 (za p y l b).2 (zd p y l b).1 (fitsV p y l b).1 (fitsV g z q t).1 true p y g z) else ((impl_IsPoint.f k x).bind fun t693 => ((spec_IsPoint.f k x).bind fun t694 => (if (t693 != t694) = true then (laws_FnSides.j6 k (za p y l b).1 (za p y l b).2 (zd p y l b).1 (fitsV p y l b).1 (fitsV g z q t).1 true p y g z) else ((impl_IsSample.f k p y).bind fun t695 => ((spec_IsSample.f k p y).bind fun t696 => (laws_FnSides.j6 k (za p y l b).1 (za p y l b).2 (zd p y l b).1 (fitsV p y l b).1 (fitsV g z q t).1 (t695 != t696) p y g z))))))))) true :=
  evb (zz u v (by omega)) (evb hsp (evn (bne_self _) (evb (zA x (by omega)) (evb hsx (evn (bne_self _) (evb (zv p y (by omega) hr) (evb hss j6b)))))))
 have j5 : Ev (fun k => laws_FnSides.j5 k (za p y l b).1 (za p y l b).2 (zd p y l b).1 (fitsV p y l b).1 (fitsV g z q t).1 x (zc u v x).1 (zc u v x).2 (zi u v x).1 false p y g z u v) true := by
  refine Ev.step (fun k => laws_FnSides.j5.eq_2 ..) (evn (by decide) ?_)
  by_cases e : (zc u v x).2 = true
  ·
   refine evp e (evn ?_ chain)
   have hm : zh u v x = true := by unfold zc at e; exact Classical.byContradiction fun h => by rw [if_neg h] at e; cases e
   unfold zc zi
   rw [if_pos hm, if_pos hm]
   unfold sideV
   by_cases h : dot u x ≥ v
   · simp only [if_pos h, decide_eq_true h]; decide
   · simp only [if_neg h, decide_eq_false h]; decide
  · exact evn e chain
 have j4 : Ev (fun k => laws_FnSides.j4 k (za p y l b).1 (za p y l b).2 (zd p y l b).1 (fitsV p y l b).1 (fitsV g z q t).1 x (zc u v x).1 (zc u v x).2 ((zc u v x).2 != (zc u v x).2) p y g z u v) true := by
  refine Ev.step (fun k => laws_FnSides.j4.eq_2 ..) (evn (bne_self _) (evb (jF u v x (by omega) (by omega)) (evb (jG u v x (by omega) (by omega)) (evp rfl (evn (bne_self _) ?_)))))
  rw [show ((zi u v x).2 != (zc u v x).2) = false by rw [hpo]; simp]; exact j5
 have j3 : Ev (fun k => laws_FnSides.j3 k l0 (za p y l b).1 (za p y l b).2 (zd p y l b).1 (fitsV p y l b).1 (fitsV g z q t).1 ((fitsV g z q t).2 != (fitsV g z q t).2) p y g z) true :=
  Ev.step (fun k => laws_FnSides.j3.eq_2 ..) (evn (bne_self _) (evb hd3 (evb (jD u v x (by omega) (by omega)) (evb (jE u v x (by omega) (by omega)) (evp rfl j4)))))
 have j2 : Ev (fun k => laws_FnSides.j2 k l0 (za p y l b).1 (za p y l b).2 (zd p y l b).1 (fitsV p y l b).1 ((fitsV p y l b).2 != (za p y l b).2) p y) true := by
  rw [show ((fitsV p y l b).2 != (za p y l b).2) = false by rw [hok.2]; simp]
  exact Ev.step (fun k => laws_FnSides.j2.eq_2 ..) (evn (by decide) (evb hd2 (evb (jm g z q t (by omega) hr2 (by omega) (by omega)) (evb (jl g z q t (by omega) hr2 (by omega) (by omega)) (evn (bne_self _) j3)))))
 have j1 : Ev (fun k => laws_FnSides.j1 k l0 (za p y l b).1 (za p y l b).2 (zd p y l b).1 false p y l b) true :=
  Ev.step (fun k => laws_FnSides.j1.eq_2 ..) (evn (by decide) (evb (jm p y l b (by omega) hr (by omega) (by omega)) (evb (jl p y l b (by omega) hr (by omega) (by omega)) (evn (bne_self _) (evn (bne_self _) j2)))))
 have j0 : Ev (fun k => laws_FnSides.j0 k l0 (za p y l b).1 (za p y l b).2 false p y l b) true := by
  refine Ev.step (fun k => laws_FnSides.j0.eq_2 ..) (evn (by decide) (evb (kd p y l b (by omega) hr (by omega) (by omega)) (evb (kc p y l b (by omega) hr (by omega) (by omega)) (evn (bne_self _) (evn (by rw [hok.1]; exact bne_self _) (evb (jo _ _ (by omega)) ?_))))))
  rw [decide_eq_true rfl]; exact j1
 refine evb hd (evb (jZ p y l b (by omega) hr (by omega) (by omega)) (evb (jY p y l b (by omega) hr (by omega) (by omega)) (evn (bne_self _) (evb (jo _ _ (by omega)) ?_))))
 rw [decide_eq_true rfl]; exact j0
end Go.Proofs.Ytkgekmpnbhomgaa.LFnSides
