/- Own lemmas: what the printed functions of one law come to. -/
import Derived.Test.YthfkgbkhkahmdaaMFnExactLeastPlanex6
import Derived.Test.YthfkgbkhkahmdaaBase
namespace Go.Proofs.Ythfkgbkhkahmdaa.LFnExactLeastPlane
open Go Go.RowKit Go.Proofs.Ythfkgbkhkahmdaa.Base Go.Proofs.Ythfkgbkhkahmdaa.PFnExactLeastPlane Go.Proofs.YthfkgbkhkahmdaaW.PrintWords Go.Proofs.YthfkgbkhkahmdaaW.PrintLast Go.Proofs.YthfkgbkhkahmdaaW.PrintMore
set_option linter.unusedVariables false
set_option linter.unusedSimpArgs false
set_option maxRecDepth 4000

/-! ### laws_toIntS -/
theorem toIntS_l0 (x0 : List Int) (hx : x0.length < 4611686018427387904) : ∀ (d i : Nat) (x3 : List Int), i + d = x0.length → x3.length = x0.length →
    Ev (fun k => laws_toIntS.l0 k x0 x3 (i : Int)) (x3.take i ++ x0.drop i) := by
  intro d
  induction d with
  | zero =>
    intro i x3 hi hl
    refine Ev.step (fun k => laws_toIntS.l0.eq_2 ..) (evn (by omega) (evs ?_))
    simp [List.take_of_length_le (show x3.length ≤ i by omega), List.drop_of_length_le (show x0.length ≤ i by omega)]
  | succ d ih =>
    intro i x3 hi hl
    refine Ev.step (fun k => laws_toIntS.l0.eq_2 ..) (evp (by omega) (evp (by omega) (evp (by omega) ?_)))
    rw [w64s i (by omega), rd_nat]
    refine evr (ih (i + 1) _ (by omega) (by simpa using hl)) ?_
    rw [Int.toNat_natCast, set_take _ _ _ (by omega), List.drop_eq_getElem_cons (show i < x0.length by omega), List.append_assoc]
    simp [List.getD_eq_getElem?_getD, List.getElem?_eq_getElem (show i < x0.length by omega)]
theorem toIntS (l : List Int) (h : l.length ≤ 35184372088832) : Ev (fun k => laws_toIntS.f k l) l := by
  unfold laws_toIntS.f
  refine evp (by omega) (evp (by simpa using h) ?_)
  refine evr (toIntS_l0 l (by omega) l.length 0 _ (by omega) (by simp)) (by simp)

/-! ### laws_eqIntS -/
theorem eqIntS_l0 (a b : List Int) (hl : a.length = b.length) (hx : a.length < 4611686018427387904) : ∀ (d i : Nat), i + d = a.length →
    Ev (fun k => laws_eqIntS.l0 k a b (i : Int)) (decide (a.drop i = b.drop i)) := by
  intro d
  induction d with
  | zero =>
    intro i hi
    refine Ev.step (fun k => laws_eqIntS.l0.eq_2 ..) (evn (by omega) (evs ?_))
    simp [List.drop_of_length_le (show a.length ≤ i by omega), List.drop_of_length_le (show b.length ≤ i by omega)]
  | succ d ih =>
    intro i hi
    refine Ev.step (fun k => laws_eqIntS.l0.eq_2 ..) (evp (by omega) (evp (by omega) (evp (by omega) ?_)))
    rw [w64s i (by omega), rd_nat, rd_nat]
    have ea := List.drop_eq_getElem_cons (show i < a.length by omega)
    have eb := List.drop_eq_getElem_cons (show i < b.length by omega)
    simp only [List.getD_eq_getElem?_getD, List.getElem?_eq_getElem (show i < a.length by omega), List.getElem?_eq_getElem (show i < b.length by omega), Option.getD_some]
    by_cases e : a[i] = b[i]
    · refine evp e (evr (ih (i + 1) (by omega)) ?_)
      rw [ea, eb, e]; simp only [List.cons.injEq, true_and]
    · refine evn e (evs ?_)
      rw [ea, eb]; simp only [List.cons.injEq, e, false_and, decide_false]
theorem eqIntS (a b : List Int) (hx : a.length < 4611686018427387904) : Ev (fun k => laws_eqIntS.f k a b) (decide (a = b)) := by
  unfold laws_eqIntS.f
  by_cases h : a.length = b.length
  · refine evp (by omega) (evr (eqIntS_l0 a b h hx a.length 0 (by omega)) (by simp))
  · refine evn (by omega) (evs ?_)
    have : a ≠ b := fun e => h (by rw [e])
    simp [this]

/-! ### laws_markIntS -/
theorem markIntS_l0 (d : Nat) : ∀ (x0 : List Int) (m : Int) (i : Nat), i + d = x0.length → x0.length < 4611686018427387904 → 0 ≤ m → m + d < 4611686018427387904 →
    Ev (fun k => laws_markIntS.l0 k x0 m (i : Int)) (m + d, x0.take i ++ (List.range d).map fun j : Nat => m + (j : Int)) := by
  induction d with
  | zero =>
    intro x0 m i hi hx h0 hm
    refine Ev.step (fun k => laws_markIntS.l0.eq_2 ..) (evn (by omega) (evs ?_))
    simp [List.take_of_length_le (show x0.length ≤ i by omega)]
  | succ d ih =>
    intro x0 m i hi hx h0 hm
    refine Ev.step (fun k => laws_markIntS.l0.eq_2 ..) (evp (by omega) (evp (by omega) ?_))
    rw [w64s i (by omega), w64 (x := m + 1) (by omega) (by omega)]
    refine evr (ih _ _ (i + 1) (by simp; omega) (by simpa using hx) (by omega) (by omega)) ?_
    rw [Int.toNat_natCast, set_take _ _ _ (by omega), List.append_assoc, List.range_succ_eq_map]
    simp only [List.map_cons, List.map_map, Prod.mk.injEq]
    refine ⟨by push_cast; omega, ?_⟩
    congr 1
    simp only [List.cons_append, List.nil_append, List.cons.injEq]
    refine ⟨by simp, List.map_congr_left fun j _ => by simp; omega⟩
theorem markIntS (l : List Int) (m : Int) (h0 : 0 ≤ m) (h : m + l.length < 4611686018427387904) : Ev (fun k => laws_markIntS.f k l m) (m + l.length, marks l m) := by
  unfold laws_markIntS.f
  exact evr (markIntS_l0 l.length l m 0 (by omega) (by omega) h0 h) (by simp [marks])

/-! ### laws_heldIntS -/
theorem heldIntS_l0 (l : List Int) (m : Int) (h0 : 0 ≤ m) (hm : m + l.length < 4611686018427387904) (hv : ∀ i, i < l.length → l.getD i 0 = m + i) : ∀ (d i : Nat), i + d = l.length →
    Ev (fun k => laws_heldIntS.l0 k l (m + (i : Int)) (i : Int)) (m + l.length) := by
  intro d
  induction d with
  | zero =>
    intro i hi
    refine Ev.step (fun k => laws_heldIntS.l0.eq_2 ..) (evn (by omega) (evs ?_))
    omega
  | succ d ih =>
    intro i hi
    refine Ev.step (fun k => laws_heldIntS.l0.eq_2 ..) (evp (by omega) (evp (by omega) ?_))
    rw [w64s i (by omega), w64 (x := m + i + 1) (by omega) (by omega), rd_nat]
    refine evp (hv i (by omega)) ?_
    have := ih (i + 1) (by omega)
    rw [show m + ((i + 1 : Nat) : Int) = m + i + 1 by omega] at this
    exact this
theorem heldIntS (l : List Int) (m : Int) (h0 : 0 ≤ m) (hm : m + l.length < 4611686018427387904) : Ev (fun k => laws_heldIntS.f k (marks l m) m) (m + l.length) := by
  unfold laws_heldIntS.f
  have h := heldIntS_l0 (marks l m) m h0 (by rw [marks_length]; exact hm) (fun i hi => marks_at l m i (by rwa [marks_length] at hi)) l.length 0 (by rw [marks_length]; omega)
  rw [marks_length] at h
  simpa using h

/-! ### spec_l1In -/
theorem l1In (a b c : Int) : spec_l1In.f a b c = some (decide (b ≤ a ∧ a ≤ c)) := by
  unfold spec_l1In.f; split <;> simp_all <;> omega

/-! ### impl_within -/
theorem within (a b c : Int) : impl_within.f a b c = some (decide (b ≤ a ∧ a ≤ c)) := by
  unfold impl_within.f; split <;> simp_all <;> omega

/-! ### spec_l2Table -/
theorem l2Table_l0 (l : List Int) (hx : l.length < 4611686018427387904) : ∀ (d i : Nat), i + d = l.length →
    Ev (fun k => spec_l2Table.l0 k l (i : Int)) ((l.drop i).all fun x => decide (0 ≤ x ∧ x ≤ 1)) := by
  intro d
  induction d with
  | zero =>
    intro i hi
    refine Ev.step (fun k => spec_l2Table.l0.eq_2 ..) (evn (by omega) (evs ?_))
    simp [List.drop_of_length_le (show l.length ≤ i by omega)]
  | succ d ih =>
    intro i hi
    refine Ev.step (fun k => spec_l2Table.l0.eq_2 ..) (evp (by omega) (evp (by omega) ?_))
    rw [w64s i (by omega), rd_nat, l1In, List.drop_eq_getElem_cons (show i < l.length by omega)]
    simp only [List.getD_eq_getElem?_getD, List.getElem?_eq_getElem (show i < l.length by omega), Option.getD_some, Option.bind_some, List.all_cons]
    by_cases e : 0 ≤ l[i] ∧ l[i] ≤ 1
    · refine evp (by simpa using e) (evr (ih (i + 1) (by omega)) (by simp [e]))
    · refine evn (by simpa using e) (evs (by simp [e]))
theorem l2Table (n : Int) (l : List Int) (hx : l.length < 4611686018427387904) : Ev (fun k => spec_l2Table.f k n l) (isTab n l) := by
  unfold spec_l2Table.f isTab
  rw [l1In]
  simp only [Option.bind_some]
  by_cases h : 0 ≤ n ∧ n ≤ 4
  · refine evp (by simpa using h) (evp h.1 (Ev.step (fun k => spec_l2Table.j0.eq_2 ..) ?_))
    obtain ⟨m, rfl⟩ := Int.eq_ofNat_of_zero_le h.1
    rw [shl1 m (by omega)]
    by_cases e : l.length = 2 ^ m
    · refine evn (by simp [e]) (evr (l2Table_l0 l hx l.length 0 (by omega)) (by simp [e]; omega))
    · refine evp (by simp; exact_mod_cast e) (evs (by simp [e]))
  · refine evn (by simpa using h) (Ev.step (fun k => spec_l2Table.j0.eq_2 ..) (evp rfl (evs (by simp [h]))))

/-! ### impl_allWithin -/
theorem allWithin_l0 (lo up : Int) (l : List Int) (hx : l.length < 4611686018427387904) : ∀ (d i : Nat), i + d = l.length →
    Ev (fun k => impl_allWithin.l0 k lo up l (l.length : Int) (i : Int)) ((l.drop i).all fun x => decide (lo ≤ x ∧ x ≤ up)) := by
  intro d
  induction d with
  | zero =>
    intro i hi
    refine Ev.step (fun k => impl_allWithin.l0.eq_2 ..) (evn (by omega) (evs ?_))
    simp [List.drop_of_length_le (show l.length ≤ i by omega)]
  | succ d ih =>
    intro i hi
    refine Ev.step (fun k => impl_allWithin.l0.eq_2 ..) (evp (by omega) (evp (by omega) (evp (by omega) ?_)))
    rw [w64s i (by omega), rd_nat, within, List.drop_eq_getElem_cons (show i < l.length by omega)]
    simp only [List.getD_eq_getElem?_getD, List.getElem?_eq_getElem (show i < l.length by omega), Option.getD_some, Option.bind_some, List.all_cons]
    by_cases e : lo ≤ l[i] ∧ l[i] ≤ up
    · refine evp (by simpa using e) (evr (ih (i + 1) (by omega)) (by simp [e]))
    · refine evn (by simpa using e) (evs (by simp [e]))
theorem allWithin (l : List Int) (lo up : Int) (hx : l.length < 4611686018427387904) : Ev (fun k => impl_allWithin.f k l lo up) (l.all fun x => decide (lo ≤ x ∧ x ≤ up)) := by
  unfold impl_allWithin.f
  exact allWithin_l0 lo up l hx l.length 0 (by omega)

/-! ### impl_isTable -/
theorem isTable (n : Int) (l : List Int) (hx : l.length < 4611686018427387904) : Ev (fun k => impl_isTable.f k n l) (isTab n l) := by
  unfold impl_isTable.f isTab
  rw [within]
  simp only [Option.bind_some]
  by_cases h : 0 ≤ n ∧ n ≤ 4
  · obtain ⟨m, rfl⟩ := Int.eq_ofNat_of_zero_le h.1
    refine evp (by simpa using h) (evp h.1 ?_)
    rw [shl1 m (by omega)]
    by_cases e : l.length = 2 ^ m
    · refine evp (by exact_mod_cast e) (evb (allWithin l 0 1 hx) (evs (by simp [e]; omega)))
    · refine evn (by exact_mod_cast e) (evs (by simp [e]))
  · refine evn (by simpa using h) (evs (by simp [h]))

/-! ### spec_l1Own -/
theorem l1Own (l : List Int) (h : l.length < 17592186044416) : spec_l1Own.f l = some l := by
  unfold spec_l1Own.f
  simp only [Option.bind_some]
  rw [if_pos (by simpa using h)]; rfl

/-! ### impl_copied -/
theorem copied (l : List Int) (h : l.length < 17592186044416) : impl_copied.f l = some l := by
  unfold impl_copied.f
  simp only [Option.bind_some]
  rw [if_pos (by simpa using h)]; rfl

/-! ### laws_eqPlane laws_eqIntS -/
theorem eqPlane (l : List Int) (q : Int) (l' : List Int) (q' : Int) (h : l.length < 4611686018427387904) : Ev (fun k => laws_eqPlane.f k l q l' q') (decide (l = l') && decide (q = q')) := by
  unfold laws_eqPlane.f
  refine evb (eqIntS l l' h) ?_
  by_cases e : l = l'
  · refine evp (by simpa using e) ?_
    by_cases e' : q = q'
    · exact evp e' (evs (by simp [e, e']))
    · exact evn e' (evs (by simp [e, e']))
  · exact evn (by simpa using e) (evs (by simp [e]))

/-! ### laws_markPlane laws_markIntS -/
theorem markPlane (l : List Int) (q m : Int) (h0 : 0 ≤ m) (h : m + l.length < 4611686018427387904) : Ev (fun k => laws_markPlane.f k l q m) (m + l.length, marks l m) := by
  unfold laws_markPlane.f
  exact evb (markIntS l m h0 h) (evs rfl)

/-! ### laws_heldPlane laws_heldIntS -/
theorem heldPlane (l : List Int) (q m : Int) (h0 : 0 ≤ m) (h : m + l.length < 4611686018427387904) : Ev (fun k => laws_heldPlane.f k (marks l m) q m) (m + l.length) := by
  unfold laws_heldPlane.f
  exact evb (heldIntS l m h0 h) (evn (by omega) (evs rfl))

/-! ### spec_l2Dot -/
theorem l2Dot_l0 (a b : List Int) (M : Int) (hM : 0 ≤ M ∧ M ≤ 1000000000000) (hab : ∀ i, -M ≤ a.getD i 0 * b.getD i 0 ∧ a.getD i 0 * b.getD i 0 ≤ M) (hl : a.length ≤ 1000) (hb : a.length ≤ b.length) : ∀ (d i : Nat) (s : Int), i + d = a.length → -(M * i) ≤ s → s ≤ M * i →
    Ev (fun k => spec_l2Dot.l0 k a b s (i : Int)) (s + dot (a.drop i) (b.drop i)) := by
  intro d
  induction d with
  | zero =>
    intro i s hi h0 hs
    exact Ev.step (fun k => spec_l2Dot.l0.eq_2 ..) (evn (by omega) (evs (by rw [List.drop_of_length_le (show a.length ≤ i by omega)]; simp [dot])))
  | succ d ih =>
    intro i s hi h0 hs
    have hm := hab i
    have hMi : M * (i : Int) ≤ 1000000000000 * 1000 := Int.mul_le_mul hM.2 (by omega) (by omega) (by omega)
    have hMs : M * ((i + 1 : Nat) : Int) = M * i + M := by rw [show ((i + 1 : Nat) : Int) = (i : Int) + 1 by omega, Int.mul_add]; omega
    refine Ev.step (fun k => spec_l2Dot.l0.eq_2 ..) (evp (by omega) (evp (by omega) (evp (by omega) ?_)))
    rw [rd_nat, rd_nat, w64s i (by omega), w64 (x := a.getD i 0 * b.getD i 0) (by omega) (by omega), w64 (x := s + a.getD i 0 * b.getD i 0) (by omega) (by omega)]
    refine evr (ih (i + 1) _ (by omega) (by omega) (by omega)) ?_
    rw [List.drop_eq_getElem_cons (show i < a.length by omega), List.drop_eq_getElem_cons (show i < b.length by omega)]
    simp only [List.getD_eq_getElem?_getD, List.getElem?_eq_getElem (show i < a.length by omega), List.getElem?_eq_getElem (show i < b.length by omega), Option.getD_some, dot]; omega
theorem getD_in {l : List Int} {A : Int} (hA : 0 ≤ A) (h : ∀ x ∈ l, -A ≤ x ∧ x ≤ A) (i : Nat) : -A ≤ l.getD i 0 ∧ l.getD i 0 ≤ A := by
  by_cases hi : i < l.length
  · rw [List.getD_eq_getElem?_getD, List.getElem?_eq_getElem hi]; exact h _ (List.getElem_mem hi)
  · rw [List.getD_eq_getElem?_getD, List.getElem?_eq_none (by omega)]; simp; omega
theorem l2Dot (a b : List Int) (A B : Int) (hA : 0 ≤ A ∧ A ≤ 1000000) (hB : 0 ≤ B ∧ B ≤ 1000000) (ha : ∀ x ∈ a, -A ≤ x ∧ x ≤ A) (hb : ∀ x ∈ b, -B ≤ x ∧ x ≤ B) (hl : a.length ≤ 1000) (hab : a.length ≤ b.length) : Ev (fun k => spec_l2Dot.f k a b) (dot a b) := by
  unfold spec_l2Dot.f
  have hM : A * B ≤ 1000000 * 1000000 := Int.mul_le_mul hA.2 hB.2 hB.1 (by omega)
  have hM0 := Int.mul_nonneg hA.1 hB.1
  exact evr (l2Dot_l0 a b (A * B) ⟨hM0, by omega⟩ (fun i => mul_bd (getD_in hA.1 ha i) (getD_in hB.1 hb i)) hl hab a.length 0 0 (by omega) (by simp) (by simp)) (by simp)

/-! ### impl_product -/
theorem product_l0 (a b : List Int) (M : Int) (hM : 0 ≤ M ∧ M ≤ 1000000000000) (hab : ∀ i, -M ≤ a.getD i 0 * b.getD i 0 ∧ a.getD i 0 * b.getD i 0 ≤ M) (hl : a.length ≤ 1000) (hb : a.length ≤ b.length) : ∀ (d i : Nat) (s : Int), i + d = a.length → -(M * i) ≤ s → s ≤ M * i →
    Ev (fun k => impl_product.l0 k b s a (a.length : Int) (i : Int)) (s + dot (a.drop i) (b.drop i)) := by
  intro d
  induction d with
  | zero =>
    intro i s hi h0 hs
    exact Ev.step (fun k => impl_product.l0.eq_2 ..) (evn (by omega) (evs (by rw [List.drop_of_length_le (show a.length ≤ i by omega)]; simp [dot])))
  | succ d ih =>
    intro i s hi h0 hs
    have hm := hab i
    have hMi : M * (i : Int) ≤ 1000000000000 * 1000 := Int.mul_le_mul hM.2 (by omega) (by omega) (by omega)
    have hMs : M * ((i + 1 : Nat) : Int) = M * i + M := by rw [show ((i + 1 : Nat) : Int) = (i : Int) + 1 by omega, Int.mul_add]; omega
    refine Ev.step (fun k => impl_product.l0.eq_2 ..) (evp (by omega) (evp (by omega) (evp (by omega) (evp (by omega) ?_))))
    rw [rd_nat, rd_nat, w64s i (by omega), w64 (x := a.getD i 0 * b.getD i 0) (by omega) (by omega), w64 (x := s + a.getD i 0 * b.getD i 0) (by omega) (by omega)]
    refine evr (ih (i + 1) _ (by omega) (by omega) (by omega)) ?_
    rw [List.drop_eq_getElem_cons (show i < a.length by omega), List.drop_eq_getElem_cons (show i < b.length by omega)]
    simp only [List.getD_eq_getElem?_getD, List.getElem?_eq_getElem (show i < a.length by omega), List.getElem?_eq_getElem (show i < b.length by omega), Option.getD_some, dot]; omega
theorem getD_in' {l : List Int} {A : Int} (hA : 0 ≤ A) (h : ∀ x ∈ l, -A ≤ x ∧ x ≤ A) (i : Nat) : -A ≤ l.getD i 0 ∧ l.getD i 0 ≤ A := by
  by_cases hi : i < l.length
  · rw [List.getD_eq_getElem?_getD, List.getElem?_eq_getElem hi]; exact h _ (List.getElem_mem hi)
  · rw [List.getD_eq_getElem?_getD, List.getElem?_eq_none (by omega)]; simp; omega
theorem product (a b : List Int) (A B : Int) (hA : 0 ≤ A ∧ A ≤ 1000000) (hB : 0 ≤ B ∧ B ≤ 1000000) (ha : ∀ x ∈ a, -A ≤ x ∧ x ≤ A) (hb : ∀ x ∈ b, -B ≤ x ∧ x ≤ B) (hl : a.length ≤ 1000) (hab : a.length ≤ b.length) : Ev (fun k => impl_product.f k a b) (dot a b) := by
  unfold impl_product.f
  have hM : A * B ≤ 1000000 * 1000000 := Int.mul_le_mul hA.2 hB.2 hB.1 (by omega)
  have hM0 := Int.mul_nonneg hA.1 hB.1
  exact evr (product_l0 a b (A * B) ⟨hM0, by omega⟩ (fun i => mul_bd (getD_in' hA.1 ha i) (getD_in' hB.1 hb i)) hl hab a.length 0 0 (by omega) (by simp) (by simp)) (by simp)

/-! ### spec_l2BitPoint -/
theorem l2BitPoint_l0 (n k : Nat) (hn : n ≤ 8) (hk : k < 2 ^ 62) : ∀ (d i : Nat) (out : List Int), i + d = n → out.length = i →
    Ev (fun f => spec_l2BitPoint.l0 f (n : Int) (k : Int) out (i : Int)) (out ++ (List.range' i d).map fun i => (bit k i : Int)) := by
  intro d
  induction d with
  | zero =>
    intro i out hi ho
    exact Ev.step (fun k => spec_l2BitPoint.l0.eq_2 ..) (evn (by omega) (evs (by simp)))
  | succ d ih =>
    intro i out hi ho
    refine Ev.step (fun k => spec_l2BitPoint.l0.eq_2 ..) (evp (by omega) (evp (by omega) (evp (by omega) ?_)))
    rw [digit k i (by omega) (by omega), w64s i (by omega)]
    refine evr (ih (i + 1) _ (by omega) (by simp; omega)) ?_
    simp [List.range'_succ]
theorem l2BitPoint (n k : Nat) (hn : n ≤ 8) (hk : k < 2 ^ 62) : Ev (fun f => spec_l2BitPoint.f f (n : Int) (k : Int)) (bitPt n k) := by
  unfold spec_l2BitPoint.f bitPt
  refine evr (l2BitPoint_l0 n k hn hk n 0 [] (by omega) rfl) ?_
  rw [List.range_eq_range']; rfl

/-! ### impl_bitPoint -/
theorem bitPoint_l0 (n k : Nat) (hn : n ≤ 8) (hk : k < 2 ^ 62) : ∀ (d i : Nat) (out : List Int), i + d = n → out.length = i →
    Ev (fun f => impl_bitPoint.l0 f (k : Int) out (n : Int) (i : Int)) (out ++ (List.range' i d).map fun i => (bit k i : Int)) := by
  intro d
  induction d with
  | zero =>
    intro i out hi ho
    exact Ev.step (fun k => impl_bitPoint.l0.eq_2 ..) (evn (by omega) (evs (by simp)))
  | succ d ih =>
    intro i out hi ho
    refine Ev.step (fun k => impl_bitPoint.l0.eq_2 ..) (evp (by omega) (evp (by omega) (evp (by omega) ?_)))
    rw [digit k i (by omega) (by omega), w64s i (by omega)]
    refine evr (ih (i + 1) _ (by omega) (by simp; omega)) ?_
    simp [List.range'_succ]
theorem bitPoint (n k : Nat) (hn : n ≤ 8) (hk : k < 2 ^ 62) : Ev (fun f => impl_bitPoint.f f (n : Int) (k : Int)) (bitPt n k) := by
  unfold impl_bitPoint.f bitPt
  refine evr (bitPoint_l0 n k hn hk n 0 [] (by omega) rfl) ?_
  rw [List.range_eq_range']; rfl

/-! ### spec_l5Weights spec_l1Own impl_leastPlane -/
theorem rdL_w (l : List (List Int)) (i : Nat) : rd_L1 l (i : Int) = rdl l i := by simp [rd_L1, rdl]
theorem l5Weights_l2 (n i : Nat) (L : List (List Int)) (hL : ∀ v ∈ L, v.length ≤ 8) (hLL : L.length ≤ 100000) (j : Nat) (hj : j < L.length) (R : List (List Int)) : ∀ (d : Nat) (x : Int) (out : List (List Int)), x + d = 4 → -3 ≤ x → out.length ≤ 1000000 + (7 - d) →
    Ev (fun k => spec_l5Weights.l1 k (n : Int) L (i : Int) (out ++ (List.range d).map fun e : Nat => rdl L j ++ [x + (e : Int)]) (((j + 1 : Nat) : Int))) R → Ev (fun k => spec_l5Weights.l2 k (n : Int) L (i : Int) out (j : Int) x) R := by
  intro d
  induction d with
  | zero =>
    intro x out hx _ _ h
    refine Ev.step (fun k => spec_l5Weights.l2.eq_2 ..) (evn (by omega) ?_)
    rw [w64s j (by omega)]
    simpa using h
  | succ d ih =>
    intro x out hx h3 ho h
    have hv := hL _ (rdl_mem L j hj)
    refine Ev.step (fun k => spec_l5Weights.l2.eq_2 ..) (evp (by omega) (evp (by omega) (evp (by omega) ?_)))
    rw [rdL_w]
    refine evb (evc (l1Own _ (by omega))) (evp (by omega) (evp (by omega) ?_))
    rw [w64 (x := x + 1) (by omega) (by omega)]
    refine ih (x + 1) _ (by omega) (by omega) (by simp; omega) ?_
    rw [List.range_succ_eq_map] at h
    simpa [Function.comp_def, Int.add_assoc, Int.add_comm 1] using h
theorem l5Weights_l1 (n i : Nat) (L : List (List Int)) (hi : i < 4611686018427387904) (hL : ∀ v ∈ L, v.length ≤ 8) (hLL : L.length ≤ 100000) (R : List (List Int)) : ∀ (d j : Nat) (out : List (List Int)), j + d = L.length → out.length = j * 7 →
    Ev (fun k => spec_l5Weights.l0 k (n : Int) (out ++ wlong 3 (L.drop j)) (((i + 1 : Nat) : Int))) R → Ev (fun k => spec_l5Weights.l1 k (n : Int) L (i : Int) out (j : Int)) R := by
  intro d
  induction d with
  | zero =>
    intro j out hj _ h
    refine Ev.step (fun k => spec_l5Weights.l1.eq_2 ..) (evn (by omega) ?_)
    rw [w64s i (by omega)]
    rw [List.drop_of_length_le (show L.length ≤ j by omega)] at h
    simpa [wlong] using h
  | succ d ih =>
    intro j out hj ho h
    refine Ev.step (fun k => spec_l5Weights.l1.eq_2 ..) (evp (by omega) ?_)
    refine l5Weights_l2 n i L hL hLL j (by omega) R 7 (-3) out (by omega) (by omega) (by omega) ?_
    refine ih (j + 1) _ (by omega) (by simp; omega) ?_
    rw [rdl_drop L j (by omega)] at h
    have e : wlong 3 (rdl L j :: L.drop (j + 1)) = ((List.range 7).map fun e : Nat => rdl L j ++ [(-3 : Int) + (e : Int)]) ++ wlong 3 (L.drop (j + 1)) := by
      simp only [wlong, List.flatMap_cons]
      congr 1
    rw [e, ← List.append_assoc] at h
    exact h
theorem wts_small (i : Nat) (h : i ≤ 4) : (wts 3 i).length ≤ 100000 := by
  rw [wts_length]
  have : (2 * 3 + 1) ^ i ≤ (2 * 3 + 1) ^ 4 := Nat.pow_le_pow_right (by decide) h
  omega
theorem l5Weights_l0 (n : Nat) (hn : n ≤ 4) : ∀ (d i : Nat), i + d = n → Ev (fun k => spec_l5Weights.l0 k (n : Int) (wts 3 i) (i : Int)) (wts 3 n) := by
  intro d
  induction d with
  | zero =>
    intro i hi
    refine Ev.step (fun k => spec_l5Weights.l0.eq_2 ..) (evn (by omega) (evs ?_))
    rw [show i = n by omega]
  | succ d ih =>
    intro i hi
    refine Ev.step (fun k => spec_l5Weights.l0.eq_2 ..) (evp (by omega) ?_)
    refine l5Weights_l1 n i (wts 3 i) (by omega) (fun v hv => by rw [wts_len 3 i v hv]; omega) (wts_small i (by omega)) _ (wts 3 i).length 0 [] (by omega) rfl ?_
    rw [List.drop_zero, List.nil_append, wts_long]
    exact ih (i + 1) (by omega)
theorem l5Weights (n : Nat) (hn : n ≤ 4) : Ev (fun k => spec_l5Weights.f k (n : Int)) (wts 3 n) := by
  unfold spec_l5Weights.f
  exact l5Weights_l0 n hn n 0 (by omega)

/-! ### spec_l5Size impl_leastPlane -/
theorem l5Size_l0 (l : List Int) (hb : ∀ x ∈ l, -9 ≤ x ∧ x ≤ 9) (hl : l.length ≤ 8) : ∀ (d i : Nat), i + d = l.length → Ev (fun k => spec_l5Size.l0 k l (impl_leastPlane.sz (l.take i)) (i : Int)) (impl_leastPlane.sz l) := by
  intro d
  induction d with
  | zero =>
    intro i hi
    refine Ev.step (fun k => spec_l5Size.l0.eq_2 ..) (evn (by omega) (evs ?_))
    rw [List.take_of_length_le (by omega)]
  | succ d ih =>
    intro i hi
    have hs := impl_leastPlane.sz_bd 9 (l.take i) (fun x hx => hb x (List.mem_of_mem_take hx))
    rw [List.length_take] at hs
    have hx := hb (l.getD i 0) (by rw [List.getD_eq_getElem?_getD, List.getElem?_eq_getElem (by omega)]; exact List.getElem_mem _)
    refine Ev.step (fun k => spec_l5Size.l0.eq_2 ..) (evp (by omega) (evp (by omega) ?_))
    rw [rd_nat, w64s i (by omega), w64 (x := -l.getD i 0) (by omega) (by omega)]
    have hm : spec_l1Most.f (l.getD i 0) (-l.getD i 0) = some (impl_leastPlane.ab (l.getD i 0)) := by
      unfold spec_l1Most.f impl_leastPlane.ab
      by_cases c : l.getD i 0 < -l.getD i 0
      · rw [if_pos c, if_neg (by omega)]
      · rw [if_neg c]
        by_cases c' : l.getD i 0 > -l.getD i 0
        · rw [if_pos c']
        · rw [if_neg c', show -l.getD i 0 = l.getD i 0 by omega]
    refine evb (evc hm) ?_
    have ha : 0 ≤ impl_leastPlane.ab (l.getD i 0) ∧ impl_leastPlane.ab (l.getD i 0) ≤ 9 := by
      unfold impl_leastPlane.ab
      split <;> omega
    rw [w64 (by omega) (by omega), ← impl_leastPlane.sz_take l i (by omega)]
    exact ih (i + 1) (by omega)
theorem l5Size (l : List Int) (hb : ∀ x ∈ l, -9 ≤ x ∧ x ≤ 9) (hl : l.length ≤ 8) : Ev (fun k => spec_l5Size.f k l) (impl_leastPlane.sz l) := by
  unfold spec_l5Size.f
  exact l5Size_l0 l hb hl l.length 0 (by omega)

/-! ### impl_productsOf impl_product impl_bitPoint -/
def prods (n : Nat) (w : List Int) : List Int := (List.range (2 ^ n)).map fun k => dot w (bitPt n k)
theorem prods_len (n : Nat) (w : List Int) : (prods n w).length = 2 ^ n := by simp [prods]
theorem prods_at (n : Nat) (w : List Int) (k : Nat) (h : k < 2 ^ n) : (prods n w).getD k 0 = dot w (bitPt n k) := by simp [prods, List.getD_eq_getElem?_getD, h]
theorem bitPt_01 (n k : Nat) : ∀ x ∈ bitPt n k, -1 ≤ x ∧ x ≤ 1 := bitPt_in n k
theorem dot_small (n : Nat) (w : List Int) (hn : n ≤ 4) (hw : ∀ x ∈ w, -9 ≤ x ∧ x ≤ 9) (hl : w.length = n) (k : Nat) : -36 ≤ dot w (bitPt n k) ∧ dot w (bitPt n k) ≤ 36 := by
  have := dot_bd 9 1 (by omega) (by omega) w (bitPt n k) hw (bitPt_in n k)
  omega
theorem productsOf_l0 (n : Nat) (hn : n ≤ 4) (w : List Int) (hw : ∀ x ∈ w, -9 ≤ x ∧ x ≤ 9) (hl : w.length = n) : ∀ (d c : Nat) (out : List Int), c + d = 2 ^ n → out.length = c →
    Ev (fun k => impl_productsOf.l0 k (n : Int) w out ((2 ^ n : Nat) : Int) (c : Int)) (out ++ (List.range' c d).map fun k => dot w (bitPt n k)) := by
  have hp := pow4 n hn
  intro d
  induction d with
  | zero =>
    intro c out hc ho
    exact Ev.step (fun k => impl_productsOf.l0.eq_2 ..) (evn (by omega) (evs (by simp)))
  | succ d ih =>
    intro c out hc ho
    refine Ev.step (fun k => impl_productsOf.l0.eq_2 ..) (evp (by omega) ?_)
    rw [w64s c (by omega)]
    refine evb (bitPoint n c (by omega) (by omega)) (evb (product w _ 9 1 (by omega) (by omega) hw (bitPt_in n c) (by omega) (by rw [bitPt_len]; omega)) (evp (by omega) ?_))
    refine evr (ih (c + 1) _ (by omega) (by simp; omega)) ?_
    simp [List.range'_succ]
theorem productsOf (n : Nat) (hn : n ≤ 4) (w : List Int) (hw : ∀ x ∈ w, -9 ≤ x ∧ x ≤ 9) (hl : w.length = n) : Ev (fun k => impl_productsOf.f k (n : Int) w) (prods n w) := by
  unfold impl_productsOf.f prods
  have hp := pow4 n hn
  refine evp (by omega) ?_
  rw [shl1 n (by omega)]
  refine evr (productsOf_l0 n hn w hw hl (2 ^ n) 0 [] (by omega) rfl) ?_
  rw [List.range_eq_range']; rfl

/-! ### impl_gap impl_productsOf impl_product impl_bitPoint -/
def gp (t p : List Int) : Nat → Int × Int
  | 0 => (1000000000, -1000000000)
  | i + 1 => if t.getD i 0 = 1 then (mn (gp t p i).1 (p.getD i 0), (gp t p i).2) else ((gp t p i).1, mx (gp t p i).2 (p.getD i 0))
theorem gap_l0 (t p : List Int) (hl : t.length = p.length) (hx : t.length ≤ 1048576) : ∀ (d i : Nat), i + d = t.length → Ev (fun k => impl_gap.l0 k p (gp t p i).1 (gp t p i).2 t (t.length : Int) (i : Int)) (gp t p t.length) := by
  intro d
  induction d with
  | zero =>
    intro i hi
    refine Ev.step (fun k => impl_gap.l0.eq_2 ..) (evn (by omega) (evs ?_))
    rw [show i = t.length by omega]
  | succ d ih =>
    intro i hi
    have h := ih (i + 1) (by omega)
    simp only [gp] at h
    refine Ev.step (fun k => impl_gap.l0.eq_2 ..) (evp (by omega) (evp (by omega) (evp (by omega) ?_)))
    rw [rd_nat, rd_nat, w64s i (by omega)]
    by_cases e : t.getD i 0 = 1
    · rw [if_pos e] at h
      exact evp e (evp (by omega) h)
    · rw [if_neg e] at h
      exact evn e (evp (by omega) h)
theorem gap (t p : List Int) (hl : t.length = p.length) (hx : t.length ≤ 1048576) : Ev (fun k => impl_gap.f k t p) (gp t p t.length) := by
  unfold impl_gap.f
  exact gap_l0 t p hl hx t.length 0 (by omega)
theorem gp_bd (t p : List Int) (B : Int) (hB : 0 ≤ B ∧ B ≤ 100000) (hp : ∀ i, -B ≤ p.getD i 0 ∧ p.getD i 0 ≤ B) : ∀ i, ((gp t p i).1 = 1000000000 ∨ -B ≤ (gp t p i).1 ∧ (gp t p i).1 ≤ B) ∧ ((gp t p i).2 = -1000000000 ∨ -B ≤ (gp t p i).2 ∧ (gp t p i).2 ≤ B) := by
  intro i
  induction i with
  | zero => exact ⟨.inl rfl, .inl rfl⟩
  | succ i ih =>
    have := hp i
    simp only [gp, mn, mx]
    split
    · refine ⟨.inr ?_, ih.2⟩
      simp only
      split <;> omega
    · refine ⟨ih.1, .inr ?_⟩
      simp only
      split <;> omega

/-! ### spec_l5Parts impl_gap impl_productsOf impl_product impl_bitPoint spec_l2Dot spec_l2BitPoint -/
/-- What the reference counts, and what the program has: no ones (others), or the least (greatest) product. -/
def same1 (x : Int) (c : Nat) (i : Nat) (v : Int) : Prop := (c = 0 ∧ x = 1000000000) ∨ (0 < c ∧ c ≤ i ∧ x = v ∧ -36 ≤ v ∧ v ≤ 36)
def same0 (x : Int) (c : Nat) (i : Nat) (v : Int) : Prop := (c = 0 ∧ x = -1000000000) ∨ (0 < c ∧ c ≤ i ∧ x = v ∧ -36 ≤ v ∧ v ≤ 36)
theorem l5Parts_l0 (n : Nat) (hn : n ≤ 4) (t w : List Int) (ht : t.length = 2 ^ n) (hw : ∀ x ∈ w, -9 ≤ x ∧ x ≤ 9) (hl : w.length = n) : ∀ (d i a b : Nat) (x y : Int), i + d = t.length → same1 (gp t (prods n w) i).1 a i x → same0 (gp t (prods n w) i).2 b i y →
    ∃ x' y' : Int, Ev (fun k => spec_l5Parts.l0 k (n : Int) t w (a : Int) (b : Int) x y (i : Int)) (x', y', decide ((gp t (prods n w) t.length).1 > (gp t (prods n w) t.length).2)) ∧
      ((gp t (prods n w) t.length).1 = 1000000000 ∨ (gp t (prods n w) t.length).1 = x') ∧ ((gp t (prods n w) t.length).2 = -1000000000 ∨ (gp t (prods n w) t.length).2 = y') := by
  have hp := pow4 n hn
  intro d
  induction d with
  | zero =>
    intro i a b x y hi h1 h0
    rw [show i = t.length by omega] at h1 h0
    refine ⟨x, y, Ev.step (fun k => spec_l5Parts.l0.eq_2 ..) (evn (by omega) ?_), ?_, ?_⟩
    · rcases h1 with ⟨rfl, e1⟩ | ⟨c1, c2, e1, b1⟩
      · refine evp (by omega) (evs ?_)
        rw [e1, decide_eq_true]
        rcases h0 with ⟨_, e0⟩ | ⟨_, _, e0, b0⟩ <;> omega
      · refine evn (by omega) ?_
        rcases h0 with ⟨rfl, e0⟩ | ⟨d1, d2, e0, b0⟩
        · refine evp (by omega) (evs ?_)
          rw [e0, decide_eq_true]; omega
        · exact evn (by omega) (evs (by rw [e1, e0]))
    · rcases h1 with ⟨_, e1⟩ | ⟨_, _, e1, _⟩
      · exact .inl e1
      · exact .inr e1
    · rcases h0 with ⟨_, e0⟩ | ⟨_, _, e0, _⟩
      · exact .inl e0
      · exact .inr e0
  | succ d ih =>
    intro i a b x y hi h1 h0
    have hd := dot_small n w hn hw hl i
    have hpi := prods_at n w i (by omega)
    have go : ∀ (a' b' : Nat) (x' y' : Int), same1 (gp t (prods n w) (i + 1)).1 a' (i + 1) x' → same0 (gp t (prods n w) (i + 1)).2 b' (i + 1) y' → Ev (fun k => spec_l5Parts.l0 k (n : Int) t w (a' : Int) (b' : Int) x' y' ((i + 1 : Nat) : Int)) = Ev (fun k => spec_l5Parts.l0 k (n : Int) t w (a' : Int) (b' : Int) x' y' ((i + 1 : Nat) : Int)) := fun _ _ _ _ _ _ => rfl
    have up1 : ∀ (c : Nat) (v : Int) (z : Int), same1 z c i v → same1 z c (i + 1) v := fun c v z h => by rcases h with h | ⟨q1, q2, q3⟩; exact .inl h; exact .inr ⟨q1, by omega, q3⟩
    have up0 : ∀ (c : Nat) (v : Int) (z : Int), same0 z c i v → same0 z c (i + 1) v := fun c v z h => by rcases h with h | ⟨q1, q2, q3⟩; exact .inl h; exact .inr ⟨q1, by omega, q3⟩
    have pre : ∀ (R : Int × Int × Bool), Ev (fun k => if t.getD i 0 = 1 then (if (a : Int) = 0 then (spec_l5Parts.l0 k (n : Int) t w (((a + 1 : Nat) : Int)) (b : Int) (dot w (bitPt n i)) y (((i + 1 : Nat) : Int))) else (if dot w (bitPt n i) < x then (spec_l5Parts.l0 k (n : Int) t w (((a + 1 : Nat) : Int)) (b : Int) (dot w (bitPt n i)) y (((i + 1 : Nat) : Int))) else (spec_l5Parts.l0 k (n : Int) t w (((a + 1 : Nat) : Int)) (b : Int) x y (((i + 1 : Nat) : Int))))) else (if (b : Int) = 0 then (spec_l5Parts.l0 k (n : Int) t w (a : Int) (((b + 1 : Nat) : Int)) x (dot w (bitPt n i)) (((i + 1 : Nat) : Int))) else (if dot w (bitPt n i) > y then (spec_l5Parts.l0 k (n : Int) t w (a : Int) (((b + 1 : Nat) : Int)) x (dot w (bitPt n i)) (((i + 1 : Nat) : Int))) else (spec_l5Parts.l0 k (n : Int) t w (a : Int) (((b + 1 : Nat) : Int)) x y (((i + 1 : Nat) : Int)))))) R → Ev (fun k => spec_l5Parts.l0 k (n : Int) t w (a : Int) (b : Int) x y (i : Int)) R := by
      intro R h
      have ha : a ≤ i := by rcases h1 with ⟨e, _⟩ | ⟨_, e, _⟩ <;> omega
      have hb : b ≤ i := by rcases h0 with ⟨e, _⟩ | ⟨_, e, _⟩ <;> omega
      refine Ev.step (fun k => spec_l5Parts.l0.eq_2 ..) (evp (by omega) (evb (l2BitPoint n i (by omega) (by omega)) (evb (l2Dot w _ 9 1 (by omega) (by omega) hw (bitPt_in n i) (by omega) (by rw [bitPt_len]; omega)) (evp (by omega) ?_))))
      rw [rd_nat, w64s i (by omega), w64s a (by omega), w64s b (by omega)]
      exact h
    by_cases e : t.getD i 0 = 1
    · have hg1 : (gp t (prods n w) (i + 1)).1 = mn (gp t (prods n w) i).1 (dot w (bitPt n i)) := by simp only [gp, if_pos e, hpi]
      have hg2 : (gp t (prods n w) (i + 1)).2 = (gp t (prods n w) i).2 := by simp only [gp, if_pos e]
      rcases h1 with ⟨rfl, e1⟩ | ⟨c1, c2, e1, b1⟩
      · obtain ⟨x', y', he, h⟩ := ih (i + 1) (0 + 1) b (dot w (bitPt n i)) y (by omega) (by rw [hg1, e1]; refine .inr ⟨by omega, by omega, ?_, hd⟩; unfold mn; rw [if_pos (by omega)]) (by rw [hg2]; exact up0 _ _ _ h0)
        exact ⟨x', y', pre _ (evp e (evp (by omega) he)), h⟩
      · by_cases c : dot w (bitPt n i) < x
        · obtain ⟨x', y', he, h⟩ := ih (i + 1) (a + 1) b (dot w (bitPt n i)) y (by omega) (by rw [hg1, e1]; refine .inr ⟨by omega, by omega, ?_, hd⟩; unfold mn; rw [if_pos c]) (by rw [hg2]; exact up0 _ _ _ h0)
          exact ⟨x', y', pre _ (evp e (evn (by omega) (evp c he))), h⟩
        · obtain ⟨x', y', he, h⟩ := ih (i + 1) (a + 1) b x y (by omega) (by rw [hg1, e1]; refine .inr ⟨by omega, by omega, ?_, b1⟩; unfold mn; rw [if_neg c]) (by rw [hg2]; exact up0 _ _ _ h0)
          exact ⟨x', y', pre _ (evp e (evn (by omega) (evn c he))), h⟩
    · have hg1 : (gp t (prods n w) (i + 1)).1 = (gp t (prods n w) i).1 := by simp only [gp, if_neg e]
      have hg2 : (gp t (prods n w) (i + 1)).2 = mx (gp t (prods n w) i).2 (dot w (bitPt n i)) := by simp only [gp, if_neg e, hpi]
      rcases h0 with ⟨rfl, e0⟩ | ⟨c1, c2, e0, b0⟩
      · obtain ⟨x', y', he, h⟩ := ih (i + 1) a (0 + 1) x (dot w (bitPt n i)) (by omega) (by rw [hg1]; exact up1 _ _ _ h1) (by rw [hg2, e0]; refine .inr ⟨by omega, by omega, ?_, hd⟩; unfold mx; rw [if_pos (by omega)])
        exact ⟨x', y', pre _ (evn e (evp (by omega) he)), h⟩
      · by_cases c : dot w (bitPt n i) > y
        · obtain ⟨x', y', he, h⟩ := ih (i + 1) a (b + 1) x (dot w (bitPt n i)) (by omega) (by rw [hg1]; exact up1 _ _ _ h1) (by rw [hg2, e0]; refine .inr ⟨by omega, by omega, ?_, hd⟩; unfold mx; rw [if_pos (by omega)])
          exact ⟨x', y', pre _ (evn e (evn (by omega) (evp c he))), h⟩
        · obtain ⟨x', y', he, h⟩ := ih (i + 1) a (b + 1) x y (by omega) (by rw [hg1]; exact up1 _ _ _ h1) (by rw [hg2, e0]; refine .inr ⟨by omega, by omega, ?_, b0⟩; unfold mx; rw [if_neg (by omega)])
          exact ⟨x', y', pre _ (evn e (evn (by omega) (evn c he))), h⟩
def gpv (n : Nat) (t w : List Int) : Int × Int := gp t (prods n w) t.length
theorem l5Parts (n : Nat) (hn : n ≤ 4) (t w : List Int) (ht : t.length = 2 ^ n) (hw : ∀ x ∈ w, -9 ≤ x ∧ x ≤ 9) (hl : w.length = n) : ∃ x' y' : Int, Ev (fun k => spec_l5Parts.f k (n : Int) t w) (x', y', decide ((gpv n t w).1 > (gpv n t w).2)) ∧ ((gpv n t w).1 = 1000000000 ∨ (gpv n t w).1 = x') ∧ ((gpv n t w).2 = -1000000000 ∨ (gpv n t w).2 = y') := by
  unfold spec_l5Parts.f
  exact l5Parts_l0 n hn t w ht hw hl t.length 0 0 0 0 0 (by omega) (.inl ⟨rfl, rfl⟩) (.inl ⟨rfl, rfl⟩)

/-! ### impl_leastPlane spec_l5Parts impl_copied -/
/-- The first list of the least size whose products part a table. -/
def pick (n : Nat) (t : List Int) (o : Option (List Int)) (v : List Int) : Option (List Int) :=
  if (o.all fun b => decide (impl_leastPlane.sz v < impl_leastPlane.sz b)) && decide ((gpv n t v).1 > (gpv n t v).2) then some v else o
def lp (n : Nat) (t : List Int) : Option (List Int) := (wts 3 n).foldl (pick n t) none
def bnd (n : Nat) (t v : List Int) : Int := if (gpv n t v).1 = 1000000000 then (gpv n t v).2 + 1 else (gpv n t v).1
def lpS (n : Nat) (t : List Int) : Option (List Int) → List Int × Int × Int
  | none => ([], 0, 1000000000)
  | some v => (v, bnd n t v, impl_leastPlane.sz v)
def okw (n : Nat) (v : List Int) : Prop := v.length = n ∧ ∀ x ∈ v, -9 ≤ x ∧ x ≤ 9
theorem okw_sz {n : Nat} {v : List Int} (hn : n ≤ 4) (h : okw n v) : 0 ≤ impl_leastPlane.sz v ∧ impl_leastPlane.sz v ≤ 36 := by
  have := impl_leastPlane.sz_bd 9 v h.2
  have := h.1
  omega
theorem wts_okw (n : Nat) : ∀ v ∈ wts 3 n, okw n v := fun v hv => ⟨wts_len 3 n v hv, fun x hx => by have := wts_bd 3 n v hv x hx; omega⟩
theorem pick_okw {n : Nat} {t : List Int} {o : Option (List Int)} {v : List Int} (ho : ∀ b, o = some b → okw n b) (hv : okw n v) : ∀ b, pick n t o v = some b → okw n b := by
  intro b h
  unfold pick at h
  split at h
  · cases h; exact hv
  · exact ho b h
theorem gpv_bd {n : Nat} (hn : n ≤ 4) {t v : List Int} (hv : okw n v) : ((gpv n t v).1 = 1000000000 ∨ -36 ≤ (gpv n t v).1 ∧ (gpv n t v).1 ≤ 36) ∧ ((gpv n t v).2 = -1000000000 ∨ -36 ≤ (gpv n t v).2 ∧ (gpv n t v).2 ≤ 36) := by
  refine gp_bd t (prods n v) 36 (by omega) (fun i => ?_) t.length
  by_cases h : i < 2 ^ n
  · rw [prods_at n v i h]; exact dot_small n v hn hv.2 hv.1 i
  · rw [List.getD_eq_getElem?_getD, List.getElem?_eq_none (by rw [prods_len]; omega)]; simp
theorem step_pick (n : Nat) (hn : n ≤ 4) (t : List Int) (ht : t.length = 2 ^ n) (o : Option (List Int)) (v : List Int) (ho : ∀ b, o = some b → okw n b) (hv : okw n v) :
    Ev (fun k => impl_leastPlane.step k t (n : Int) (lpS n t o) v) (lpS n t (pick n t o v)) := by
  have hp := pow4 n hn
  have hz := okw_sz hn hv
  have hg := gpv_bd (t := t) hn hv
  unfold impl_leastPlane.step pick
  by_cases c : impl_leastPlane.sz v ≥ (lpS n t o).2.2
  · refine evp c (evs ?_)
    cases o with
    | none => simp only [lpS] at c; omega
    | some b =>
      simp only [lpS] at c
      rw [show (Option.all (fun b => decide (impl_leastPlane.sz v < impl_leastPlane.sz b)) (some b)) = false by simp; omega, Bool.false_and]; rfl
  · refine evn c (evb (productsOf n hn v hv.2 hv.1) (evb (gap t _ (by rw [prods_len, ht]) (by omega)) ?_))
    have ha : (o.all fun b => decide (impl_leastPlane.sz v < impl_leastPlane.sz b)) = true := by
      cases o with
      | none => rfl
      | some b => simp only [lpS] at c; simp; omega
    rw [ha, Bool.true_and]
    show Ev (fun k => if (gpv n t v).1 ≤ (gpv n t v).2 then _ else _) _
    by_cases c2 : (gpv n t v).1 ≤ (gpv n t v).2
    · exact evp c2 (evs (by rw [decide_eq_false (by omega)]; rfl))
    · refine evn c2 (evb (evc (copied v (by have := hv.1; omega))) (evs ?_))
      rw [decide_eq_true (by omega), if_pos rfl]
      show (v, (if (gpv n t v).1 = 1000000000 then wrap64 ((gpv n t v).2 + 1) else (gpv n t v).1), impl_leastPlane.sz v) = (v, bnd n t v, impl_leastPlane.sz v)
      unfold bnd
      by_cases c3 : (gpv n t v).1 = 1000000000
      · rw [if_pos c3, if_pos c3, w64 (by omega) (by omega)]
      · rw [if_neg c3, if_neg c3]
theorem fold_pick (n : Nat) (hn : n ≤ 4) (t : List Int) (ht : t.length = 2 ^ n) : ∀ (L : List (List Int)) (o : Option (List Int)), (∀ v ∈ L, okw n v) → (∀ b, o = some b → okw n b) →
    Ev (fun k => L.foldlM (impl_leastPlane.step k t (n : Int)) (lpS n t o)) (lpS n t (L.foldl (pick n t) o)) := by
  intro L
  induction L with
  | nil => intro o _ _; exact evs rfl
  | cons v L ih =>
    intro o hL ho
    simp only [List.foldlM_cons, List.foldl_cons]
    exact evb (step_pick n hn t ht o v ho (hL v (by simp))) (ih _ (fun x hx => hL x (by simp [hx])) (pick_okw ho (hL v (by simp))))
theorem fold_okw (n : Nat) (t : List Int) : ∀ (L : List (List Int)) (o : Option (List Int)), (∀ v ∈ L, okw n v) → (∀ b, o = some b → okw n b) → ∀ b, L.foldl (pick n t) o = some b → okw n b := by
  intro L
  induction L with
  | nil => intro o _ ho; exact ho
  | cons v L ih => intro o hL ho; exact ih _ (fun x hx => hL x (by simp [hx])) (pick_okw ho (hL v (by simp)))
theorem lp_okw (n : Nat) (t : List Int) : ∀ b, lp n t = some b → okw n b := fold_okw n t _ _ (wts_okw n) (fun b h => by cases h)
theorem leastPlane (n : Nat) (hn : n ≤ 4) (t : List Int) (ht : t.length = 2 ^ n) : Ev (fun k => impl_leastPlane.f k (n : Int) t) ((lpS n t (lp n t)).1, (lpS n t (lp n t)).2.1, (lpS n t (lp n t)).2.2, (lp n t).isSome) := by
  unfold impl_leastPlane.f
  refine evp (by omega) ?_
  rw [Int.toNat_natCast]
  refine evb (fold_pick n hn t ht (wts 3 n) none (wts_okw n) (fun b h => by cases h)) (evs ?_)
  show ((lpS n t (lp n t)).1, (lpS n t (lp n t)).2.1, (lpS n t (lp n t)).2.2, _) = _
  have : decide ((lpS n t (lp n t)).2.2 < 1000000000) = (lp n t).isSome := by
    cases h : lp n t with
    | none => simp [lpS]
    | some v => have := okw_sz hn (lp_okw n t v h); exact decide_eq_true (show impl_leastPlane.sz v < 1000000000 by omega)
  exact congrArg (fun b => ((lpS n t (lp n t)).1, (lpS n t (lp n t)).2.1, (lpS n t (lp n t)).2.2, b)) this
theorem isTab_len' {n : Int} {l : List Int} (h : isTab n l = true) : ∃ m : Nat, n = m ∧ m ≤ 4 ∧ l.length = 2 ^ m ∧ l.length ≤ 16 := by
  obtain ⟨h1, h2, _⟩ := (isTab_iff n l).1 h
  refine ⟨n.toNat, by omega, by omega, h2, ?_⟩
  have := pow4 n.toNat (by omega)
  omega

/-! ### spec_l5Least spec_l5Weights spec_l5Parts spec_l5Size impl_leastPlane -/
theorem l5Least_l0 (n : Nat) (hn : n ≤ 4) (t : List Int) (ht : t.length = 2 ^ n) (L : List (List Int)) (hL : ∀ v ∈ L, okw n v) (hLL : L.length ≤ 100000) : ∀ (d i : Nat) (o : Option (List Int)), i + d = L.length → (∀ b, o = some b → okw n b) →
    Ev (fun k => spec_l5Least.l0 k (n : Int) t L (o.getD []) o.isSome (i : Int)) (((L.drop i).foldl (pick n t) o).getD [], ((L.drop i).foldl (pick n t) o).isSome) := by
  intro d
  induction d with
  | zero =>
    intro i o hi ho
    refine Ev.step (fun k => spec_l5Least.l0.eq_2 ..) (evn (by omega) (evs ?_))
    rw [List.drop_of_length_le (show L.length ≤ i by omega)]; rfl
  | succ d ih =>
    intro i o hi ho
    have hv := hL _ (rdl_mem L i (by omega))
    rw [rdl_drop L i (by omega), List.foldl_cons]
    have skip : pick n t o (rdl L i) = o → Ev (fun k => spec_l5Least.l0 k (n : Int) t L (o.getD []) o.isSome (((i + 1 : Nat) : Int))) (((L.drop (i + 1)).foldl (pick n t) (pick n t o (rdl L i))).getD [], ((L.drop (i + 1)).foldl (pick n t) (pick n t o (rdl L i))).isSome) := fun e => by
      rw [e]; exact ih (i + 1) o (by omega) ho
    have take : pick n t o (rdl L i) = some (rdl L i) → Ev (fun k => spec_l5Least.l0 k (n : Int) t L (rdl L i) true (((i + 1 : Nat) : Int))) (((L.drop (i + 1)).foldl (pick n t) (pick n t o (rdl L i))).getD [], ((L.drop (i + 1)).foldl (pick n t) (pick n t o (rdl L i))).isSome) := fun e => by
      rw [e]; exact ih (i + 1) (some (rdl L i)) (by omega) (fun b h => by cases h; exact hv)
    obtain ⟨x', y', hpa, _⟩ := l5Parts n hn t (rdl L i) ht hv.2 hv.1
    have tail : (o.all fun b => decide (impl_leastPlane.sz (rdl L i) < impl_leastPlane.sz b)) = true → Ev (fun k => spec_l5Least.j1 k (n : Int) t L (o.getD []) o.isSome (i : Int) false) (((L.drop (i + 1)).foldl (pick n t) (pick n t o (rdl L i))).getD [], ((L.drop (i + 1)).foldl (pick n t) (pick n t o (rdl L i))).isSome) := by
      intro ha
      refine Ev.step (fun k => spec_l5Least.j1.eq_2 ..) (evn (by simp) (evp (by omega) (evp (by omega) ?_)))
      rw [rdL_w, w64s i (by omega)]
      refine evb hpa ?_
      by_cases c : (gpv n t (rdl L i)).1 > (gpv n t (rdl L i)).2
      · exact evp (by simp [c]) (take (by unfold pick; rw [ha, decide_eq_true c]; rfl))
      · exact evn (by simp; omega) (skip (by unfold pick; rw [decide_eq_false c, Bool.and_false]; rfl))
    refine Ev.step (fun k => spec_l5Least.l0.eq_2 ..) (evp (by omega) ?_)
    cases o with
    | none => exact evn (by simp) (tail rfl)
    | some b =>
      have hb := ho b rfl
      refine evp rfl (evp (by omega) ?_)
      rw [rdL_w]
      refine evb (l5Size _ hv.2 (by have := hv.1; omega)) (evb (l5Size _ (by simpa using hb.2) (by have := hb.1; simp; omega)) ?_)
      simp only [Option.getD_some]
      by_cases c : impl_leastPlane.sz (rdl L i) ≥ impl_leastPlane.sz b
      · rw [decide_eq_true c]
        refine Ev.step (fun k => spec_l5Least.j1.eq_2 ..) (evp rfl ?_)
        rw [w64s i (by omega)]
        exact skip (by unfold pick; rw [show (Option.all (fun b => decide (impl_leastPlane.sz (rdl L i) < impl_leastPlane.sz b)) (some b)) = false by simp; omega, Bool.false_and]; rfl)
      · rw [decide_eq_false c]
        exact tail (by simp; omega)
theorem l5Least (n : Nat) (hn : n ≤ 4) (t : List Int) (ht : t.length = 2 ^ n) : Ev (fun k => spec_l5Least.f k (n : Int) t) ((lp n t).getD [], (lp n t).isSome) := by
  unfold spec_l5Least.f
  refine evb (l5Weights n hn) ?_
  have := l5Least_l0 n hn t ht (wts 3 n) (wts_okw n) (wts_small n hn) (wts 3 n).length 0 none (by omega) (fun b h => by cases h)
  simpa [lp] using this

/-! ### spec_LeastPlane spec_l5Plane spec_l5Least spec_l5Parts spec_l1Has -/
theorem l1Has_l0 (l : List Int) (x : Int) (hl : l.length ≤ 1048576) : ∀ (d i : Nat), i + d = l.length → Ev (fun k => spec_l1Has.l0 k l x (i : Int)) ((l.drop i).contains x) := by
  intro d
  induction d with
  | zero =>
    intro i hi
    refine Ev.step (fun k => spec_l1Has.l0.eq_2 ..) (evn (by omega) (evs ?_))
    rw [List.drop_of_length_le (by omega)]; rfl
  | succ d ih =>
    intro i hi
    have e : l.drop i = l.getD i 0 :: l.drop (i + 1) := by
      rw [List.drop_eq_getElem_cons (by omega)]; simp [List.getD_eq_getElem?_getD, List.getElem?_eq_getElem (show i < l.length by omega)]
    refine Ev.step (fun k => spec_l1Has.l0.eq_2 ..) (evp (by omega) (evp (by omega) ?_))
    rw [rd_nat, w64s i (by omega), e, List.contains_cons]
    by_cases c : l.getD i 0 = x
    · exact evp c (evs (by rw [c]; simp))
    · refine evn c (evr (ih (i + 1) (by omega)) ?_)
      rw [show (x == l.getD i 0) = false from beq_eq_false_iff_ne.mpr (fun h => c h.symm), Bool.false_or]
theorem l1Has (l : List Int) (x : Int) (hl : l.length ≤ 1048576) : Ev (fun k => spec_l1Has.f k l x) (l.contains x) := by
  unfold spec_l1Has.f
  exact l1Has_l0 l x hl l.length 0 (by omega)
theorem gp_no (t p : List Int) : ∀ i, i ≤ t.length → (∀ j, j < i → t.getD j 0 ≠ 1) → (gp t p i).1 = 1000000000 := by
  intro i
  induction i with
  | zero => intro _ _; rfl
  | succ i ih =>
    intro hi h
    simp only [gp, if_neg (h i (by omega))]
    exact ih (by omega) (fun j hj => h j (by omega))
theorem gp_one (t p : List Int) (hp : ∀ i, -36 ≤ p.getD i 0 ∧ p.getD i 0 ≤ 36) : ∀ i, (∃ j, j < i ∧ t.getD j 0 = 1) → (gp t p i).1 ≠ 1000000000 := by
  intro i
  induction i with
  | zero => rintro ⟨j, hj, _⟩; omega
  | succ i ih =>
    rintro ⟨j, hj, e⟩
    have h1 := hp i
    have h2 := gp_bd t p 36 (by omega) hp i
    simp only [gp]
    by_cases c : t.getD i 0 = 1
    · rw [if_pos c]
      simp only [mn]
      split <;> omega
    · rw [if_neg c]
      exact ih ⟨j, by rcases Nat.lt_or_ge j i with h | h; exact h; exact absurd e (by rw [show j = i by omega]; exact c), e⟩
theorem gp_none (t p : List Int) (hp : ∀ i, -36 ≤ p.getD i 0 ∧ p.getD i 0 ≤ 36) (h0 : 0 < t.length) (h : ∀ j, j < t.length → t.getD j 0 ≠ 1) : (gp t p t.length).2 ≠ -1000000000 := by
  have : ∀ i, 0 < i → i ≤ t.length → -36 ≤ (gp t p i).2 := by
    intro i
    induction i with
    | zero => intro h; omega
    | succ i ih =>
      intro _ hi
      have h1 := hp i
      simp only [gp, if_neg (h i (by omega)), mx]
      split
      · omega
      · rcases Nat.eq_zero_or_pos i with rfl | hi0
        · rename_i c; simp only [gp] at c; omega
        · exact ih hi0 (by omega)
  have := this t.length h0 (Nat.le_refl _)
  omega
def planeV (n : Int) (l : List Int) : List Int × Int × Bool := if isTab n l = true ∧ n ≠ 0 then (match lp n.toNat l with | some v => (v, bnd n.toNat l v, true) | none => ([], 0, false)) else ([], 0, false)
theorem planeV_len (n : Int) (l : List Int) : (planeV n l).1.length ≤ 4 := by
  unfold planeV
  split
  · rename_i e
    obtain ⟨m, rfl, hm, _⟩ := isTab_len' e.1
    cases h : lp m l with
    | none => simp [h]
    | some v => have := (lp_okw m l v h).1; simp [h]; omega
  · simp
theorem l5Plane (n : Nat) (hn : n ≤ 4) (t : List Int) (ht : t.length = 2 ^ n) : Ev (fun k => spec_l5Plane.f k (n : Int) t) (match lp n t with | some v => (v, bnd n t v, true) | none => ([], 0, false)) := by
  have hp := pow4 n hn
  unfold spec_l5Plane.f
  refine evb (l5Least n hn t ht) ?_
  cases h : lp n t with
  | none => exact evn (by simp) (evs rfl)
  | some v =>
    have hv := lp_okw n t v h
    obtain ⟨x', y', hpa, hx, hy⟩ := l5Parts n hn t v ht hv.2 hv.1
    have hg := gpv_bd (t := t) hn hv
    have hpr : ∀ i, -36 ≤ (prods n v).getD i 0 ∧ (prods n v).getD i 0 ≤ 36 := fun i => by
      by_cases h : i < 2 ^ n
      · rw [prods_at n v i h]; exact dot_small n v hn hv.2 hv.1 i
      · rw [List.getD_eq_getElem?_getD, List.getElem?_eq_none (by rw [prods_len]; omega)]; simp
    refine evp rfl (evb hpa (evb (l1Has t 1 (by omega)) ?_))
    by_cases c : t.contains 1 = true
    · have h1 : (gpv n t v).1 ≠ 1000000000 := by
        refine gp_one t (prods n v) hpr t.length ?_
        have hm : (1 : Int) ∈ t := by simpa using c
        obtain ⟨j, hj, e⟩ := List.getElem_of_mem hm
        exact ⟨j, hj, by rw [List.getD_eq_getElem?_getD, List.getElem?_eq_getElem hj]; exact e⟩
      refine evp c (evs ?_)
      rcases hx with hx | hx
      · exact absurd hx h1
      · simp only [Option.getD_some]; rw [show bnd n t v = x' by unfold bnd; rw [if_neg h1]; exact hx]
    · have hno : ∀ j, j < t.length → t.getD j 0 ≠ 1 := by
        intro j hj e
        apply c
        rw [List.getD_eq_getElem?_getD, List.getElem?_eq_getElem hj] at e
        have : (1 : Int) ∈ t := e ▸ List.getElem_mem hj
        simpa using this
      have h1 : (gpv n t v).1 = 1000000000 := gp_no t (prods n v) t.length (Nat.le_refl _) hno
      have h2 : (gpv n t v).2 ≠ -1000000000 := gp_none t (prods n v) hpr (by omega) hno
      refine evn c (evs ?_)
      rcases hy with hy | hy
      · exact absurd hy h2
      · simp only [Option.getD_some]
        rw [show bnd n t v = y' + 1 by unfold bnd; rw [if_pos h1, hy], w64 (by omega) (by omega)]
theorem sPlane (n : Int) (l : List Int) (hl : l.length ≤ 1048576) : Ev (fun k => spec_LeastPlane.f k n l) (planeV n l) := by
  unfold spec_LeastPlane.f planeV
  refine evb (l2Table n l (by omega)) ?_
  by_cases e : isTab n l = true
  · obtain ⟨m, rfl, hm, hlen, _⟩ := isTab_len' e
    refine evp e ?_
    by_cases h0 : (m : Int) = 0
    · exact evp h0 (evs (by rw [if_neg (by simp [h0])]))
    · refine evn h0 (evb (l5Plane m hm l hlen) (evs ?_))
      rw [if_pos ⟨e, h0⟩, Int.toNat_natCast]
  · exact evn e (evs (by rw [if_neg (fun h => e h.1)]))

/-! ### impl_LeastPlane spec_LeastPlane -/
theorem iPlane (n : Int) (l : List Int) (hl : l.length ≤ 1048576) : Ev (fun k => impl_LeastPlane.f k n l) (planeV n l) := by
  unfold impl_LeastPlane.f
  by_cases h0 : n = 0
  · refine evp h0 (Ev.step (fun k => impl_LeastPlane.j0.eq_2 ..) (evp rfl (evs ?_)))
    unfold planeV
    rw [if_neg (fun h => h.2 h0)]
  · refine evn h0 (evb (isTable n l (by omega)) ?_)
    by_cases e : isTab n l = true
    · obtain ⟨m, rfl, hm, hlen, _⟩ := isTab_len' e
      refine Ev.step (fun k => impl_LeastPlane.j0.eq_2 ..) (evn (by simp [e]) (evb (leastPlane m hm l hlen) ?_))
      rw [show planeV (m : Int) l = (match lp m l with | some v => (v, bnd m l v, true) | none => ([], 0, false)) by unfold planeV; rw [if_pos ⟨e, h0⟩, Int.toNat_natCast]]
      cases h : lp m l with
      | none => exact evn (by simp) (evs rfl)
      | some v => exact evp rfl (evs rfl)
    · exact Ev.step (fun k => impl_LeastPlane.j0.eq_2 ..) (evp (by simp [e]) (evs (by unfold planeV; rw [if_neg (fun h => e h.1)])))

/-! ### laws_FnExactLeastPlane -/
theorem law (n : Int) (l : List Int) : Ev (fun k => laws_FnExactLeastPlane.f k n l) true := by
  unfold laws_FnExactLeastPlane.f
  by_cases h : (l.length : Int) > 1048576
  · exact evp h (evs rfl)
  refine evn h ?_
  have hs := sPlane n l (by omega)
  have hi := iPlane n l (by omega)
  have hb := planeV_len n l
  generalize planeV n l = R at *
  repeat (first
    | exact evs rfl
    | dsimp only
    | (with_reducible refine evb hs ?_)
    | (with_reducible refine evb hi ?_)
    | ((with_reducible refine evb (toIntS _ ?_) ?_); (focus (first | omega | assumption)))
    | ((with_reducible refine evb (eqIntS _ _ ?_) ?_); (focus (first | omega | assumption)))
    | ((with_reducible refine evb (markIntS _ _ ?_ ?_) ?_); (focus (first | omega | assumption)); (focus (first | omega | assumption)))
    | ((with_reducible refine evb (heldIntS _ _ ?_ ?_) ?_); (focus (first | omega | assumption)); (focus (first | omega | assumption)))
    | ((with_reducible refine evb (eqPlane _ _ _ _ ?_) ?_); (focus (first | omega | assumption)))
    | ((with_reducible refine evb (markPlane _ _ _ ?_ ?_) ?_); (focus (first | omega | assumption)); (focus (first | omega | assumption)))
    | ((with_reducible refine evb (heldPlane _ _ _ ?_ ?_) ?_); (focus (first | omega | assumption)); (focus (first | omega | assumption)))
    | (refine evp ?_ ?_; focus (first | omega | (simp; done)))
    | (refine evn ?_ ?_; focus (first | omega | (simp; done)))
    | (with_reducible refine Ev.step (fun k => laws_FnExactLeastPlane.j0.eq_2 ..) ?_)
    | (with_reducible refine Ev.step (fun k => laws_FnExactLeastPlane.j1.eq_2 ..) ?_)
    | (with_reducible refine Ev.step (fun k => laws_FnExactLeastPlane.j2.eq_2 ..) ?_)
    )

end Go.Proofs.Ythfkgbkhkahmdaa.LFnExactLeastPlane
