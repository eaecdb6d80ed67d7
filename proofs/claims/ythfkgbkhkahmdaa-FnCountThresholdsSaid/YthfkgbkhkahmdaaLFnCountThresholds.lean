/- Own lemmas: what the printed functions of one law come to. -/
import Derived.Test.YthfkgbkhkahmdaaMFnCountThresholdsx5
import Derived.Test.YthfkgbkhkahmdaaBase
namespace Go.Proofs.Ythfkgbkhkahmdaa.LFnCountThresholds
open Go Go.RowKit Go.Proofs.Ythfkgbkhkahmdaa.Base Go.Proofs.Ythfkgbkhkahmdaa.PFnCountThresholds Go.Proofs.YthfkgbkhkahmdaaW.PrintWords Go.Proofs.YthfkgbkhkahmdaaW.PrintLast Go.Proofs.YthfkgbkhkahmdaaW.PrintMore
set_option linter.unusedVariables false
set_option linter.unusedSimpArgs false
set_option maxRecDepth 4000

/-! ### spec_l1In -/
theorem l1In (a b c : Int) : spec_l1In.f a b c = some (decide (b ≤ a ∧ a ≤ c)) := by
  unfold spec_l1In.f; split <;> simp_all <;> omega

/-! ### impl_within -/
theorem within (a b c : Int) : impl_within.f a b c = some (decide (b ≤ a ∧ a ≤ c)) := by
  unfold impl_within.f; split <;> simp_all <;> omega

/-! ### impl_allWithin -/
theorem allWithin_l0 (lo up : Int) (l : List Int) (hx : l.length < 4611686018427387904) : ∀ (d i : Nat), i + d = l.length →
    Ev (fun k => impl_allWithin.l0 k lo up l (l.length : Int) (i : Int)) ((l.drop i).all fun x => decide (lo ≤ x ∧ x ≤ up)) := by
  intro d
  induction d with
  | zero =>
    intro i hi
    refine Ev.step (fun k => impl_allWithin.l0.eq_2 ..) (evn (by omega) (evs ?_))
    simp [List.drop_of_length_le (show l.length ≤ i by omega)]
  | succ d ih =>
    intro i hi
    refine Ev.step (fun k => impl_allWithin.l0.eq_2 ..) (evp (by omega) (evp (by omega) (evp (by omega) ?_)))
    rw [w64s i (by omega), rd_nat, within, List.drop_eq_getElem_cons (show i < l.length by omega)]
    simp only [List.getD_eq_getElem?_getD, List.getElem?_eq_getElem (show i < l.length by omega), Option.getD_some, Option.bind_some, List.all_cons]
    by_cases e : lo ≤ l[i] ∧ l[i] ≤ up
    · refine evp (by simpa using e) (evr (ih (i + 1) (by omega)) (by simp [e]))
    · refine evn (by simpa using e) (evs (by simp [e]))
theorem allWithin (l : List Int) (lo up : Int) (hx : l.length < 4611686018427387904) : Ev (fun k => impl_allWithin.f k l lo up) (l.all fun x => decide (lo ≤ x ∧ x ≤ up)) := by
  unfold impl_allWithin.f
  exact allWithin_l0 lo up l hx l.length 0 (by omega)

/-! ### impl_isTable -/
theorem isTable (n : Int) (l : List Int) (hx : l.length < 4611686018427387904) : Ev (fun k => impl_isTable.f k n l) (isTab n l) := by
  unfold impl_isTable.f isTab
  rw [within]
  simp only [Option.bind_some]
  by_cases h : 0 ≤ n ∧ n ≤ 4
  · obtain ⟨m, rfl⟩ := Int.eq_ofNat_of_zero_le h.1
    refine evp (by simpa using h) (evp h.1 ?_)
    rw [shl1 m (by omega)]
    by_cases e : l.length = 2 ^ m
    · refine evp (by exact_mod_cast e) (evb (allWithin l 0 1 hx) (evs (by simp [e]; omega)))
    · refine evn (by exact_mod_cast e) (evs (by simp [e]))
  · refine evn (by simpa using h) (evs (by simp [h]))

/-! ### impl_sameSum -/
theorem sameSum (a b c d : Nat) (ha : a < 2 ^ 63) (hb : b < 2 ^ 63) (hc : c < 2 ^ 63) (hd : d < 2 ^ 63) :
    impl_sameSum.f (a : Int) (b : Int) (c : Int) (d : Int) = some (decide (a &&& b = c &&& d) && decide (a ||| b = c ||| d)) := by
  unfold impl_sameSum.f
  rw [and_nat a b ha hb, and_nat c d hc hd, or_nat a b ha hb, or_nat c d hc hd]
  by_cases e : a &&& b = c &&& d
  · rw [if_pos (by rw [e]), decide_eq_true e, Bool.true_and]
    by_cases e' : a ||| b = c ||| d
    · simp [e']
    · rw [decide_eq_false e']; congr 1; simp only [beq_eq_false_iff_ne, ne_eq]; omega
  · rw [if_neg (by omega), decide_eq_false e, Bool.false_and]

/-! ### impl_FindTrade -/
def finI (r : Option (List Int)) : List Int × Bool := (r.getD [], r.isSome)
theorem iFind_l3 {m : Nat} {l : List Int} (h : Tab m l) (x x' : Int) (a b c : Nat) (ha : a < l.length) (hb : b < l.length) (hc : c < l.length) (r : Option (List Int))
    (hr : Ev (fun k => impl_FindTrade.l2 k l (l.length : Int) (a : Int) (b : Int) x x' (l.length : Int) ((c + 1 : Nat) : Int)) (finI r)) : ∀ (n d : Nat), d + n = l.length →
    Ev (fun k => impl_FindTrade.l3 k l (l.length : Int) (a : Int) (b : Int) (c : Int) (d : Int) x x' (l.length : Int) (c : Int)) (finI (s3 l a b c d n r)) := by
  have hlen := h.len
  intro n
  induction n with
  | zero =>
    intro d hd
    refine Ev.step (fun k => impl_FindTrade.l3.eq_2 ..) (evn (by omega) ?_)
    rw [w64s c (by omega)]
    exact hr
  | succ n ih =>
    intro d hd
    have p1 := h.at_ a; have p2 := h.at_ b; have p3 := h.at_ c; have p4 := h.at_ d
    refine Ev.step (fun k => impl_FindTrade.l3.eq_2 ..) (evp (by omega) (evp (by omega) (evp (by omega) (evp (by omega) (evp (by omega) ?_)))))
    rw [rd_nat, rd_nat, rd_nat, rd_nat, w64s d (by omega), w64 (x := l.getD a 0 + l.getD b 0) (by omega) (by omega), w64 (x := l.getD c 0 + l.getD d 0) (by omega) (by omega)]
    have no : tcond l a b c d = false → Ev (fun k => impl_FindTrade.l3 k l (l.length : Int) (a : Int) (b : Int) (c : Int) ((d + 1 : Nat) : Int) x x' (l.length : Int) (c : Int)) (finI (s3 l a b c d (n + 1) r)) := by
      intro e
      refine evr (ih (d + 1) (by omega)) ?_
      simp only [s3]; rw [if_neg (by simp [e])]
    by_cases e1 : l.getD a 0 + l.getD b 0 = 2
    · refine evp e1 (evp (by omega) (evp (by omega) (evp (by omega) (evp (by omega) ?_))))
      by_cases e2 : l.getD c 0 + l.getD d 0 = 0
      · refine evp e2 ?_
        rw [sameSum a b c d (by omega) (by omega) (by omega) (by omega)]
        simp only [Option.bind_some]
        by_cases e3 : (decide (a &&& b = c &&& d) && decide (a ||| b = c ||| d)) = true
        · refine evp e3 (evs ?_)
          simp only [s3]; rw [if_pos (by unfold tcond; rw [decide_eq_true e1, decide_eq_true e2, e3]; rfl)]; rfl
        · exact evn e3 (no (by unfold tcond; rw [decide_eq_true e1, decide_eq_true e2]; simpa using e3))
      · exact evn e2 (no (by unfold tcond; rw [decide_eq_false e2]; simp))
    · exact evn e1 (no (by unfold tcond; rw [decide_eq_false e1]; simp))
theorem iFind_l2 {m : Nat} {l : List Int} (h : Tab m l) (x x' : Int) (a b : Nat) (hx' : x' = (a : Int)) (ha : a < l.length) (hb : b < l.length) (r : Option (List Int))
    (hr : Ev (fun k => impl_FindTrade.l1 k l (l.length : Int) (a : Int) ((b + 1 : Nat) : Int) x x') (finI r)) : ∀ (n c : Nat), c + n = l.length →
    Ev (fun k => impl_FindTrade.l2 k l (l.length : Int) (a : Int) (b : Int) x x' (l.length : Int) (c : Int)) (finI (s2 l a b c n r)) := by
  have hlen := h.len
  intro n
  induction n with
  | zero =>
    intro c hc
    refine Ev.step (fun k => impl_FindTrade.l2.eq_2 ..) (evn (by omega) ?_)
    rw [w64s b (by omega)]
    exact hr
  | succ n ih =>
    intro c hc
    refine Ev.step (fun k => impl_FindTrade.l2.eq_2 ..) (evp (by omega) ?_)
    exact iFind_l3 h x x' a b c ha hb (by omega) _ (ih (c + 1) (by omega)) (l.length - c) c (by omega)
theorem iFind_l1 {m : Nat} {l : List Int} (h : Tab m l) (a : Nat) (ha : a < l.length) (r : Option (List Int))
    (hr : Ev (fun k => impl_FindTrade.l0 k l (l.length : Int) (l.length : Int) ((a + 1 : Nat) : Int)) (finI r)) : ∀ (n b : Nat), b + n = l.length →
    Ev (fun k => impl_FindTrade.l1 k l (l.length : Int) (a : Int) (b : Int) (l.length : Int) (a : Int)) (finI (s1 l a b n r)) := by
  have hlen := h.len
  intro n
  induction n with
  | zero =>
    intro b hb
    refine Ev.step (fun k => impl_FindTrade.l1.eq_2 ..) (evn (by omega) ?_)
    rw [w64s a (by omega)]
    exact hr
  | succ n ih =>
    intro b hb
    refine Ev.step (fun k => impl_FindTrade.l1.eq_2 ..) (evp (by omega) ?_)
    exact iFind_l2 h _ _ a b rfl ha (by omega) _ (ih (b + 1) (by omega)) l.length 0 (by omega)
theorem iFind_l0 {m : Nat} {l : List Int} (h : Tab m l) : ∀ (n a : Nat), a + n = l.length →
    Ev (fun k => impl_FindTrade.l0 k l (l.length : Int) (l.length : Int) (a : Int)) (finI (s0 l a n)) := by
  intro n
  induction n with
  | zero =>
    intro a ha
    exact Ev.step (fun k => impl_FindTrade.l0.eq_2 ..) (evn (by omega) (evs rfl))
  | succ n ih =>
    intro a ha
    refine Ev.step (fun k => impl_FindTrade.l0.eq_2 ..) (evp (by omega) ?_)
    exact iFind_l1 h a (by omega) _ (ih (a + 1) (by omega)) (l.length - a) a (by omega)
theorem iFind (n : Int) (l : List Int) (hx : l.length < 4611686018427387904) : Ev (fun k => impl_FindTrade.f k n l) (trade n l) := by
  unfold impl_FindTrade.f trade
  refine evb (isTable n l hx) ?_
  by_cases e : isTab n l = true
  · obtain ⟨m, rfl, h⟩ := isTab_tab e
    refine evp e (evr (iFind_l0 h l.length 0 (by omega)) ?_)
    rw [if_pos e]; rfl
  · refine evn e (evs (by simp [e]))

/-! ### spec_l1Own -/
theorem l1Own (l : List Int) (h : l.length < 17592186044416) : spec_l1Own.f l = some l := by
  unfold spec_l1Own.f
  simp only [Option.bind_some]
  rw [if_pos (by simpa using h)]; rfl

/-! ### spec_l2Dot -/
theorem l2Dot_l0 (a b : List Int) (M : Int) (hM : 0 ≤ M ∧ M ≤ 1000000000000) (hab : ∀ i, -M ≤ a.getD i 0 * b.getD i 0 ∧ a.getD i 0 * b.getD i 0 ≤ M) (hl : a.length ≤ 1000) (hb : a.length ≤ b.length) : ∀ (d i : Nat) (s : Int), i + d = a.length → -(M * i) ≤ s → s ≤ M * i →
    Ev (fun k => spec_l2Dot.l0 k a b s (i : Int)) (s + dot (a.drop i) (b.drop i)) := by
  intro d
  induction d with
  | zero =>
    intro i s hi h0 hs
    exact Ev.step (fun k => spec_l2Dot.l0.eq_2 ..) (evn (by omega) (evs (by rw [List.drop_of_length_le (show a.length ≤ i by omega)]; simp [dot])))
  | succ d ih =>
    intro i s hi h0 hs
    have hm := hab i
    have hMi : M * (i : Int) ≤ 1000000000000 * 1000 := Int.mul_le_mul hM.2 (by omega) (by omega) (by omega)
    have hMs : M * ((i + 1 : Nat) : Int) = M * i + M := by rw [show ((i + 1 : Nat) : Int) = (i : Int) + 1 by omega, Int.mul_add]; omega
    refine Ev.step (fun k => spec_l2Dot.l0.eq_2 ..) (evp (by omega) (evp (by omega) (evp (by omega) ?_)))
    rw [rd_nat, rd_nat, w64s i (by omega), w64 (x := a.getD i 0 * b.getD i 0) (by omega) (by omega), w64 (x := s + a.getD i 0 * b.getD i 0) (by omega) (by omega)]
    refine evr (ih (i + 1) _ (by omega) (by omega) (by omega)) ?_
    rw [List.drop_eq_getElem_cons (show i < a.length by omega), List.drop_eq_getElem_cons (show i < b.length by omega)]
    simp only [List.getD_eq_getElem?_getD, List.getElem?_eq_getElem (show i < a.length by omega), List.getElem?_eq_getElem (show i < b.length by omega), Option.getD_some, dot]; omega
theorem getD_in {l : List Int} {A : Int} (hA : 0 ≤ A) (h : ∀ x ∈ l, -A ≤ x ∧ x ≤ A) (i : Nat) : -A ≤ l.getD i 0 ∧ l.getD i 0 ≤ A := by
  by_cases hi : i < l.length
  · rw [List.getD_eq_getElem?_getD, List.getElem?_eq_getElem hi]; exact h _ (List.getElem_mem hi)
  · rw [List.getD_eq_getElem?_getD, List.getElem?_eq_none (by omega)]; simp; omega
theorem l2Dot (a b : List Int) (A B : Int) (hA : 0 ≤ A ∧ A ≤ 1000000) (hB : 0 ≤ B ∧ B ≤ 1000000) (ha : ∀ x ∈ a, -A ≤ x ∧ x ≤ A) (hb : ∀ x ∈ b, -B ≤ x ∧ x ≤ B) (hl : a.length ≤ 1000) (hab : a.length ≤ b.length) : Ev (fun k => spec_l2Dot.f k a b) (dot a b) := by
  unfold spec_l2Dot.f
  have hM : A * B ≤ 1000000 * 1000000 := Int.mul_le_mul hA.2 hB.2 hB.1 (by omega)
  have hM0 := Int.mul_nonneg hA.1 hB.1
  exact evr (l2Dot_l0 a b (A * B) ⟨hM0, by omega⟩ (fun i => mul_bd (getD_in hA.1 ha i) (getD_in hB.1 hb i)) hl hab a.length 0 0 (by omega) (by simp) (by simp)) (by simp)

/-! ### impl_product -/
theorem product_l0 (a b : List Int) (M : Int) (hM : 0 ≤ M ∧ M ≤ 1000000000000) (hab : ∀ i, -M ≤ a.getD i 0 * b.getD i 0 ∧ a.getD i 0 * b.getD i 0 ≤ M) (hl : a.length ≤ 1000) (hb : a.length ≤ b.length) : ∀ (d i : Nat) (s : Int), i + d = a.length → -(M * i) ≤ s → s ≤ M * i →
    Ev (fun k => impl_product.l0 k b s a (a.length : Int) (i : Int)) (s + dot (a.drop i) (b.drop i)) := by
  intro d
  induction d with
  | zero =>
    intro i s hi h0 hs
    exact Ev.step (fun k => impl_product.l0.eq_2 ..) (evn (by omega) (evs (by rw [List.drop_of_length_le (show a.length ≤ i by omega)]; simp [dot])))
  | succ d ih =>
    intro i s hi h0 hs
    have hm := hab i
    have hMi : M * (i : Int) ≤ 1000000000000 * 1000 := Int.mul_le_mul hM.2 (by omega) (by omega) (by omega)
    have hMs : M * ((i + 1 : Nat) : Int) = M * i + M := by rw [show ((i + 1 : Nat) : Int) = (i : Int) + 1 by omega, Int.mul_add]; omega
    refine Ev.step (fun k => impl_product.l0.eq_2 ..) (evp (by omega) (evp (by omega) (evp (by omega) (evp (by omega) ?_))))
    rw [rd_nat, rd_nat, w64s i (by omega), w64 (x := a.getD i 0 * b.getD i 0) (by omega) (by omega), w64 (x := s + a.getD i 0 * b.getD i 0) (by omega) (by omega)]
    refine evr (ih (i + 1) _ (by omega) (by omega) (by omega)) ?_
    rw [List.drop_eq_getElem_cons (show i < a.length by omega), List.drop_eq_getElem_cons (show i < b.length by omega)]
    simp only [List.getD_eq_getElem?_getD, List.getElem?_eq_getElem (show i < a.length by omega), List.getElem?_eq_getElem (show i < b.length by omega), Option.getD_some, dot]; omega
theorem getD_in' {l : List Int} {A : Int} (hA : 0 ≤ A) (h : ∀ x ∈ l, -A ≤ x ∧ x ≤ A) (i : Nat) : -A ≤ l.getD i 0 ∧ l.getD i 0 ≤ A := by
  by_cases hi : i < l.length
  · rw [List.getD_eq_getElem?_getD, List.getElem?_eq_getElem hi]; exact h _ (List.getElem_mem hi)
  · rw [List.getD_eq_getElem?_getD, List.getElem?_eq_none (by omega)]; simp; omega
theorem product (a b : List Int) (A B : Int) (hA : 0 ≤ A ∧ A ≤ 1000000) (hB : 0 ≤ B ∧ B ≤ 1000000) (ha : ∀ x ∈ a, -A ≤ x ∧ x ≤ A) (hb : ∀ x ∈ b, -B ≤ x ∧ x ≤ B) (hl : a.length ≤ 1000) (hab : a.length ≤ b.length) : Ev (fun k => impl_product.f k a b) (dot a b) := by
  unfold impl_product.f
  have hM : A * B ≤ 1000000 * 1000000 := Int.mul_le_mul hA.2 hB.2 hB.1 (by omega)
  have hM0 := Int.mul_nonneg hA.1 hB.1
  exact evr (product_l0 a b (A * B) ⟨hM0, by omega⟩ (fun i => mul_bd (getD_in' hA.1 ha i) (getD_in' hB.1 hb i)) hl hab a.length 0 0 (by omega) (by simp) (by simp)) (by simp)

/-! ### spec_l2Side spec_l2Dot -/
theorem l2Side (a : List Int) (b : Int) (x : List Int) (A B : Int) (hA : 0 ≤ A ∧ A ≤ 1000000) (hB : 0 ≤ B ∧ B ≤ 1000000) (ha : ∀ x ∈ a, -A ≤ x ∧ x ≤ A) (hb : ∀ y ∈ x, -B ≤ y ∧ y ≤ B) (hl : a.length ≤ 1000) (hab : a.length ≤ x.length) : Ev (fun k => spec_l2Side.f k a b x) (sideV a b x) := by
  unfold spec_l2Side.f sideV
  refine evb (l2Dot a x A B hA hB ha hb hl hab) ?_
  by_cases e : dot a x ≥ b
  · exact evp e (evs (by rw [if_pos e]))
  · exact evn e (evs (by rw [if_neg e]))

/-! ### spec_l2BitPoint -/
theorem l2BitPoint_l0 (n k : Nat) (hn : n ≤ 8) (hk : k < 2 ^ 62) : ∀ (d i : Nat) (out : List Int), i + d = n → out.length = i →
    Ev (fun f => spec_l2BitPoint.l0 f (n : Int) (k : Int) out (i : Int)) (out ++ (List.range' i d).map fun i => (bit k i : Int)) := by
  intro d
  induction d with
  | zero =>
    intro i out hi ho
    exact Ev.step (fun k => spec_l2BitPoint.l0.eq_2 ..) (evn (by omega) (evs (by simp)))
  | succ d ih =>
    intro i out hi ho
    refine Ev.step (fun k => spec_l2BitPoint.l0.eq_2 ..) (evp (by omega) (evp (by omega) (evp (by omega) ?_)))
    rw [digit k i (by omega) (by omega), w64s i (by omega)]
    refine evr (ih (i + 1) _ (by omega) (by simp; omega)) ?_
    simp [List.range'_succ]
theorem l2BitPoint (n k : Nat) (hn : n ≤ 8) (hk : k < 2 ^ 62) : Ev (fun f => spec_l2BitPoint.f f (n : Int) (k : Int)) (bitPt n k) := by
  unfold spec_l2BitPoint.f bitPt
  refine evr (l2BitPoint_l0 n k hn hk n 0 [] (by omega) rfl) ?_
  rw [List.range_eq_range']; rfl

/-! ### impl_bitPoint -/
theorem bitPoint_l0 (n k : Nat) (hn : n ≤ 8) (hk : k < 2 ^ 62) : ∀ (d i : Nat) (out : List Int), i + d = n → out.length = i →
    Ev (fun f => impl_bitPoint.l0 f (k : Int) out (n : Int) (i : Int)) (out ++ (List.range' i d).map fun i => (bit k i : Int)) := by
  intro d
  induction d with
  | zero =>
    intro i out hi ho
    exact Ev.step (fun k => impl_bitPoint.l0.eq_2 ..) (evn (by omega) (evs (by simp)))
  | succ d ih =>
    intro i out hi ho
    refine Ev.step (fun k => impl_bitPoint.l0.eq_2 ..) (evp (by omega) (evp (by omega) (evp (by omega) ?_)))
    rw [digit k i (by omega) (by omega), w64s i (by omega)]
    refine evr (ih (i + 1) _ (by omega) (by simp; omega)) ?_
    simp [List.range'_succ]
theorem bitPoint (n k : Nat) (hn : n ≤ 8) (hk : k < 2 ^ 62) : Ev (fun f => impl_bitPoint.f f (n : Int) (k : Int)) (bitPt n k) := by
  unfold impl_bitPoint.f bitPt
  refine evr (bitPoint_l0 n k hn hk n 0 [] (by omega) rfl) ?_
  rw [List.range_eq_range']; rfl

/-! ### spec_l2TableOf spec_l2Side spec_l2BitPoint -/
theorem l2TableOf_l0 (n : Nat) (hn : n ≤ 4) (a : List Int) (b : Int) (A : Int) (hA : 0 ≤ A ∧ A ≤ 1000000) (ha : ∀ x ∈ a, -A ≤ x ∧ x ≤ A) (hl : a.length ≤ n) : ∀ (d c : Nat) (out : List Int), c + d = 2 ^ n → out.length = c →
    Ev (fun k => spec_l2TableOf.l0 k (n : Int) out (c : Int) a b) (out ++ (List.range' c d).map fun k => if dot a (bitPt n k) ≥ b then 1 else 0) := by
  have hp := pow4 n hn
  intro d
  induction d with
  | zero =>
    intro c out hc ho
    refine Ev.step (fun k => spec_l2TableOf.l0.eq_2 ..) (evp (by omega) ?_)
    rw [shl1 n (by omega)]
    exact evn (by omega) (evs (by simp))
  | succ d ih =>
    intro c out hc ho
    refine Ev.step (fun k => spec_l2TableOf.l0.eq_2 ..) (evp (by omega) ?_)
    rw [shl1 n (by omega), w64s c (by omega)]
    refine evp (by omega) (evb (l2BitPoint n c (by omega) (by omega)) (evb (l2Side a b _ A 1 hA (by omega) ha (bitPt_in n c) (by omega) (by rw [bitPt_len]; exact hl)) (evp (by omega) ?_)))
    have hv : wrap64 (Int.tdiv (wrap64 (sideV a b (bitPt n c) + 1)) 2) = if dot a (bitPt n c) ≥ b then 1 else 0 := by
      unfold sideV
      split
      · rw [w64 (x := 1 + 1) (by omega) (by omega), show Int.tdiv (1 + 1) 2 = 1 from rfl, w64 (by omega) (by omega)]
      · rw [w64 (x := -1 + 1) (by omega) (by omega), show Int.tdiv (-1 + 1) 2 = 0 from rfl, w64 (by omega) (by omega)]
    rw [hv]
    refine evr (ih (c + 1) _ (by omega) (by simp; omega)) ?_
    simp [List.range'_succ]
theorem l2TableOf (n : Nat) (hn : n ≤ 4) (a : List Int) (b : Int) (A : Int) (hA : 0 ≤ A ∧ A ≤ 1000000) (ha : ∀ x ∈ a, -A ≤ x ∧ x ≤ A) (hl : a.length ≤ n) : Ev (fun k => spec_l2TableOf.f k (n : Int) a b) (tabOf n a b) := by
  unfold spec_l2TableOf.f tabOf
  refine evr (l2TableOf_l0 n hn a b A hA ha hl (2 ^ n) 0 [] (by omega) rfl) ?_
  rw [List.range_eq_range']; rfl

/-! ### impl_productsOf impl_product impl_bitPoint -/
def prods (n : Nat) (w : List Int) : List Int := (List.range (2 ^ n)).map fun k => dot w (bitPt n k)
theorem prods_len (n : Nat) (w : List Int) : (prods n w).length = 2 ^ n := by simp [prods]
theorem prods_at (n : Nat) (w : List Int) (k : Nat) (h : k < 2 ^ n) : (prods n w).getD k 0 = dot w (bitPt n k) := by simp [prods, List.getD_eq_getElem?_getD, h]
theorem bitPt_01 (n k : Nat) : ∀ x ∈ bitPt n k, -1 ≤ x ∧ x ≤ 1 := bitPt_in n k
theorem dot_small (n : Nat) (w : List Int) (hn : n ≤ 4) (hw : ∀ x ∈ w, -9 ≤ x ∧ x ≤ 9) (hl : w.length = n) (k : Nat) : -36 ≤ dot w (bitPt n k) ∧ dot w (bitPt n k) ≤ 36 := by
  have := dot_bd 9 1 (by omega) (by omega) w (bitPt n k) hw (bitPt_in n k)
  omega
theorem productsOf_l0 (n : Nat) (hn : n ≤ 4) (w : List Int) (hw : ∀ x ∈ w, -9 ≤ x ∧ x ≤ 9) (hl : w.length = n) : ∀ (d c : Nat) (out : List Int), c + d = 2 ^ n → out.length = c →
    Ev (fun k => impl_productsOf.l0 k (n : Int) w out ((2 ^ n : Nat) : Int) (c : Int)) (out ++ (List.range' c d).map fun k => dot w (bitPt n k)) := by
  have hp := pow4 n hn
  intro d
  induction d with
  | zero =>
    intro c out hc ho
    exact Ev.step (fun k => impl_productsOf.l0.eq_2 ..) (evn (by omega) (evs (by simp)))
  | succ d ih =>
    intro c out hc ho
    refine Ev.step (fun k => impl_productsOf.l0.eq_2 ..) (evp (by omega) ?_)
    rw [w64s c (by omega)]
    refine evb (bitPoint n c (by omega) (by omega)) (evb (product w _ 9 1 (by omega) (by omega) hw (bitPt_in n c) (by omega) (by rw [bitPt_len]; omega)) (evp (by omega) ?_))
    refine evr (ih (c + 1) _ (by omega) (by simp; omega)) ?_
    simp [List.range'_succ]
theorem productsOf (n : Nat) (hn : n ≤ 4) (w : List Int) (hw : ∀ x ∈ w, -9 ≤ x ∧ x ≤ 9) (hl : w.length = n) : Ev (fun k => impl_productsOf.f k (n : Int) w) (prods n w) := by
  unfold impl_productsOf.f prods
  have hp := pow4 n hn
  refine evp (by omega) ?_
  rw [shl1 n (by omega)]
  refine evr (productsOf_l0 n hn w hw hl (2 ^ n) 0 [] (by omega) rfl) ?_
  rw [List.range_eq_range']; rfl

/-! ### spec_l5Weights spec_l1Own impl_CountThresholds -/
theorem rdL_w (l : List (List Int)) (i : Nat) : rd_L2 l (i : Int) = rdl l i := by simp [rd_L2, rdl]
theorem l5Weights_l2 (n i : Nat) (L : List (List Int)) (hL : ∀ v ∈ L, v.length ≤ 8) (hLL : L.length ≤ 100000) (j : Nat) (hj : j < L.length) (R : List (List Int)) : ∀ (d : Nat) (x : Int) (out : List (List Int)), x + d = 4 → -3 ≤ x → out.length ≤ 1000000 + (7 - d) →
    Ev (fun k => spec_l5Weights.l1 k (n : Int) L (i : Int) (out ++ (List.range d).map fun e : Nat => rdl L j ++ [x + (e : Int)]) (((j + 1 : Nat) : Int))) R → Ev (fun k => spec_l5Weights.l2 k (n : Int) L (i : Int) out (j : Int) x) R := by
  intro d
  induction d with
  | zero =>
    intro x out hx _ _ h
    refine Ev.step (fun k => spec_l5Weights.l2.eq_2 ..) (evn (by omega) ?_)
    rw [w64s j (by omega)]
    simpa using h
  | succ d ih =>
    intro x out hx h3 ho h
    have hv := hL _ (rdl_mem L j hj)
    refine Ev.step (fun k => spec_l5Weights.l2.eq_2 ..) (evp (by omega) (evp (by omega) (evp (by omega) ?_)))
    rw [rdL_w]
    refine evb (evc (l1Own _ (by omega))) (evp (by omega) (evp (by omega) ?_))
    rw [w64 (x := x + 1) (by omega) (by omega)]
    refine ih (x + 1) _ (by omega) (by omega) (by simp; omega) ?_
    rw [List.range_succ_eq_map] at h
    simpa [Function.comp_def, Int.add_assoc, Int.add_comm 1] using h
theorem l5Weights_l1 (n i : Nat) (L : List (List Int)) (hi : i < 4611686018427387904) (hL : ∀ v ∈ L, v.length ≤ 8) (hLL : L.length ≤ 100000) (R : List (List Int)) : ∀ (d j : Nat) (out : List (List Int)), j + d = L.length → out.length = j * 7 →
    Ev (fun k => spec_l5Weights.l0 k (n : Int) (out ++ wlong 3 (L.drop j)) (((i + 1 : Nat) : Int))) R → Ev (fun k => spec_l5Weights.l1 k (n : Int) L (i : Int) out (j : Int)) R := by
  intro d
  induction d with
  | zero =>
    intro j out hj _ h
    refine Ev.step (fun k => spec_l5Weights.l1.eq_2 ..) (evn (by omega) ?_)
    rw [w64s i (by omega)]
    rw [List.drop_of_length_le (show L.length ≤ j by omega)] at h
    simpa [wlong] using h
  | succ d ih =>
    intro j out hj ho h
    refine Ev.step (fun k => spec_l5Weights.l1.eq_2 ..) (evp (by omega) ?_)
    refine l5Weights_l2 n i L hL hLL j (by omega) R 7 (-3) out (by omega) (by omega) (by omega) ?_
    refine ih (j + 1) _ (by omega) (by simp; omega) ?_
    rw [rdl_drop L j (by omega)] at h
    have e : wlong 3 (rdl L j :: L.drop (j + 1)) = ((List.range 7).map fun e : Nat => rdl L j ++ [(-3 : Int) + (e : Int)]) ++ wlong 3 (L.drop (j + 1)) := by
      simp only [wlong, List.flatMap_cons]
      congr 1
    rw [e, ← List.append_assoc] at h
    exact h
theorem wts_small (i : Nat) (h : i ≤ 4) : (wts 3 i).length ≤ 100000 := by
  rw [wts_length]
  have : (2 * 3 + 1) ^ i ≤ (2 * 3 + 1) ^ 4 := Nat.pow_le_pow_right (by decide) h
  omega
theorem l5Weights_l0 (n : Nat) (hn : n ≤ 4) : ∀ (d i : Nat), i + d = n → Ev (fun k => spec_l5Weights.l0 k (n : Int) (wts 3 i) (i : Int)) (wts 3 n) := by
  intro d
  induction d with
  | zero =>
    intro i hi
    refine Ev.step (fun k => spec_l5Weights.l0.eq_2 ..) (evn (by omega) (evs ?_))
    rw [show i = n by omega]
  | succ d ih =>
    intro i hi
    refine Ev.step (fun k => spec_l5Weights.l0.eq_2 ..) (evp (by omega) ?_)
    refine l5Weights_l1 n i (wts 3 i) (by omega) (fun v hv => by rw [wts_len 3 i v hv]; omega) (wts_small i (by omega)) _ (wts 3 i).length 0 [] (by omega) rfl ?_
    rw [List.drop_zero, List.nil_append, wts_long]
    exact ih (i + 1) (by omega)
theorem l5Weights (n : Nat) (hn : n ≤ 4) : Ev (fun k => spec_l5Weights.f k (n : Int)) (wts 3 n) := by
  unfold spec_l5Weights.f
  exact l5Weights_l0 n hn n 0 (by omega)

/-! ### spec_l5Size impl_CountThresholds -/
def c5.ab (x : Int) : Int := if x < -x then -x else x
def c5.sz : List Int → Int
  | [] => 0
  | x :: l => c5.ab x + c5.sz l
theorem c5.sz_bd (b : Int) : ∀ l : List Int, (∀ x ∈ l, -b ≤ x ∧ x ≤ b) → 0 ≤ c5.sz l ∧ c5.sz l ≤ b * l.length := by
  intro l
  induction l with
  | nil => intro _; simp [c5.sz]
  | cons x l ih =>
    intro h
    have h1 := ih fun y hy => h y (List.mem_cons_of_mem _ hy)
    have h2 := h x List.mem_cons_self
    rw [List.length_cons, show ((l.length + 1 : Nat) : Int) = (l.length : Int) + 1 by omega, Int.mul_add]
    simp only [c5.sz, c5.ab]
    split <;> omega
theorem c5.sz_snoc (x : Int) : ∀ l : List Int, c5.sz (l ++ [x]) = c5.sz l + c5.ab x := by
  intro l
  induction l with
  | nil => simp [c5.sz]
  | cons y l ih => simp only [List.cons_append, c5.sz, ih]; omega
theorem c5.sz_take (l : List Int) (j : Nat) (h : j < l.length) : c5.sz (l.take (j + 1)) = c5.sz (l.take j) + c5.ab (l.getD j 0) := by
  rw [List.take_succ_eq_append_getElem h, c5.sz_snoc, List.getD_eq_getElem?_getD, List.getElem?_eq_getElem h]; rfl
theorem l5Size_l0 (l : List Int) (hb : ∀ x ∈ l, -9 ≤ x ∧ x ≤ 9) (hl : l.length ≤ 8) : ∀ (d i : Nat), i + d = l.length → Ev (fun k => spec_l5Size.l0 k l (c5.sz (l.take i)) (i : Int)) (c5.sz l) := by
  intro d
  induction d with
  | zero =>
    intro i hi
    refine Ev.step (fun k => spec_l5Size.l0.eq_2 ..) (evn (by omega) (evs ?_))
    rw [List.take_of_length_le (by omega)]
  | succ d ih =>
    intro i hi
    have hs := c5.sz_bd 9 (l.take i) (fun x hx => hb x (List.mem_of_mem_take hx))
    rw [List.length_take] at hs
    have hx := hb (l.getD i 0) (by rw [List.getD_eq_getElem?_getD, List.getElem?_eq_getElem (by omega)]; exact List.getElem_mem _)
    refine Ev.step (fun k => spec_l5Size.l0.eq_2 ..) (evp (by omega) (evp (by omega) ?_))
    rw [rd_nat, w64s i (by omega), w64 (x := -l.getD i 0) (by omega) (by omega)]
    have hm : spec_l1Most.f (l.getD i 0) (-l.getD i 0) = some (c5.ab (l.getD i 0)) := by
      unfold spec_l1Most.f c5.ab
      by_cases c : l.getD i 0 < -l.getD i 0
      · rw [if_pos c, if_neg (by omega)]
      · rw [if_neg c]
        by_cases c' : l.getD i 0 > -l.getD i 0
        · rw [if_pos c']
        · rw [if_neg c', show -l.getD i 0 = l.getD i 0 by omega]
    refine evb (evc hm) ?_
    have ha : 0 ≤ c5.ab (l.getD i 0) ∧ c5.ab (l.getD i 0) ≤ 9 := by
      unfold c5.ab
      split <;> omega
    rw [w64 (by omega) (by omega), ← c5.sz_take l i (by omega)]
    exact ih (i + 1) (by omega)
theorem l5Size (l : List Int) (hb : ∀ x ∈ l, -9 ≤ x ∧ x ≤ 9) (hl : l.length ≤ 8) : Ev (fun k => spec_l5Size.f k l) (c5.sz l) := by
  unfold spec_l5Size.f
  exact l5Size_l0 l hb hl l.length 0 (by omega)

/-! ### spec_CountThresholds impl_CountThresholds impl_productsOf impl_product impl_bitPoint spec_l2TableOf spec_l5Weights spec_l5Size -/
theorem c5dot : ∀ (a b : List Int), (∀ x ∈ b, x = 0 ∨ x = 1) → -(c5.sz a) ≤ dot a b ∧ dot a b ≤ c5.sz a := by
  intro a
  induction a with
  | nil => intro b _; cases b <;> simp [dot, c5.sz]
  | cons x a ih =>
    intro b hb
    have hz : 0 ≤ c5.sz a := by
      clear ih hb
      induction a with
      | nil => simp [c5.sz]
      | cons y a iha => simp only [c5.sz, c5.ab]; split <;> omega
    have hx : -(c5.ab x) ≤ x ∧ x ≤ c5.ab x ∧ 0 ≤ c5.ab x := by unfold c5.ab; split <;> omega
    cases b with
    | nil => simp only [dot, c5.sz]; omega
    | cons y b =>
      have h1 := ih b (fun z hz => hb z (List.mem_cons_of_mem _ hz))
      simp only [dot, c5.sz]
      rcases hb y List.mem_cons_self with rfl | rfl
      · rw [Int.mul_zero]; omega
      · rw [Int.mul_one]; omega
theorem bitPt_two (n k : Nat) : ∀ x ∈ bitPt n k, x = 0 ∨ x = 1 := by
  intro x hx
  obtain ⟨i, _, rfl⟩ := List.mem_map.1 hx
  have := bit_lt k i; omega
/-- The set of places told by a bound. -/
def cuts (n : Nat) (v : List Int) (b : Int) : Nat := tcode (prods n v) b (2 ^ n)
theorem tcode_same (p : List Int) (b c : Int) : ∀ j, (∀ k, k < j → (p.getD k 0 ≥ b ↔ p.getD k 0 ≥ c)) → tcode p b j = tcode p c j := by
  intro j
  induction j with
  | zero => intro _; rfl
  | succ j ih =>
    intro h
    simp only [tcode]
    rw [ih fun k hk => h k (by omega), rd_nat]
    by_cases e : p.getD j 0 ≥ b
    · rw [if_pos e, if_pos ((h j (by omega)).1 e)]
    · rw [if_neg e, if_neg (fun h' => e ((h j (by omega)).2 h'))]
theorem cuts_lt (n : Nat) (v : List Int) (b : Int) : cuts n v b < 2 ^ (2 ^ n) := tcode_lt _ _ _
theorem prods_sz (n : Nat) (v : List Int) (k : Nat) (h : k < 2 ^ n) : -(c5.sz v) ≤ (prods n v).getD k 0 ∧ (prods n v).getD k 0 ≤ c5.sz v := by
  rw [prods_at n v k h]; exact c5dot v _ (bitPt_two n k)
/-- The bounds of the reference. -/
def bnds (v : List Int) : List Int := (List.range (2 * (c5.sz v).toNat + 2)).map fun d : Nat => -(c5.sz v) + (d : Int)
theorem bnds_mem (v : List Int) (hz : 0 ≤ c5.sz v) (b : Int) : b ∈ bnds v ↔ -(c5.sz v) ≤ b ∧ b ≤ c5.sz v + 1 := by
  unfold bnds
  rw [List.mem_map]
  constructor
  · rintro ⟨d, hd, rfl⟩
    have := List.mem_range.1 hd; omega
  · rintro ⟨h1, h2⟩
    exact ⟨(b + c5.sz v).toNat, List.mem_range.2 (by omega), by omega⟩
/-- Both sides' bounds tell the same sets. -/
theorem cuts_both (n : Nat) (v : List Int) (hz : 0 ≤ c5.sz v ∧ c5.sz v ≤ 36) (c : Nat) : (∃ b ∈ prods n v ++ [99], cuts n v b = c) ↔ (∃ b ∈ bnds v, cuts n v b = c) := by
  have none : ∀ b, c5.sz v < b → cuts n v b = cuts n v 99 := by
    intro b hb
    refine tcode_same _ _ _ _ (fun k hk => ?_)
    have := prods_sz n v k hk; omega
  constructor
  · rintro ⟨b, hb, rfl⟩
    rcases List.mem_append.1 hb with hb | hb
    · obtain ⟨k, hk, rfl⟩ := List.mem_map.1 hb
      have h1 := prods_sz n v k (List.mem_range.1 hk)
      rw [prods_at n v k (List.mem_range.1 hk)] at h1
      exact ⟨_, (bnds_mem v hz.1 _).2 ⟨h1.1, by omega⟩, rfl⟩
    · obtain rfl : b = 99 := by simpa using hb
      exact ⟨c5.sz v + 1, (bnds_mem v hz.1 _).2 ⟨by omega, by omega⟩, none _ (by omega)⟩
  · rintro ⟨b, hb, rfl⟩
    -- the least product that reaches the bound
    by_cases hex : ∃ x ∈ prods n v, x ≥ b
    · have hmin : ∀ l : List Int, (∃ x ∈ l, x ≥ b) → ∃ x ∈ l, x ≥ b ∧ ∀ y ∈ l, y ≥ b → x ≤ y := by
        intro l
        induction l with
        | nil => rintro ⟨x, hx, _⟩; cases hx
        | cons a l ih =>
          rintro ⟨x, hx, hxb⟩
          by_cases hl : ∃ x ∈ l, x ≥ b
          · obtain ⟨z, hz1, hz2, hz3⟩ := ih hl
            by_cases ha : a ≥ b ∧ a ≤ z
            · refine ⟨a, List.mem_cons_self, ha.1, fun y hy hyb => ?_⟩
              rcases List.mem_cons.1 hy with rfl | hy
              · exact Int.le_refl _
              · exact Int.le_trans ha.2 (hz3 y hy hyb)
            · refine ⟨z, List.mem_cons_of_mem _ hz1, hz2, fun y hy hyb => ?_⟩
              rcases List.mem_cons.1 hy with rfl | hy
              · omega
              · exact hz3 y hy hyb
          · refine ⟨a, List.mem_cons_self, ?_, fun y hy hyb => ?_⟩
            · rcases List.mem_cons.1 hx with rfl | hx
              · exact hxb
              · exact absurd ⟨x, hx, hxb⟩ hl
            · rcases List.mem_cons.1 hy with rfl | hy
              · exact Int.le_refl _
              · exact absurd ⟨y, hy, hyb⟩ hl
      obtain ⟨x, hx1, hx2, hx3⟩ := hmin _ hex
      refine ⟨x, List.mem_append.2 (.inl hx1), tcode_same _ _ _ _ (fun k hk => ?_)⟩
      have hm : (prods n v).getD k 0 ∈ prods n v := by
        rw [List.getD_eq_getElem?_getD, List.getElem?_eq_getElem (by rw [prods_len]; exact hk)]; exact List.getElem_mem _
      exact ⟨fun h => Int.le_trans hx2 h, fun h => hx3 _ hm h⟩
    · refine ⟨99, List.mem_append.2 (.inr (by simp)), ?_⟩
      refine tcode_same _ _ _ _ (fun k hk => ?_)
      have hm : (prods n v).getD k 0 ∈ prods n v := by
        rw [List.getD_eq_getElem?_getD, List.getElem?_eq_getElem (by rw [prods_len]; exact hk)]; exact List.getElem_mem _
      have h1 := prods_sz n v k hk
      constructor
      · intro h; omega
      · intro h; exact absurd ⟨_, hm, h⟩ hex
/-- How many different numbers below N stand in a list. -/
def many (N : Nat) (l : List Nat) : Nat := (List.range N).countP fun x => l.contains x
theorem many_same (N : Nat) (l l' : List Nat) (h : ∀ x, x ∈ l ↔ x ∈ l') : many N l = many N l' := by
  unfold many
  apply List.countP_congr
  intro x _
  rw [List.contains_iff_mem, List.contains_iff_mem]; exact h x
theorem many_snoc (N : Nat) (l : List Nat) (c : Nat) (hc : c < N) : many N (l ++ [c]) = if l.contains c = true then many N l else many N l + 1 := by
  by_cases e : l.contains c = true
  · rw [if_pos e]
    apply many_same
    intro x
    rw [List.mem_append, List.mem_singleton]
    exact ⟨fun h => h.elim id (fun h => by rw [h]; exact List.contains_iff_mem.1 e), .inl⟩
  · rw [if_neg e]
    unfold many
    have key : ∀ M, (List.range M).countP (fun x => (l ++ [c]).contains x) = (List.range M).countP (fun x => l.contains x) + if c < M then 1 else 0 := by
      intro M
      induction M with
      | zero => simp
      | succ M ih =>
        rw [List.range_succ, List.countP_append, List.countP_append, ih]
        simp only [List.countP_cons, List.countP_nil]
        have e1 : (l ++ [c]).contains M = (l.contains M || decide (M = c)) := by
          apply Bool.eq_iff_iff.2
          rw [Bool.or_eq_true, decide_eq_true_eq, List.contains_iff_mem, List.contains_iff_mem, List.mem_append, List.mem_singleton]
        rw [e1]
        rcases Nat.lt_trichotomy M c with h | h | h
        · rw [decide_eq_false (show ¬ M = c by omega), Bool.or_false, if_neg (show ¬ c < M by omega), if_neg (show ¬ c < M + 1 by omega)]; omega
        · subst h
          rw [decide_eq_true rfl, Bool.or_true, if_neg (show ¬ M < M by omega), if_pos (show M < M + 1 by omega), if_pos rfl, if_neg e]
        · rw [decide_eq_false (show ¬ M = c by omega), Bool.or_false, if_pos h, if_pos (show c < M + 1 by omega)]; omega
    rw [key N, if_pos hc]
def lits (l : List Nat) : List Int := l.map fun c : Nat => (c : Int)
theorem lit_key (c : Int) : WideAt.IsKeyLit (Lit.int .i64 c) := trivial
theorem size_many (N : Nat) : ∀ l : List Nat, (∀ c ∈ l, c < N) → (Maps.size (tdat (lits l))) = many N l := by
  have snoc : ∀ (d : Nat) (l : List Nat), l.length = d → (∀ c ∈ l, c < N) → (Maps.size (tdat (lits l))) = many N l := by
    intro d
    induction d with
    | zero =>
      intro l hl _
      obtain rfl : l = [] := List.eq_nil_of_length_eq_zero hl
      unfold many
      rw [List.countP_eq_zero.2 (fun x _ => by simp)]; rfl
    | succ d ih =>
      intro l hl hc
      obtain ⟨l', c, rfl⟩ : ∃ l' c, l = l' ++ [c] := ⟨l.dropLast, l.getLast (by intro e; rw [e] at hl; cases hl), (List.dropLast_concat_getLast _).symm⟩
      have hl' : l'.length = d := by rw [List.length_append, List.length_singleton] at hl; omega
      have h1 := ih l' hl' (fun x hx => hc x (List.mem_append.2 (.inl hx)))
      rw [many_snoc N l' c (hc c (by simp)), show lits (l' ++ [c]) = lits l' ++ [(c : Int)] by simp [lits], tdat_snoc]
      have hT : Maps.Tidy (tdat (lits l')) := Maps.tidy_setOf _ _ (fun x hx => by obtain ⟨y, _, rfl⟩ := List.mem_map.1 hx; exact lit_key y)
      rw [Maps.size_put hT, h1]
      have hh : Maps.has (tdat (lits l')) (.int .i64 (c : Int)) = l'.contains c := by
        unfold tdat
        rw [Maps.has_setOf _ _ _ (fun x hx => by obtain ⟨y, _, rfl⟩ := List.mem_map.1 hx; exact lit_key y)]
        apply Bool.eq_iff_iff.2
        rw [List.any_eq_true, List.contains_iff_mem]
        constructor
        · rintro ⟨x, hx, hs⟩
          obtain ⟨y, hy, rfl⟩ := List.mem_map.1 hx
          obtain ⟨z, hz, rfl⟩ := List.mem_map.1 hy
          have := WideAt.sameKey_eq hs
          have e : (z : Int) = (c : Int) := (Lit.int.inj this).2
          rw [← Int.ofNat.inj e]; exact hz
        · intro h
          exact ⟨_, List.mem_map.2 ⟨(c : Int), List.mem_map.2 ⟨c, h, rfl⟩, rfl⟩, by simp [Lit.sameKey]⟩
      rw [hh]
  intro l h
  exact snoc l.length l rfl h
/-- All sets that the program meets, and those that the reference meets. -/
def icuts (n : Nat) : List Nat := (wts 3 n).flatMap fun v => (prods n v ++ [99]).map (cuts n v)
def scuts (n : Nat) : List Nat := (wts 3 n).flatMap fun v => (bnds v).map (cuts n v)
theorem wts_sz (n : Nat) (hn : n ≤ 4) (v : List Int) (hv : v ∈ wts 3 n) : v.length = n ∧ (∀ x ∈ v, -9 ≤ x ∧ x ≤ 9) ∧ 0 ≤ c5.sz v ∧ c5.sz v ≤ 12 := by
  have h1 := wts_len 3 n v hv
  have h2 := wts_bd 3 n v hv
  have h3 := c5.sz_bd 3 v h2
  refine ⟨h1, fun x hx => by have := h2 x hx; omega, h3.1, by omega⟩
theorem cuts_mem (n : Nat) (hn : n ≤ 4) (c : Nat) : c ∈ icuts n ↔ c ∈ scuts n := by
  unfold icuts scuts
  rw [List.mem_flatMap, List.mem_flatMap]
  have one : ∀ v ∈ wts 3 n, (c ∈ (prods n v ++ [99]).map (cuts n v) ↔ c ∈ (bnds v).map (cuts n v)) := by
    intro v hv
    obtain ⟨_, _, h3, h4⟩ := wts_sz n hn v hv
    rw [List.mem_map, List.mem_map]
    exact cuts_both n v ⟨h3, by omega⟩ c
  exact ⟨fun ⟨v, hv, h⟩ => ⟨v, hv, (one v hv).1 h⟩, fun ⟨v, hv, h⟩ => ⟨v, hv, (one v hv).2 h⟩⟩
def thrs (n : Nat) : Int := ((many (2 ^ (2 ^ n)) (scuts n) : Nat) : Int)
def thrV (n : Int) : Int × Bool := if 0 ≤ n ∧ n ≤ 4 then (if n = 0 then (2, true) else (thrs n.toNat, true)) else (0, false)
theorem icuts_lt (n : Nat) : ∀ c ∈ icuts n, c < 2 ^ (2 ^ n) := by
  intro c hc
  obtain ⟨v, _, h⟩ := List.mem_flatMap.1 hc
  obtain ⟨b, _, rfl⟩ := List.mem_map.1 h
  exact cuts_lt n v b
theorem tcodes_lits (n : Nat) (v : List Int) : tcodes (prods n v) (prods n v ++ [99]) = lits ((prods n v ++ [99]).map (cuts n v)) := by
  unfold tcodes lits cuts
  rw [List.map_map, prods_len]; rfl
theorem iall_fold (n : Nat) (hn : n ≤ 4) : ∀ (L : List (List Int)) (acc : List Nat), (∀ v ∈ L, v ∈ wts 3 n) → acc.length + 17 * L.length ≤ 1000000 →
    Ev (fun k => L.foldlM (impl_tablesOf.step k (n : Int)) (lits acc)) (lits (acc ++ L.flatMap fun v => (prods n v ++ [99]).map (cuts n v))) := by
  have hp := pow4 n hn
  intro L
  induction L with
  | nil => intro acc _ _; simp only [List.flatMap_nil, List.append_nil]; exact evs rfl
  | cons v L ih =>
    intro acc hL hl
    rw [List.length_cons] at hl
    obtain ⟨h1, h2, _, _⟩ := wts_sz n hn v (hL v List.mem_cons_self)
    have hstep : Ev (fun k => impl_tablesOf.step k (n : Int) (lits acc) v) (lits (acc ++ (prods n v ++ [99]).map (cuts n v))) := by
      unfold impl_tablesOf.step
      refine evb (productsOf n hn v h2 h1) (evp ⟨by rw [prods_len]; omega, by unfold lits; rw [List.length_map]; omega⟩ (evs ?_))
      rw [tcodes_lits]; simp [lits]
    simp only [List.foldlM_cons]
    have := ih (acc ++ (prods n v ++ [99]).map (cuts n v)) (fun u hu => hL u (List.mem_cons_of_mem _ hu)) (by rw [List.length_append, List.length_map, List.length_append, prods_len, List.length_singleton]; omega)
    refine evr (evb hstep this) ?_
    rw [List.flatMap_cons, List.append_assoc]
theorem iall (n : Nat) (hn : n ≤ 4) : Ev (fun k => impl_tablesOf.all k n) (lits (icuts n)) := by
  unfold impl_tablesOf.all icuts
  have hw : (wts 3 n).length ≤ 2401 := by rw [wts_length]; exact Nat.pow_le_pow_right (n := 7) (by decide) hn
  have := iall_fold n hn (wts 3 n) [] (fun v hv => hv) (by simp only [List.length_nil]; omega)
  simpa [lits] using this
theorem iCount (n : Int) : Ev (fun k => impl_CountThresholds.f k n) (thrV n) := by
  unfold impl_CountThresholds.f thrV
  rw [within]; simp only [Option.bind_some]
  by_cases c : 0 ≤ n ∧ n ≤ 4
  · rw [if_pos c]
    refine evp (decide_eq_true c) ?_
    by_cases c0 : n = 0
    · rw [if_pos c0]; exact evp c0 (evs rfl)
    · rw [if_neg c0]
      refine evn c0 (evp ⟨c.1, by omega⟩ (evb (iall n.toNat (by omega)) (evs ?_)))
      rw [size_many (2 ^ (2 ^ n.toNat)) (icuts n.toNat) (icuts_lt n.toNat)]
      unfold thrs
      rw [many_same _ (icuts n.toNat) (scuts n.toNat) (fun x => cuts_mem n.toNat (by omega) x)]
  · rw [if_neg c]
    exact evn (by rw [decide_eq_false c]; simp) (evs rfl)
/-! the reference -/
def seenB (N : Nat) (l : List Nat) : List Bool := (List.range N).map fun x => l.contains x
theorem seenB_set (N : Nat) (l : List Nat) (c : Nat) (hc : c < N) : (seenB N l).set c true = seenB N (l ++ [c]) := by
  apply List.ext_getElem
  · simp [seenB]
  · intro i h1 h2
    rw [List.getElem_set]
    have hi : i < N := by simpa [seenB] using h2
    by_cases e : c = i
    · subst e; rw [if_pos rfl]; simp [seenB]
    · rw [if_neg e]
      have : ¬ i = c := fun h => e h.symm
      simp [seenB, this]
theorem seenB_old (N : Nat) (l : List Nat) (c : Nat) (h : l.contains c = true) : seenB N l = seenB N (l ++ [c]) := by
  unfold seenB
  apply List.map_congr_left
  intro x _
  apply Bool.eq_iff_iff.2
  rw [List.contains_iff_mem, List.contains_iff_mem, List.mem_append, List.mem_singleton]
  exact ⟨.inl, fun h' => h'.elim id (fun h' => by rw [h']; exact List.contains_iff_mem.1 h)⟩
theorem sCount_l2 (n : Nat) (hn : n ≤ 4) (L : List (List Int)) (i : Nat) (z b : Int) (v : List Int) (acc : List Nat) (hacc : acc.length ≤ 10000000) (hb : b < 1000000 ∧ -1000000 < b) (R : Int × Bool)
    (hK : Ev (fun k => spec_CountThresholds.l1 k (n : Int) (seenB (2 ^ (2 ^ n)) (acc ++ [cuts n v b])) ((many (2 ^ (2 ^ n)) (acc ++ [cuts n v b]) : Nat) : Int) L (i : Int) z (b + 1)) R) :
    ∀ d j, j + d = 2 ^ n → Ev (fun k => spec_CountThresholds.l2 k (n : Int) (seenB (2 ^ (2 ^ n)) acc) ((many (2 ^ (2 ^ n)) acc : Nat) : Int) L (i : Int) z b (tabOf n v b) ((tcode (prods n v) b j : Nat) : Int) (j : Int)) R := by
  have hp := pow4 n hn
  intro d
  induction d with
  | zero =>
    intro j hj
    obtain rfl : j = 2 ^ n := by omega
    have hc := cuts_lt n v b
    rw [many_snoc _ _ _ hc] at hK
    have hsl : ((cuts n v b : Nat) : Int) < ((seenB (2 ^ (2 ^ n)) acc).length : Int) := by
      rw [show (seenB (2 ^ (2 ^ n)) acc).length = 2 ^ (2 ^ n) by simp [seenB]]; exact Int.ofNat_lt.2 hc
    have hm : many (2 ^ (2 ^ n)) acc ≤ 65536 := by
      have h1 : many (2 ^ (2 ^ n)) acc ≤ 2 ^ (2 ^ n) := by
        have := List.countP_le_length (p := fun x => acc.contains x) (l := List.range (2 ^ (2 ^ n)))
        rwa [List.length_range] at this
      exact Nat.le_trans h1 (Nat.pow_le_pow_right (n := 2) (by decide) hp.2)
    have hrd : rdOf false (seenB (2 ^ (2 ^ n)) acc) ((cuts n v b : Nat) : Int) = acc.contains (cuts n v b) := rdOf_map _ _ _ hc
    rw [show tcode (prods n v) b (2 ^ n) = cuts n v b from rfl]
    have htl : ¬ (((2 ^ n : Nat) : Int) < ((tabOf n v b).length : Int)) := by rw [tabOf_len]; omega
    refine Ev.step (fun k => spec_CountThresholds.l2.eq_2 ..) (evn htl (evp (Int.natCast_nonneg _) (evp hsl ?_)))
    rw [hrd, show wrap64 (b + 1) = b + 1 from w64 (by omega) (by omega)]
    by_cases e : acc.contains (cuts n v b) = true
    · rw [if_pos e, ← seenB_old _ _ _ e] at hK
      exact evp e hK
    · rw [if_neg e] at hK
      refine evn e ?_
      rw [Int.toNat_natCast, seenB_set _ _ _ hc, show wrap64 (((many (2 ^ (2 ^ n)) acc : Nat) : Int) + 1) = ((many (2 ^ (2 ^ n)) acc + 1 : Nat) : Int) from w64s _ (by omega)]
      exact hK
  | succ d ih =>
    intro j hj
    have hj2 : j < 2 ^ n := by omega
    have htl : (j : Int) < ((tabOf n v b).length : Int) := by rw [tabOf_len]; exact Int.ofNat_lt.2 hj2
    refine Ev.step (fun k => spec_CountThresholds.l2.eq_2 ..) (evp htl (evp (Int.natCast_nonneg _) ?_))
    have ht : rd (tabOf n v b) (j : Int) = if dot v (bitPt n j) ≥ b then 1 else 0 := by
      rw [rd_nat]; simp [tabOf, List.getD_eq_getElem?_getD, hj2]
    have hpj : (prods n v).getD j 0 = dot v (bitPt n j) := prods_at n v j hj2
    have hq := tcode_lt (prods n v) b j
    have hnx := ih (j + 1) (by omega)
    have e1 : wrap64 (((tcode (prods n v) b j : Nat) : Int) + shl .i64 (rd (tabOf n v b) (j : Int)) (j : Int)) = ((tcode (prods n v) b (j + 1) : Nat) : Int) := by
      rw [ht]
      simp only [tcode]
      rw [rd_nat, hpj]
      have h2 : 2 ^ j ≤ 65536 := Nat.pow_le_pow_right (n := 2) (by decide) (show j ≤ 16 by omega)
      by_cases e : dot v (bitPt n j) ≥ b
      · rw [if_pos e, if_pos e, shl1 j (by omega), or_low _ _ hq]
        generalize 2 ^ j = q at h2 hq ⊢
        unfold wrap64; omega
      · rw [if_neg e, if_neg e, show shl .i64 (0 : Int) (j : Int) = 0 by have := shlm 0 j (by simp) (by omega); simpa using this, Int.add_zero]
        generalize 2 ^ j = q at h2 hq
        exact w64 (by omega) (by omega)
    rw [e1, w64s j (by omega)]
    exact hnx
theorem sCount_l1 (n : Nat) (hn : n ≤ 4) (L : List (List Int)) (hL : L.length ≤ 100000) (i : Nat) (hi : i < L.length) (hv : (rdl L i).length = n ∧ (∀ x ∈ rdl L i, -9 ≤ x ∧ x ≤ 9) ∧ 0 ≤ c5.sz (rdl L i) ∧ c5.sz (rdl L i) ≤ 12) (R : Int × Bool) :
    ∀ (d s : Nat) (acc : List Nat), s + d = 2 * (c5.sz (rdl L i)).toNat + 2 → acc.length + d ≤ 10000000 →
      Ev (fun k => spec_CountThresholds.l0 k (n : Int) (seenB (2 ^ (2 ^ n)) (acc ++ (List.range' s d).map fun e : Nat => cuts n (rdl L i) (-(c5.sz (rdl L i)) + (e : Int)))) ((many (2 ^ (2 ^ n)) (acc ++ (List.range' s d).map fun e : Nat => cuts n (rdl L i) (-(c5.sz (rdl L i)) + (e : Int))) : Nat) : Int) L ((i + 1 : Nat) : Int)) R →
      Ev (fun k => spec_CountThresholds.l1 k (n : Int) (seenB (2 ^ (2 ^ n)) acc) ((many (2 ^ (2 ^ n)) acc : Nat) : Int) L (i : Int) (c5.sz (rdl L i)) (-(c5.sz (rdl L i)) + (s : Int))) R := by
  obtain ⟨v1, v2, v3, v4⟩ := hv
  intro d
  induction d with
  | zero =>
    intro s acc hs ha h
    simp only [List.range'_zero, List.map_nil, List.append_nil] at h
    refine Ev.step (fun k => spec_CountThresholds.l1.eq_2 ..) (evn (by rw [w64 (by omega) (by omega)]; omega) ?_)
    rw [w64s i (by omega)]
    exact h
  | succ d ih =>
    intro s acc hs ha h
    have hil : (i : Int) < (L.length : Int) := Int.ofNat_lt.2 hi
    refine Ev.step (fun k => spec_CountThresholds.l1.eq_2 ..) (evp (by rw [w64 (by omega) (by omega)]; omega) (evp (Int.natCast_nonneg _) (evp hil ?_)))
    rw [show rd_L2 L (i : Int) = rdl L i from rdL_w L i]
    refine evb (l2TableOf n hn (rdl L i) _ 9 (by omega) v2 (by omega)) ?_
    refine sCount_l2 n hn L i (c5.sz (rdl L i)) (-(c5.sz (rdl L i)) + (s : Int)) (rdl L i) acc (by omega) (by omega) R ?_ (2 ^ n) 0 (by omega)
    rw [show -(c5.sz (rdl L i)) + (s : Int) + 1 = -(c5.sz (rdl L i)) + ((s + 1 : Nat) : Int) by omega]
    refine ih (s + 1) _ (by omega) (by rw [List.length_append, List.length_singleton]; omega) ?_
    rw [List.range'_succ, List.map_cons] at h
    rw [List.append_assoc]
    exact h
theorem sCount_l0 (n : Nat) (hn : n ≤ 4) : ∀ (d i : Nat), i + d = (wts 3 n).length →
    Ev (fun k => spec_CountThresholds.l0 k (n : Int) (seenB (2 ^ (2 ^ n)) (((wts 3 n).take i).flatMap fun v => (bnds v).map (cuts n v))) ((many (2 ^ (2 ^ n)) (((wts 3 n).take i).flatMap fun v => (bnds v).map (cuts n v)) : Nat) : Int) (wts 3 n) (i : Int)) (thrs n, true) := by
  have hw : (wts 3 n).length ≤ 2401 := by rw [wts_length]; exact Nat.pow_le_pow_right (n := 7) (by decide) hn
  intro d
  induction d with
  | zero =>
    intro i hi
    refine Ev.step (fun k => spec_CountThresholds.l0.eq_2 ..) (evn (by omega) (evs ?_))
    rw [List.take_of_length_le (by omega)]; rfl
  | succ d ih =>
    intro i hi
    have hil : i < (wts 3 n).length := by omega
    have hv := wts_sz n hn (rdl (wts 3 n) i) (rdl_mem _ i hil)
    have hlen : ∀ L : List (List Int), (∀ v ∈ L, v ∈ wts 3 n) → (L.flatMap fun v => (bnds v).map (cuts n v)).length ≤ 26 * L.length := by
      intro L
      induction L with
      | nil => intro _; simp
      | cons v L ihL =>
        intro h
        have h1 := ihL (fun u hu => h u (List.mem_cons_of_mem _ hu))
        have h2 := wts_sz n hn v (h v List.mem_cons_self)
        have h3 : (bnds v).length = 2 * (c5.sz v).toNat + 2 := by simp [bnds]
        rw [List.flatMap_cons, List.length_append, List.length_map, List.length_cons, h3]
        omega
    refine Ev.step (fun k => spec_CountThresholds.l0.eq_2 ..) (evp (by omega) (evp (by omega) ?_))
    rw [show rd_L2 (wts 3 n) (i : Int) = rdl (wts 3 n) i from rdL_w _ i]
    refine evb (l5Size _ hv.2.1 (by omega)) ?_
    have hz := hv.2.2
    rw [w64 (by omega) (by omega)]
    have h1 := hlen ((wts 3 n).take i) (fun v hv => List.mem_of_mem_take hv)
    rw [List.length_take] at h1
    have := sCount_l1 n hn (wts 3 n) (by omega) i hil hv (thrs n, true) (2 * (c5.sz (rdl (wts 3 n) i)).toNat + 2) 0 (((wts 3 n).take i).flatMap fun v => (bnds v).map (cuts n v)) (by omega) (by omega) ?_
    · simpa using this
    · have e := ih (i + 1) (by omega)
      rw [List.take_succ_eq_append_getElem hil, List.flatMap_append] at e
      have er : (wts 3 n)[i] = rdl (wts 3 n) i := by simp [rdl, List.getD_eq_getElem?_getD, List.getElem?_eq_getElem hil]
      rw [er] at e
      simp only [List.flatMap_cons, List.flatMap_nil, List.append_nil] at e
      rw [show (bnds (rdl (wts 3 n) i)).map (cuts n (rdl (wts 3 n) i)) = (List.range' 0 (2 * (c5.sz (rdl (wts 3 n) i)).toNat + 2)).map fun e : Nat => cuts n (rdl (wts 3 n) i) (-(c5.sz (rdl (wts 3 n) i)) + (e : Int)) by unfold bnds; rw [List.map_map, List.range_eq_range']; rfl] at e
      exact e
theorem shl_two (n : Nat) (hn : n ≤ 4) : shl .i64 1 (shl .u64 1 (n : Int)) = ((2 ^ (2 ^ n) : Nat) : Int) := by
  have h : n = 0 ∨ n = 1 ∨ n = 2 ∨ n = 3 ∨ n = 4 := by omega
  rcases h with rfl | rfl | rfl | rfl | rfl <;> decide +kernel
theorem sCount (n : Int) : Ev (fun k => spec_CountThresholds.f k n) (thrV n) := by
  unfold spec_CountThresholds.f thrV
  rw [l1In]; simp only [Option.bind_some]
  by_cases c : 0 ≤ n ∧ n ≤ 4
  · rw [if_pos c]
    refine evp (decide_eq_true c) ?_
    by_cases c0 : n = 0
    · rw [if_pos c0]; exact evp c0 (evs rfl)
    · rw [if_neg c0]
      obtain ⟨m, rfl⟩ := Int.eq_ofNat_of_zero_le c.1
      have hm : m ≤ 4 := by omega
      have hN : 2 ^ (2 ^ m) ≤ 65536 := Nat.pow_le_pow_right (n := 2) (by decide) (pow4 m hm).2
      rw [shl_two m hm, Int.toNat_natCast]
      generalize hNN : 2 ^ (2 ^ m) = N at hN
      refine evn c0 (evp c.1 (evp (Int.natCast_nonneg _) (evp (by omega) (evb (l5Weights m hm) ?_))))
      have := sCount_l0 m hm (wts 3 m).length 0 (by omega)
      rw [hNN] at this
      have e1 : seenB N [] = List.replicate N false := by
        unfold seenB
        apply List.ext_getElem
        · simp
        · intro i h1 h2; simp
      have e2 : many N [] = 0 := List.countP_eq_zero.2 (fun x _ => by simp)
      simp only [List.take_zero, List.flatMap_nil, e1, e2] at this
      exact this
  · rw [if_neg c]
    exact evn (by rw [decide_eq_false c]; simp) (evs rfl)

/-! ### laws_FnCountThresholds spec_CountThresholds impl_CountThresholds impl_FindTrade spec_DrawCountThresholds -/
theorem draw_some (l : List Int) (hl : (l.length : Int) ≤ 65536) (hb : ∀ x ∈ l, (Lit.int .u8 x).wf = true) : ∃ r, spec_DrawCountThresholds.f l = some r := by
  have hby : ∀ x ∈ l, 0 ≤ x ∧ x ≤ 255 := by
    intro x hx
    have := hb x hx
    simp only [Lit.wf, Bool.and_eq_true, decide_eq_true_eq, IntKind.min, IntKind.max, IntKind.signed, IntKind.bits] at this
    simp at this
    omega
  have hnext : ∃ x s t, spec_l1Cur_next.f l 0 0 = some (x, s, t) ∧ 0 ≤ x := by
    unfold spec_l1Cur_next.f
    by_cases h : (0 : Int) < (l.length : Int)
    · rw [if_pos h, if_pos (by omega)]
      have hx : 0 ≤ wrap64 (rd l 0) := by
        have hm : l.getD 0 0 ∈ l := by
          rw [List.getD_eq_getElem?_getD, List.getElem?_eq_getElem (show 0 < l.length by omega)]; exact List.getElem_mem _
        have := hby _ hm
        rw [show (0 : Int) = ((0 : Nat) : Int) from rfl, rd_nat, w64 (by omega) (by omega)]; exact this.1
      rw [if_pos (show wrap64 (0 + 1) ≤ (l.length : Int) by rw [w64 (by omega) (by omega)]; omega)]
      exact ⟨_, _, _, rfl, hx⟩
    · rw [if_neg h]
      rw [if_neg (show ¬ wrap64 (0 + 1) ≤ (l.length : Int) by rw [w64 (by omega) (by omega)]; omega)]
      exact ⟨_, _, _, rfl, by decide +kernel⟩
  obtain ⟨x, s, t, hn, hx⟩ := hnext
  unfold spec_DrawCountThresholds.f spec_l1Cur_among.f spec_l1Cur_pick.f
  rw [hn]
  simp only [List.length_cons, List.length_nil, Option.bind_some]
  rw [if_neg (by decide), if_neg (by decide), if_neg (by decide)]
  simp only [Option.bind_some]
  have h7 : 0 ≤ Int.tmod x ((0 + 1 + 1 + 1 + 1 + 1 + 1 + 1 : Nat) : Int) ∧ Int.tmod x ((0 + 1 + 1 + 1 + 1 + 1 + 1 + 1 : Nat) : Int) < ((0 + 1 + 1 + 1 + 1 + 1 + 1 + 1 : Nat) : Int) := by
    rw [Int.tmod_eq_emod_of_nonneg hx]
    exact ⟨Int.emod_nonneg _ (by decide), Int.emod_lt_of_pos _ (by decide)⟩
  rw [if_pos h7.1, if_pos h7.2]
  exact ⟨_, rfl⟩
def trow (n x : Nat) : List Int := (List.range (2 ^ n)).map fun k => ((bit x k : Nat) : Int)
def cfree (n : Nat) : Nat → Nat → Nat
  | _, 0 => 0
  | x, d + 1 => (if (trade (n : Int) (trow n x)).2 = true then 0 else 1) + cfree n (x + 1) d
theorem fc_l1 (n : Nat) (hn : n ≤ 2) (M c : Int) (x : Nat) (hx : x < 65536) (R : Bool)
    (hK : Ev (fun k => (impl_FindTrade.f k (n : Int) (trow n x)).bind fun bt => (if bt.2 = true then (laws_FnCountThresholds.l0 k (n : Int) M c (wrap64 ((x : Int) + 1))) else (laws_FnCountThresholds.l0 k (n : Int) M (wrap64 (c + 1)) (wrap64 ((x : Int) + 1))))) R) :
    ∀ e j, j + e = 2 ^ n → Ev (fun k => laws_FnCountThresholds.l1 k (n : Int) M c (x : Int) ((List.range j).map fun k => ((bit x k : Nat) : Int)) (j : Int)) R := by
  have hp := pow4 n (by omega)
  intro e
  induction e with
  | zero =>
    intro j hj
    obtain rfl : j = 2 ^ n := by omega
    exact Ev.step (fun k => laws_FnCountThresholds.l1.eq_2 ..) (evp (by omega) (evn (by rw [shl1 n (by omega)]; omega) hK))
  | succ e ih =>
    intro j hj
    have h1 := ih (j + 1) (by omega)
    refine Ev.step (fun k => laws_FnCountThresholds.l1.eq_2 ..) (evp (by omega) (evp (by rw [shl1 n (by omega)]; omega) (evp (by omega) (evp (by simp; omega) ?_))))
    rw [digit x j (by omega) (by omega), w64s j (by omega)]
    rw [List.range_succ, List.map_append] at h1
    exact h1
theorem fc_l0 (n : Nat) (hn : n ≤ 2) (M : Int) : ∀ (d x : Nat) (c : Nat), x + d = 2 ^ (2 ^ n) → c + d ≤ 1000 → Ev (fun k => laws_FnCountThresholds.l0 k (n : Int) M (c : Int) (x : Int)) ((((c + cfree n x d : Nat) : Int)) == M) := by
  have hN : 2 ^ (2 ^ n) ≤ 16 := Nat.pow_le_pow_right (n := 2) (by decide) (show 2 ^ n ≤ 4 from Nat.pow_le_pow_right (n := 2) (by decide) hn)
  intro d
  induction d with
  | zero =>
    intro x c hx hc
    refine Ev.step (fun k => laws_FnCountThresholds.l0.eq_2 ..) (evp (by omega) (evn (by rw [shl_two n (by omega)]; omega) (evs ?_)))
    simp [cfree]
  | succ d ih =>
    intro x c hx hc
    refine Ev.step (fun k => laws_FnCountThresholds.l0.eq_2 ..) (evp (by omega) (evp (by rw [shl_two n (by omega)]; omega) ?_))
    refine fc_l1 n hn M c x (by omega) _ ?_ (2 ^ n) 0 (by omega)
    refine evb (iFind (n : Int) (trow n x) (by rw [show (trow n x).length = 2 ^ n by simp [trow]]; have := pow4 n (by omega); omega)) ?_
    rw [w64s x (by omega)]
    simp only [cfree]
    by_cases e : (trade (n : Int) (trow n x)).2 = true
    · rw [if_pos e]
      refine evp e ?_
      rw [Nat.zero_add]
      exact ih (x + 1) c (by omega) (by omega)
    · rw [if_neg e]
      refine evn e ?_
      rw [w64s c (by omega), ← Nat.add_assoc]
      exact ih (x + 1) (c + 1) (by omega) (by omega)
theorem fc_all : ((cfree 0 0 2 : Nat) : Int) = 2 ∧ ((cfree 1 0 4 : Nat) : Int) = thrs 1 ∧ ((cfree 2 0 16 : Nat) : Int) = thrs 2 := by decide +kernel
theorem fc_j1 (n : Int) (h : (thrV n).2 = true) (hn : n ≤ 2) : Ev (fun k => laws_FnCountThresholds.l0 k n (thrV n).1 0 0) true := by
  unfold thrV at h ⊢
  by_cases c : 0 ≤ n ∧ n ≤ 4
  · rw [if_pos c]
    obtain ⟨m, rfl⟩ := Int.eq_ofNat_of_zero_le c.1
    have hm : m = 0 ∨ m = 1 ∨ m = 2 := by omega
    have key := fc_l0 m (by omega)
    obtain ⟨f0, f1, f2⟩ := fc_all
    rcases hm with rfl | rfl | rfl
    · refine evr (key 2 2 0 0 (by decide) (by decide)) ?_
      rw [Nat.zero_add, f0]; rfl
    · rw [if_neg (by decide)]
      refine evr (key (thrs 1) 4 0 0 (by decide) (by decide)) ?_
      rw [Nat.zero_add, f1]; simp
    · rw [if_neg (by decide)]
      refine evr (key (thrs 2) 16 0 0 (by decide) (by decide)) ?_
      rw [Nat.zero_add, f2]; simp
  · rw [if_neg c] at h; cases h
theorem fcLaw (l : List Int) (hb : ∀ x ∈ l, (Lit.int .u8 x).wf = true) : Ev (fun k => laws_FnCountThresholds.f k l) true := by
  unfold laws_FnCountThresholds.f laws_vBig.f
  simp only [Option.bind_some]
  by_cases c : (l.length : Int) > 65536
  · exact evp (decide_eq_true c) (evs rfl)
  · refine evn (by rw [decide_eq_false c]; simp) ?_
    obtain ⟨r, hr⟩ := draw_some l (by omega) hb
    refine evb (evc hr) (evb (iCount r) (evb (sCount r) (evp rfl ?_)))
    refine Ev.step (fun k => laws_FnCountThresholds.j0.eq_2 ..) (evn (by simp) ?_)
    by_cases h : (thrV r).2 = true
    · refine evp h (Ev.step (fun k => laws_FnCountThresholds.j1.eq_2 ..) ?_)
      by_cases hr2 : r > 2
      · exact evp (decide_eq_true hr2) (evs rfl)
      · exact evn (by rw [decide_eq_false hr2]; simp) (fc_j1 r h (by omega))
    · exact evn h (Ev.step (fun k => laws_FnCountThresholds.j1.eq_2 ..) (evp rfl (evs rfl)))

/-! ### laws_FnCountThresholds -/
theorem law (l : List Int) (hb : ∀ x ∈ l, (Lit.int .u8 x).wf = true) : Ev (fun k => laws_FnCountThresholds.f k l) true := fcLaw l hb

end Go.Proofs.Ythfkgbkhkahmdaa.LFnCountThresholds
