-- Own text.
import Derived.Test.YtkgekmpnbhomgaaMFnBitsx12
import Derived.Test.YtkgekmpnbhomgaaZFnBitsBase
namespace Go.Proofs.Ytkgekmpnbhomgaa.LFnBits
open Go Go.RowKit Go.Proofs.Ytkgekmpnbhomgaa.Base Go.Proofs.Ytkgekmpnbhomgaa.PFnBits Go.Proofs.YtkgekmpnbhomgaaW.PrintWords Go.Proofs.YtkgekmpnbhomgaaW.PrintLast Go.Proofs.YtkgekmpnbhomgaaW.PrintMore
set_option linter.unusedVariables false
set_option linter.unusedSimpArgs false
set_option maxRecDepth 4000
theorem l1In (a b c : Int) : spec_l1In.f a b c = some (decide (b ≤ a ∧ a ≤ c)) := by
 unfold spec_l1In.f; split <;> simp_all <;> omega
theorem within (a b c : Int) : impl_within.f a b c = some (decide (b ≤ a ∧ a ≤ c)) := by
 unfold impl_within.f; split <;> simp_all <;> omega
theorem l2Table_l0 (l : List Int) (hx : l.length < 4611686018427387904) : ∀ (d i : Nat), i + d = l.length →
  Ev (fun k => spec_l2Table.l0 k l (i : Int)) ((l.drop i).all fun x => decide (0 ≤ x ∧ x ≤ 1)) := by
 intro d
 induction d with
 | zero =>
  intro i hi
  refine Ev.step (fun k => spec_l2Table.l0.eq_2 ..) (evn (by omega) (evs ?_))
  simp [List.drop_of_length_le (show l.length ≤ i by omega)]
 | succ d ih =>
  intro i hi
  refine Ev.step (fun k => spec_l2Table.l0.eq_2 ..) (evp (by omega) (evp (by omega) ?_))
  rw [w64s i (by omega), rd_nat, l1In, List.drop_eq_getElem_cons (show i < l.length by omega)]
  simp only [List.getD_eq_getElem?_getD, List.getElem?_eq_getElem (show i < l.length by omega), Option.getD_some, Option.bind_some, List.all_cons]
  by_cases e : 0 ≤ l[i] ∧ l[i] ≤ 1
  ·
   refine evp (by simpa using e) (evr (ih (i + 1) (by omega)) (by simp [e]))
  ·
   refine evn (by simpa using e) (evs (by simp [e]))
theorem l2Table (n : Int) (l : List Int) (hx : l.length < 4611686018427387904) : Ev (fun k => spec_l2Table.f k n l) (isTab n l) := by
 unfold spec_l2Table.f isTab
 rw [l1In]
 simp only [Option.bind_some]
 by_cases h : 0 ≤ n ∧ n ≤ 4
 ·
  refine evp (by simpa using h) (evp h.1 (Ev.step (fun k => spec_l2Table.j0.eq_2 ..) ?_))
  obtain ⟨m, rfl⟩ := Int.eq_ofNat_of_zero_le h.1
  rw [shl1 m (by omega)]
  by_cases e : l.length = 2 ^ m
  ·
   refine evn (by simp [e]) (evr (l2Table_l0 l hx l.length 0 (by omega)) (by simp [e]; omega))
  ·
   refine evp (by simp; exact_mod_cast e) (evs (by simp [e]))
 ·
  refine evn (by simpa using h) (Ev.step (fun k => spec_l2Table.j0.eq_2 ..) (evp rfl (evs (by simp [h]))))
theorem allWithin_l0 (lo up : Int) (l : List Int) (hx : l.length < 4611686018427387904) : ∀ (d i : Nat), i + d = l.length →
  Ev (fun k => impl_allWithin.l0 k lo up l (l.length : Int) (i : Int)) ((l.drop i).all fun x => decide (lo ≤ x ∧ x ≤ up)) := by
 intro d
 induction d with
 | zero =>
  intro i hi
  refine Ev.step (fun k => impl_allWithin.l0.eq_2 ..) (evn (by omega) (evs ?_))
  simp [List.drop_of_length_le (show l.length ≤ i by omega)]
 | succ d ih =>
  intro i hi
  refine Ev.step (fun k => impl_allWithin.l0.eq_2 ..) (evp (by omega) (evp (by omega) (evp (by omega) ?_)))
  rw [w64s i (by omega), rd_nat, within, List.drop_eq_getElem_cons (show i < l.length by omega)]
  simp only [List.getD_eq_getElem?_getD, List.getElem?_eq_getElem (show i < l.length by omega), Option.getD_some, Option.bind_some, List.all_cons]
  by_cases e : lo ≤ l[i] ∧ l[i] ≤ up
  ·
   refine evp (by simpa using e) (evr (ih (i + 1) (by omega)) (by simp [e]))
  ·
   refine evn (by simpa using e) (evs (by simp [e]))
theorem allWithin (l : List Int) (lo up : Int) (hx : l.length < 4611686018427387904) : Ev (fun k => impl_allWithin.f k l lo up) (l.all fun x => decide (lo ≤ x ∧ x ≤ up)) := by
 unfold impl_allWithin.f
 exact allWithin_l0 lo up l hx l.length 0 (by omega)
theorem isTable (n : Int) (l : List Int) (hx : l.length < 4611686018427387904) : Ev (fun k => impl_isTable.f k n l) (isTab n l) := by
 unfold impl_isTable.f isTab
 rw [within]
 simp only [Option.bind_some]
 by_cases h : 0 ≤ n ∧ n ≤ 4
 ·
  obtain ⟨m, rfl⟩ := Int.eq_ofNat_of_zero_le h.1
  refine evp (by simpa using h) (evp h.1 ?_)
  rw [shl1 m (by omega)]
  by_cases e : l.length = 2 ^ m
  ·
   refine evp (by exact_mod_cast e) (evb (allWithin l 0 1 hx) (evs (by simp [e]; omega)))
  ·
   refine evn (by exact_mod_cast e) (evs (by simp [e]))
 ·
  refine evn (by simpa using h) (evs (by simp [h]))
theorem isLabel (x : Int) : impl_isLabel.f x = some (decide (x = 1 ∨ x = -1)) := by
 unfold impl_isLabel.f
 by_cases e : x = 1
 ·
  rw [if_pos e, decide_eq_true (.inl e)]
 ·
  rw [if_neg e]; congr 1; rw [Bool.eq_iff_iff]; simp [e]
theorem l2Dot_l0 (a b : List Int) (M : Int) (hM : 0 ≤ M ∧ M ≤ 1000000000000) (hab : ∀ i, -M ≤ a.getD i 0 * b.getD i 0 ∧ a.getD i 0 * b.getD i 0 ≤ M) (hl : a.length ≤ 1000) (hb : a.length ≤ b.length) : ∀ (d i : Nat) (s : Int), i + d = a.length → -(M * i) ≤ s → s ≤ M * i →
  Ev (fun k => spec_l2Dot.l0 k a b s (i : Int)) (s + dot (a.drop i) (b.drop i)) := by
 intro d
 induction d with
 | zero =>
  intro i s hi h0 hs
  exact Ev.step (fun k => spec_l2Dot.l0.eq_2 ..) (evn (by omega) (evs (by rw [List.drop_of_length_le (show a.length ≤ i by omega)]; simp [dot])))
 | succ d ih =>
  intro i s hi h0 hs
  have hm := hab i
  have hMi : M * (i : Int) ≤ 1000000000000 * 1000 := Int.mul_le_mul hM.2 (by omega) (by omega) (by omega)
  have hMs : M * ((i + 1 : Nat) : Int) = M * i + M := by rw [show ((i + 1 : Nat) : Int) = (i : Int) + 1 by omega, Int.mul_add]; omega
  refine Ev.step (fun k => spec_l2Dot.l0.eq_2 ..) (evp (by omega) (evp (by omega) (evp (by omega) ?_)))
  rw [rd_nat, rd_nat, w64s i (by omega), w64 (x := a.getD i 0 * b.getD i 0) (by omega) (by omega), w64 (x := s + a.getD i 0 * b.getD i 0) (by omega) (by omega)]
  refine evr (ih (i + 1) _ (by omega) (by omega) (by omega)) ?_
  rw [List.drop_eq_getElem_cons (show i < a.length by omega), List.drop_eq_getElem_cons (show i < b.length by omega)]
  simp only [List.getD_eq_getElem?_getD, List.getElem?_eq_getElem (show i < a.length by omega), List.getElem?_eq_getElem (show i < b.length by omega), Option.getD_some, dot]; omega
theorem getD_in {l : List Int} {A : Int} (hA : 0 ≤ A) (h : ∀ x ∈ l, -A ≤ x ∧ x ≤ A) (i : Nat) : -A ≤ l.getD i 0 ∧ l.getD i 0 ≤ A := by
 by_cases hi : i < l.length
 ·
  rw [List.getD_eq_getElem?_getD, List.getElem?_eq_getElem hi]; exact h _ (List.getElem_mem hi)
 ·
  rw [List.getD_eq_getElem?_getD, List.getElem?_eq_none (by omega)]; simp; omega
theorem l2Dot (a b : List Int) (A B : Int) (hA : 0 ≤ A ∧ A ≤ 1000000) (hB : 0 ≤ B ∧ B ≤ 1000000) (ha : ∀ x ∈ a, -A ≤ x ∧ x ≤ A) (hb : ∀ x ∈ b, -B ≤ x ∧ x ≤ B) (hl : a.length ≤ 1000) (hab : a.length ≤ b.length) : Ev (fun k => spec_l2Dot.f k a b) (dot a b) := by
 unfold spec_l2Dot.f
 have hM : A * B ≤ 1000000 * 1000000 := Int.mul_le_mul hA.2 hB.2 hB.1 (by omega)
 have hM0 := Int.mul_nonneg hA.1 hB.1
 exact evr (l2Dot_l0 a b (A * B) ⟨hM0, by omega⟩ (fun i => mul_bd (getD_in hA.1 ha i) (getD_in hB.1 hb i)) hl hab a.length 0 0 (by omega) (by simp) (by simp)) (by simp)
theorem product_l0 (a b : List Int) (M : Int) (hM : 0 ≤ M ∧ M ≤ 1000000000000) (hab : ∀ i, -M ≤ a.getD i 0 * b.getD i 0 ∧ a.getD i 0 * b.getD i 0 ≤ M) (hl : a.length ≤ 1000) (hb : a.length ≤ b.length) : ∀ (d i : Nat) (s : Int), i + d = a.length → -(M * i) ≤ s → s ≤ M * i →
  Ev (fun k => impl_product.l0 k b s a (a.length : Int) (i : Int)) (s + dot (a.drop i) (b.drop i)) := by
 intro d
 induction d with
 | zero =>
  intro i s hi h0 hs
  exact Ev.step (fun k => impl_product.l0.eq_2 ..) (evn (by omega) (evs (by rw [List.drop_of_length_le (show a.length ≤ i by omega)]; simp [dot])))
 | succ d ih =>
  intro i s hi h0 hs
  have hm := hab i
  have hMi : M * (i : Int) ≤ 1000000000000 * 1000 := Int.mul_le_mul hM.2 (by omega) (by omega) (by omega)
  have hMs : M * ((i + 1 : Nat) : Int) = M * i + M := by rw [show ((i + 1 : Nat) : Int) = (i : Int) + 1 by omega, Int.mul_add]; omega
  refine Ev.step (fun k => impl_product.l0.eq_2 ..) (evp (by omega) (evp (by omega) (evp (by omega) (evp (by omega) ?_))))
  rw [rd_nat, rd_nat, w64s i (by omega), w64 (x := a.getD i 0 * b.getD i 0) (by omega) (by omega), w64 (x := s + a.getD i 0 * b.getD i 0) (by omega) (by omega)]
  refine evr (ih (i + 1) _ (by omega) (by omega) (by omega)) ?_
  rw [List.drop_eq_getElem_cons (show i < a.length by omega), List.drop_eq_getElem_cons (show i < b.length by omega)]
  simp only [List.getD_eq_getElem?_getD, List.getElem?_eq_getElem (show i < a.length by omega), List.getElem?_eq_getElem (show i < b.length by omega), Option.getD_some, dot]; omega
theorem getD_in' {l : List Int} {A : Int} (hA : 0 ≤ A) (h : ∀ x ∈ l, -A ≤ x ∧ x ≤ A) (i : Nat) : -A ≤ l.getD i 0 ∧ l.getD i 0 ≤ A := by
 by_cases hi : i < l.length
 ·
  rw [List.getD_eq_getElem?_getD, List.getElem?_eq_getElem hi]; exact h _ (List.getElem_mem hi)
 ·
  rw [List.getD_eq_getElem?_getD, List.getElem?_eq_none (by omega)]; simp; omega
theorem product (a b : List Int) (A B : Int) (hA : 0 ≤ A ∧ A ≤ 1000000) (hB : 0 ≤ B ∧ B ≤ 1000000) (ha : ∀ x ∈ a, -A ≤ x ∧ x ≤ A) (hb : ∀ x ∈ b, -B ≤ x ∧ x ≤ B) (hl : a.length ≤ 1000) (hab : a.length ≤ b.length) : Ev (fun k => impl_product.f k a b) (dot a b) := by
 unfold impl_product.f
 have hM : A * B ≤ 1000000 * 1000000 := Int.mul_le_mul hA.2 hB.2 hB.1 (by omega)
 have hM0 := Int.mul_nonneg hA.1 hB.1
 exact evr (product_l0 a b (A * B) ⟨hM0, by omega⟩ (fun i => mul_bd (getD_in' hA.1 ha i) (getD_in' hB.1 hb i)) hl hab a.length 0 0 (by omega) (by simp) (by simp)) (by simp)
theorem l2Side (a : List Int) (b : Int) (x : List Int) (A B : Int) (hA : 0 ≤ A ∧ A ≤ 1000000) (hB : 0 ≤ B ∧ B ≤ 1000000) (ha : ∀ x ∈ a, -A ≤ x ∧ x ≤ A) (hb : ∀ y ∈ x, -B ≤ y ∧ y ≤ B) (hl : a.length ≤ 1000) (hab : a.length ≤ x.length) : Ev (fun k => spec_l2Side.f k a b x) (sideV a b x) := by
 unfold spec_l2Side.f sideV
 refine evb (l2Dot a x A B hA hB ha hb hl hab) ?_
 by_cases e : dot a x ≥ b
 ·
  exact evp e (evs (by rw [if_pos e]))
 ·
  exact evn e (evs (by rw [if_neg e]))
theorem iSide (a : List Int) (b : Int) (x : List Int) (A B : Int) (hA : 0 ≤ A ∧ A ≤ 1000000) (hB : 0 ≤ B ∧ B ≤ 1000000) (ha : ∀ x ∈ a, -A ≤ x ∧ x ≤ A) (hb : ∀ y ∈ x, -B ≤ y ∧ y ≤ B) (hl : a.length ≤ 1000) (hab : a.length ≤ x.length) : Ev (fun k => impl_Plane_side.f k a b x) (sideV a b x) := by
 unfold impl_Plane_side.f sideV
 refine evb (product a x A B hA hB ha hb hl hab) ?_
 by_cases e : dot a x ≥ b
 ·
  exact evp e (evs (by rw [if_pos e]))
 ·
  exact evn e (evs (by rw [if_neg e]))
theorem l2BitPoint_l0 (n k : Nat) (hn : n ≤ 8) (hk : k < 2 ^ 62) : ∀ (d i : Nat) (out : List Int), i + d = n → out.length = i →
  Ev (fun f => spec_l2BitPoint.l0 f (n : Int) (k : Int) out (i : Int)) (out ++ (List.range' i d).map fun i => (bit k i : Int)) := by
 intro d
 induction d with
 | zero =>
  intro i out hi ho
  exact Ev.step (fun k => spec_l2BitPoint.l0.eq_2 ..) (evn (by omega) (evs (by simp)))
 | succ d ih =>
  intro i out hi ho
  refine Ev.step (fun k => spec_l2BitPoint.l0.eq_2 ..) (evp (by omega) (evp (by omega) (evp (by omega) ?_)))
  rw [digit k i (by omega) (by omega), w64s i (by omega)]
  refine evr (ih (i + 1) _ (by omega) (by simp; omega)) ?_
  simp [List.range'_succ]
theorem l2BitPoint (n k : Nat) (hn : n ≤ 8) (hk : k < 2 ^ 62) : Ev (fun f => spec_l2BitPoint.f f (n : Int) (k : Int)) (bitPt n k) := by
 unfold spec_l2BitPoint.f bitPt
 refine evr (l2BitPoint_l0 n k hn hk n 0 [] (by omega) rfl) ?_
 rw [List.range_eq_range']; rfl
theorem bitPoint_l0 (n k : Nat) (hn : n ≤ 8) (hk : k < 2 ^ 62) : ∀ (d i : Nat) (out : List Int), i + d = n → out.length = i →
  Ev (fun f => impl_bitPoint.l0 f (k : Int) out (n : Int) (i : Int)) (out ++ (List.range' i d).map fun i => (bit k i : Int)) := by
 intro d
 induction d with
 | zero =>
  intro i out hi ho
  exact Ev.step (fun k => impl_bitPoint.l0.eq_2 ..) (evn (by omega) (evs (by simp)))
 | succ d ih =>
  intro i out hi ho
  refine Ev.step (fun k => impl_bitPoint.l0.eq_2 ..) (evp (by omega) (evp (by omega) (evp (by omega) ?_)))
  rw [digit k i (by omega) (by omega), w64s i (by omega)]
  refine evr (ih (i + 1) _ (by omega) (by simp; omega)) ?_
  simp [List.range'_succ]
theorem bitPoint (n k : Nat) (hn : n ≤ 8) (hk : k < 2 ^ 62) : Ev (fun f => impl_bitPoint.f f (n : Int) (k : Int)) (bitPt n k) := by
 unfold impl_bitPoint.f bitPt
 refine evr (bitPoint_l0 n k hn hk n 0 [] (by omega) rfl) ?_
 rw [List.range_eq_range']; rfl
theorem l2TableOf_l0 (n : Nat) (hn : n ≤ 4) (a : List Int) (b : Int) (A : Int) (hA : 0 ≤ A ∧ A ≤ 1000000) (ha : ∀ x ∈ a, -A ≤ x ∧ x ≤ A) (hl : a.length ≤ n) : ∀ (d c : Nat) (out : List Int), c + d = 2 ^ n → out.length = c →
  Ev (fun k => spec_l2TableOf.l0 k (n : Int) out (c : Int) a b) (out ++ (List.range' c d).map fun k => if dot a (bitPt n k) ≥ b then 1 else 0) := by
 have hp := pow4 n hn
 intro d
 induction d with
 | zero =>
  intro c out hc ho
  refine Ev.step (fun k => spec_l2TableOf.l0.eq_2 ..) (evp (by omega) ?_)
  rw [shl1 n (by omega)]
  exact evn (by omega) (evs (by simp))
 | succ d ih =>
  intro c out hc ho
  refine Ev.step (fun k => spec_l2TableOf.l0.eq_2 ..) (evp (by omega) ?_)
  rw [shl1 n (by omega), w64s c (by omega)]
  refine evp (by omega) (evb (l2BitPoint n c (by omega) (by omega)) (evb (l2Side a b _ A 1 hA (by omega) ha (bitPt_in n c) (by omega) (by rw [bitPt_len]; exact hl)) (evp (by omega) ?_)))
  have hv : wrap64 (Int.tdiv (wrap64 (sideV a b (bitPt n c) + 1)) 2) = if dot a (bitPt n c) ≥ b then 1 else 0 := by
   unfold sideV
   split
   ·
    rw [w64 (x := 1 + 1) (by omega) (by omega), show Int.tdiv (1 + 1) 2 = 1 from rfl, w64 (by omega) (by omega)]
   ·
    rw [w64 (x := -1 + 1) (by omega) (by omega), show Int.tdiv (-1 + 1) 2 = 0 from rfl, w64 (by omega) (by omega)]
  rw [hv]
  refine evr (ih (c + 1) _ (by omega) (by simp; omega)) ?_
  simp [List.range'_succ]
theorem l2TableOf (n : Nat) (hn : n ≤ 4) (a : List Int) (b : Int) (A : Int) (hA : 0 ≤ A ∧ A ≤ 1000000) (ha : ∀ x ∈ a, -A ≤ x ∧ x ≤ A) (hl : a.length ≤ n) : Ev (fun k => spec_l2TableOf.f k (n : Int) a b) (tabOf n a b) := by
 unfold spec_l2TableOf.f tabOf
 refine evr (l2TableOf_l0 n hn a b A hA ha hl (2 ^ n) 0 [] (by omega) rfl) ?_
 rw [List.range_eq_range']; rfl
theorem iPtable_l0 (n : Nat) (hn : n ≤ 4) (a : List Int) (b : Int) (A : Int) (hA : 0 ≤ A ∧ A ≤ 1000000) (ha : ∀ x ∈ a, -A ≤ x ∧ x ≤ A) (hl : a.length = n) : ∀ (d c : Nat) (out : List Int), c + d = 2 ^ n → out.length = c →
  Ev (fun k => impl_Plane_table.l0 k (n : Int) out ((2 ^ n : Nat) : Int) (c : Int) a b) (out ++ (List.range' c d).map fun k => if dot a (bitPt n k) ≥ b then 1 else 0) := by
 have hp := pow4 n hn
 intro d
 induction d with
 | zero =>
  intro c out hc ho
  exact Ev.step (fun k => impl_Plane_table.l0.eq_2 ..) (evn (by omega) (evs (by simp)))
 | succ d ih =>
  intro c out hc ho
  refine Ev.step (fun k => impl_Plane_table.l0.eq_2 ..) ?_
  rw [w64s c (by omega)]
  refine evp (by omega) (evb (bitPoint n c (by omega) (by omega)) (evb (iSide a b _ A 1 hA (by omega) ha (bitPt_in n c) (by omega) (by rw [bitPt_len]; omega)) (evp (by omega) ?_)))
  have hv : wrap64 (Int.tdiv (wrap64 (sideV a b (bitPt n c) + 1)) 2) = if dot a (bitPt n c) ≥ b then 1 else 0 := by
   unfold sideV
   split
   ·
    rw [w64 (x := 1 + 1) (by omega) (by omega), show Int.tdiv (1 + 1) 2 = 1 from rfl, w64 (by omega) (by omega)]
   ·
    rw [w64 (x := -1 + 1) (by omega) (by omega), show Int.tdiv (-1 + 1) 2 = 0 from rfl, w64 (by omega) (by omega)]
  rw [hv]
  refine evr (ih (c + 1) _ (by omega) (by simp; omega)) ?_
  simp [List.range'_succ]
theorem iPtable (a : List Int) (b : Int) (hn : a.length ≤ 4) (A : Int) (hA : 0 ≤ A ∧ A ≤ 1000000) (ha : ∀ x ∈ a, -A ≤ x ∧ x ≤ A) : Ev (fun k => impl_Plane_table.f k a b) (tabOf a.length a b) := by
 unfold impl_Plane_table.f tabOf
 rw [shl1 a.length (by omega)]
 refine evr (iPtable_l0 a.length hn a b A hA ha rfl (2 ^ a.length) 0 [] (by omega) rfl) ?_
 rw [List.range_eq_range']; rfl
theorem l2Numbers_l0 (l : List Int) (b : Int) (hb : 0 ≤ b ∧ b ≤ 1000000000) (hx : l.length < 4611686018427387904) : ∀ (d i : Nat), i + d = l.length →
  Ev (fun k => spec_l2Numbers.l0 k l b (i : Int)) (inB (-b) b (l.drop i)) := by
 intro d
 induction d with
 | zero =>
  intro i hi
  exact Ev.step (fun k => spec_l2Numbers.l0.eq_2 ..) (evn (by omega) (evs (by rw [List.drop_of_length_le (show l.length ≤ i by omega)]; rfl)))
 | succ d ih =>
  intro i hi
  refine Ev.step (fun k => spec_l2Numbers.l0.eq_2 ..) (evp (by omega) (evp (by omega) ?_))
  rw [w64s i (by omega), rd_nat, w64 (x := -b) (by omega) (by omega), l1In, List.drop_eq_getElem_cons (show i < l.length by omega)]
  simp only [List.getD_eq_getElem?_getD, List.getElem?_eq_getElem (show i < l.length by omega), Option.getD_some, Option.bind_some, inB, List.all_cons]
  by_cases e : -b ≤ l[i] ∧ l[i] ≤ b
  ·
   exact evp (by simpa using e) (evr (ih (i + 1) (by omega)) (by rw [decide_eq_true e]; rfl))
  ·
   exact evn (by simpa using e) (evs (by rw [decide_eq_false e]; rfl))
theorem l2Numbers (l : List Int) (b : Int) (hb : 0 ≤ b ∧ b ≤ 1000000000) (hx : l.length < 4611686018427387904) : Ev (fun k => spec_l2Numbers.f k l b) (inB (-b) b l) := by
 unfold spec_l2Numbers.f
 exact l2Numbers_l0 l b hb hx l.length 0 (by omega)
theorem l2Plane (l : List Int) (b : Int) (hl : l.length < 4611686018427387904) : Ev (fun k => spec_l2Plane.f k l b) (planeB l b) := by
 unfold spec_l2Plane.f planeB
 rw [l1In, l1In]; simp only [Option.bind_some]
 by_cases e : 1 ≤ l.length ∧ l.length ≤ 4
 ·
  refine evp (by simp; omega) (evb (l2Numbers l 99 (by omega) hl) ?_)
  rw [decide_eq_true e, Bool.true_and]
  by_cases e' : inB (-99) 99 l = true
  ·
   exact evp e' (evs (by rw [e', Bool.true_and]))
  ·
   exact evn e' (evs (by rw [Bool.eq_false_iff.2 e']; rfl))
 ·
  exact evn (by simp; omega) (evs (by rw [decide_eq_false e]; rfl))
theorem iIsPlane (l : List Int) (b : Int) (hl : l.length < 4611686018427387904) : Ev (fun k => impl_IsPlane.f k l b) (planeB l b) := by
 unfold impl_IsPlane.f planeB
 rw [within, within]; simp only [Option.bind_some]
 by_cases e : 1 ≤ l.length ∧ l.length ≤ 4
 ·
  refine evp (by simp; omega) (evb (allWithin l (-99) 99 hl) ?_)
  rw [decide_eq_true e, Bool.true_and]
  by_cases e' : inB (-99) 99 l = true
  ·
   exact evp e' (evs (by rw [e', Bool.true_and]))
  ·
   exact evn e' (evs (by rw [Bool.eq_false_iff.2 e']; rfl))
 ·
  exact evn (by simp; omega) (evs (by rw [decide_eq_false e]; rfl))
theorem sPlaneTab (l : List Int) (b : Int) (hl : l.length < 4611686018427387904) : Ev (fun k => spec_PlaneTable.f k l b) (planeTab l b) := by
 unfold spec_PlaneTable.f planeTab
 refine evb (l2Plane l b hl) ?_
 by_cases e : planeB l b = true
 ·
  have h := (planeB_iff l b).1 e
  exact evp e (evb (l2TableOf l.length h.1.2 l b 99 (by omega) h.2.1 (Nat.le_refl _)) (evs (by rw [if_pos e])))
 ·
  exact evn e (evs (by rw [if_neg e]))
theorem iPlaneTab (l : List Int) (b : Int) (hl : l.length < 4611686018427387904) : Ev (fun k => impl_PlaneTable.f k l b) (planeTab l b) := by
 unfold impl_PlaneTable.f planeTab
 refine evb (iIsPlane l b hl) ?_
 by_cases e : planeB l b = true
 ·
  have h := (planeB_iff l b).1 e
  exact evp e (evb (iPtable l b h.1.2 99 (by omega) h.2.1) (evs (by rw [if_pos e])))
 ·
  exact evn e (evs (by rw [if_neg e]))
theorem iIsPoint (r : List Int) (hr : r.length ≤ 1048576) : Ev (fun k => impl_IsPoint.f k r) (pointB r) := by
 unfold impl_IsPoint.f pointB
 rw [within]; simp only [Option.bind_some]
 by_cases e : 1 ≤ r.length ∧ r.length ≤ 4
 ·
  refine evp (by simp; omega) (evb (allWithin r (-9) 9 (by omega)) (evs ?_))
  rw [decide_eq_true e, Bool.true_and]; rfl
 ·
  exact evn (by simp; omega) (evs (by rw [decide_eq_false e, Bool.false_and]))
theorem rdL_i (l : List (List Int)) (i : Nat) : rd_L2 l (i : Int) = rdl l i := by simp [rd_L2, rdl]
theorem iIsSample_l0 (p : List (List Int)) (y : List Int) (hx : p.length ≤ 1048576) (hr : ∀ r ∈ p, (r.length : Int) ≤ 1048576) (hy : y.length = p.length) : ∀ (d i : Nat), i + d = p.length →
  Ev (fun k => impl_IsSample.l0 k p (p.length : Int) (i : Int) p y) ((List.range' i d).all fun i => spok p i && lab1 (y.getD i 0)) := by
 intro d
 induction d with
 | zero =>
  intro i hi
  exact Ev.step (fun k => impl_IsSample.l0.eq_2 ..) (evn (by omega) (evs (by simp)))
 | succ d ih =>
  intro i hi
  have hri := hr _ (rdl_mem p i (by omega))
  refine Ev.step (fun k => impl_IsSample.l0.eq_2 ..) (evp (by omega) (evp (by omega) (evp (by omega) ?_)))
  rw [rdL_i, show rd_L2 p 0 = rdl p 0 from rdL_i p 0, List.range'_succ, List.all_cons]
  refine evb (iIsPoint _ (by omega)) ?_
  by_cases e1 : pointB (rdl p i) = true
  ·
   refine evp e1 (evp (by omega) ?_)
   by_cases e2 : (rdl p i).length = (rdl p 0).length
   ·
    refine evp (by omega) (evp (by omega) ?_)
    rw [rd_nat, isLabel]; simp only [Option.bind_some]
    by_cases e3 : lab1 (y.getD i 0) = true
    ·
     refine evp e3 ?_
     rw [w64s i (by omega)]
     refine evr (ih (i + 1) (by omega)) ?_
     rw [show (spok p i && lab1 (y.getD i 0)) = true by unfold spok; rw [e1, decide_eq_true e2, e3]; rfl]; rfl
    ·
     refine evn e3 (evs ?_)
     rw [Bool.eq_false_iff.2 e3, Bool.and_false]; rfl
   ·
    refine evn (by omega) (evs ?_)
    rw [show spok p i = false by unfold spok; rw [decide_eq_false e2, Bool.and_false]]; rfl
  ·
   refine evn e1 (evs ?_)
   rw [show spok p i = false by unfold spok; rw [Bool.eq_false_iff.2 e1]; rfl]; rfl
theorem iIsSample (p : List (List Int)) (y : List Int) (hx : p.length ≤ 1048576) (hr : ∀ r ∈ p, (r.length : Int) ≤ 1048576) : Ev (fun k => impl_IsSample.f k p y) (sampB p y) := by
 unfold impl_IsSample.f sampB
 have no : ∀ b, b = false → Ev (fun k => impl_IsSample.j0 k true p y) b := fun b e => Ev.step (fun k => impl_IsSample.j0.eq_2 ..) (evp rfl (evs e.symm))
 by_cases e1 : p.length ≤ 16
 ·
  refine evn (by omega) ?_
  by_cases e2 : y.length = p.length
  ·
   refine Ev.step (fun k => impl_IsSample.j0.eq_2 ..) (evn (by simp [e2]) (evr (iIsSample_l0 p y hx hr e2 p.length 0 (by omega)) ?_))
   rw [decide_eq_true e1, decide_eq_true e2, ← List.range_eq_range', all_both, labB_range, e2, Bool.true_and, Bool.true_and, Bool.and_comm]
  ·
   rw [show ((y.length : Int) != (p.length : Int)) = true by simp; omega]
   exact no _ (by simp [e2])
 ·
  exact evp (by omega) (no _ (by simp [e1]))
theorem iSuits (p : List (List Int)) (y : List Int) (l : List Int) (b : Int) (hx : p.length ≤ 1048576) (hr : ∀ r ∈ p, (r.length : Int) ≤ 1048576) (hl : l.length ≤ 1048576) : Ev (fun k => impl_suits.f k p y l b) (suitB p y l b) := by
 unfold impl_suits.f suitB
 refine evb (iIsSample p y hx hr) ?_
 by_cases e1 : sampB p y = true
 ·
  refine evp e1 (evb (iIsPlane l b (by omega)) ?_)
  by_cases e2 : planeB l b = true
  ·
   refine evp e2 ?_
   rw [e1, e2, show rd_L2 p 0 = rdl p 0 from rdL_i p 0]
   by_cases e3 : p.length = 0
   ·
    exact evp (by omega) (evs (by simp [e3]))
   ·
    refine evn (by omega) (evp (by omega) (evs ?_))
    rw [decide_eq_false e3, Bool.true_and, Bool.true_and, Bool.false_or, Bool.eq_iff_iff]; simp; omega
  ·
   exact evn e2 (evs (by simp [e2]))
 ·
  exact evn e1 (evs (by simp [e1]))
theorem iMistakes_l0 {p : List (List Int)} {y : List Int} {l : List Int} {b : Int} (h : suitB p y l b = true) : ∀ (d i : Nat), i + d = p.length →
  Ev (fun k => impl_Plane_mistakes.l0 k (errV l b p y i) p (p.length : Int) (i : Int) l b p y) (errV l b p y p.length) := by
 obtain ⟨h1, h2, h3, h4⟩ := suitB_at h
 have hpl := h3.1
 intro d
 induction d with
 | zero =>
  intro i hi
  refine Ev.step (fun k => impl_Plane_mistakes.l0.eq_2 ..) (evn (by omega) (evs ?_))
  rw [show i = p.length by omega]
 | succ d ih =>
  intro i hi
  have hp := h4 i (by omega)
  refine Ev.step (fun k => impl_Plane_mistakes.l0.eq_2 ..) (evp (by omega) (evp (by omega) (evp (by omega) ?_)))
  rw [show rd_L2 p (i : Int) = rdl p i from rdL_i p i]
  refine evb (iSide l b (rdl p i) 99 9 (by omega) (by omega) h3.2.1 hp.2 (by omega) (by omega)) (evp (by omega) ?_)
  have hlen := errV_len l b p y i
  have hs := ih (i + 1) (by omega)
  rw [errV_succ] at hs
  rw [rd_nat, w64s i (by omega)]
  by_cases e : sideV l b (rdl p i) = y.getD i 0
  ·
   refine evp e ?_
   rw [if_neg (by unfold errs; rw [decide_eq_false (fun h => h e)]; decide)] at hs
   exact hs
  ·
   refine evn e (evp (by omega) ?_)
   rw [if_pos (by unfold errs; exact decide_eq_true e)] at hs
   exact hs
theorem iMistakes {p : List (List Int)} {y : List Int} {l : List Int} {b : Int} (h : suitB p y l b = true) : Ev (fun k => impl_Plane_mistakes.f k l b p y) (errV l b p y p.length) := by
 unfold impl_Plane_mistakes.f
 have := iMistakes_l0 h p.length 0 (by omega)
 exact this
theorem iFits (p : List (List Int)) (y : List Int) (l : List Int) (b : Int) (hx : p.length ≤ 1048576) (hr : ∀ r ∈ p, (r.length : Int) ≤ 1048576) (hy : y.length ≤ 1048576) (hl : l.length ≤ 1048576) : Ev (fun k => impl_FitsSample.f k p y l b) (fitsV p y l b) := by
 unfold impl_FitsSample.f fitsV
 refine evb (iSuits p y l b hx hr hl) ?_
 by_cases e : suitB p y l b = true
 ·
  refine evp e (evb (iMistakes e) (evs ?_))
  rw [if_pos e]
  congr 1
  rw [Bool.eq_iff_iff]; simp
 ·
  exact evn e (evs (by rw [if_neg e]))
def CurOk (l : List Int) : Prop := (l.length : Int) ≤ 65536 ∧ ∀ x ∈ l, 0 ≤ x ∧ x ≤ 255
theorem cur_ok (l : List Int) (hl : (l.length : Int) ≤ 65536) (hb : ∀ x ∈ l, (Lit.int .u8 x).wf = true) : CurOk l := by
 refine ⟨hl, fun x hx => ?_⟩
 have := hb x hx
 simp only [Lit.wf, Bool.and_eq_true, decide_eq_true_eq, IntKind.min, IntKind.max, IntKind.signed, IntKind.bits] at this
 simp at this
 omega
theorem cur_and (y : Int) (h0 : 0 ≤ y) (h1 : y < 18446744073709551616) : 0 ≤ Go.bits .and .u64 (y / 1099511627776) 255 ∧ Go.bits .and .u64 (y / 1099511627776) 255 ≤ 255 := by
 obtain ⟨n, hn⟩ := Int.eq_ofNat_of_zero_le (show 0 ≤ y / 1099511627776 by omega)
 have hn2 : n < 2 ^ 64 := by omega
 have h := (bits_nat .u64 64 (by decide) (fun n h₀ h₁ => by rw [show IntKind.u64.wrap n = n % 18446744073709551616 by simp [IntKind.wrap, IntKind.bits, IntKind.signed]]; omega) n 255 hn2 (by decide)).1
 rw [hn, show (255 : Int) = ((255 : Nat) : Int) from rfl, h]
 have := @Nat.and_le_right n 255
 omega
theorem cur_u64 (z : Int) : 0 ≤ IntKind.u64.wrap z ∧ IntKind.u64.wrap z < 18446744073709551616 := by
 rw [show IntKind.u64.wrap z = z % 18446744073709551616 by simp [IntKind.wrap, IntKind.bits, IntKind.signed]]; omega
theorem cnext {l : List Int} (hl : CurOk l) (p s : Int) (hp : 0 ≤ p ∧ p ≤ 1000000) : ∃ x s', spec_l1Cur_next.f l p s = some (x, p + 1, s') ∧ 0 ≤ x ∧ x ≤ 255 := by
 have hr : 0 ≤ rd l p ∧ rd l p ≤ 255 := by
  obtain ⟨j, rfl⟩ := Int.eq_ofNat_of_zero_le hp.1
  rw [rd_nat]
  by_cases hj : j < l.length
  ·
   rw [List.getD_eq_getElem?_getD, List.getElem?_eq_getElem hj]; exact hl.2 _ (List.getElem_mem hj)
  ·
   rw [List.getD_eq_getElem?_getD, List.getElem?_eq_none (by omega)]; decide
 have ew : wrap64 (p + 1) = p + 1 := w64 (by omega) (by omega)
 have hw : ∀ z : Int, ∃ x s', (some (wrap64 (Go.bits .and .u64 ((IntKind.u64.wrap z) / 1099511627776) 255), p + 1, IntKind.u64.wrap z) : Option (Int × Int × Int)) = some (x, p + 1, s') ∧ 0 ≤ x ∧ x ≤ 255 := by
  intro z
  have h := cur_u64 z
  have h2 := cur_and _ h.1 h.2
  refine ⟨_, _, rfl, ?_⟩
  rw [w64 (by omega) (by omega)]; exact h2
 unfold spec_l1Cur_next.f
 rw [ew]
 by_cases h : p < (l.length : Int)
 ·
  rw [if_pos h, if_pos hp.1]
  by_cases h2 : p + 1 ≤ (l.length : Int)
  ·
   rw [if_pos h2]
   refine ⟨_, _, rfl, ?_⟩
   rw [w64 (by omega) (by omega)]; exact hr
  ·
   omega
 ·
  rw [if_neg h, if_neg (by omega)]
  exact hw _
theorem cur_tmod (x n : Int) (hx : 0 ≤ x) (hn : 0 < n) : 0 ≤ Int.tmod x n ∧ Int.tmod x n < n := by
 rw [Int.tmod_eq_emod_of_nonneg hx]
 exact ⟨Int.emod_nonneg _ (by omega), Int.emod_lt_of_pos _ hn⟩
theorem cpick {l : List Int} (hl : CurOk l) (p s n : Int) (hp : 0 ≤ p ∧ p ≤ 900000) : ∃ x p' s', spec_l1Cur_pick.f l p s n = some (x, p', s') ∧ 0 ≤ x ∧ (x < n ∨ n ≤ 1 ∧ x = 0) ∧ p ≤ p' ∧ p' ≤ p + 2 := by
 unfold spec_l1Cur_pick.f
 by_cases h1 : n ≤ 1
 ·
  rw [if_pos h1]; exact ⟨0, p, s, rfl, Int.le_refl _, .inr ⟨h1, rfl⟩, by omega, by omega⟩
 ·
  rw [if_neg h1]
  obtain ⟨x, s1, e, hx0, hx1⟩ := cnext hl p s (by omega)
  rw [e]; simp only [Option.bind_some]
  by_cases h2 : n > 200
  ·
   rw [if_pos h2]
   obtain ⟨y, s2, e2, hy0, hy1⟩ := cnext hl (p + 1) s1 (by omega)
   rw [e2]; simp only [Option.bind_some]
   rw [if_neg (by omega), w64 (x := x * 256) (by omega) (by omega), w64 (by omega) (by omega)]
   have := cur_tmod (x * 256 + y) n (by omega) (by omega)
   exact ⟨_, _, _, rfl, this.1, .inl this.2, by omega, by omega⟩
  ·
   rw [if_neg h2, if_neg (by omega)]
   have := cur_tmod x n hx0 (by omega)
   exact ⟨_, _, _, rfl, this.1, .inl this.2, by omega, by omega⟩
theorem cone {l : List Int} (hl : CurOk l) (p s n : Int) (hp : 0 ≤ p ∧ p ≤ 900000) : ∃ b p' s', spec_l1Cur_one.f l p s n = some (b, p', s') ∧ p ≤ p' ∧ p' ≤ p + 2 := by
 obtain ⟨x, p', s', e, _, _, h1, h2⟩ := cpick hl p s n hp
 unfold spec_l1Cur_one.f
 rw [e]; exact ⟨_, _, _, rfl, h1, h2⟩
theorem camong {l : List Int} (hl : CurOk l) (p s : Int) (xs : List Int) (hx : xs ≠ []) (hp : 0 ≤ p ∧ p ≤ 900000) : ∃ x p' s', spec_l1Cur_among.f l p s xs = some (x, p', s') ∧ x ∈ xs ∧ p ≤ p' ∧ p' ≤ p + 2 := by
 have hlen : 0 < xs.length := List.length_pos_iff.2 hx
 obtain ⟨x, p', s', e, h0, h1, h2, h3⟩ := cpick hl p s (xs.length : Int) hp
 have hlt : x < (xs.length : Int) := by omega
 unfold spec_l1Cur_among.f
 rw [e]; simp only [Option.bind_some]
 rw [if_pos h0, if_pos hlt]
 refine ⟨_, _, _, rfl, ?_, h2, h3⟩
 obtain ⟨j, rfl⟩ := Int.eq_ofNat_of_zero_le h0
 rw [rd_nat, List.getD_eq_getElem?_getD, List.getElem?_eq_getElem (show j < xs.length by omega)]
 exact List.getElem_mem _
theorem rInts_l0 (a b : List Int) (hl : a.length = b.length) (hx : a.length ≤ 1048576) : ∀ (d i : Nat), i + d = a.length → Ev (fun k => laws_rInts.l0 k a b (i : Int)) (decide (a.drop i = b.drop i)) := by
 intro d
 induction d with
 | zero =>
  intro i hi
  refine Ev.step (fun k => laws_rInts.l0.eq_2 ..) (evn (by omega) (evs ?_))
  simp [List.drop_of_length_le (show a.length ≤ i by omega), List.drop_of_length_le (show b.length ≤ i by omega)]
 | succ d ih =>
  intro i hi
  refine Ev.step (fun k => laws_rInts.l0.eq_2 ..) (evp (by omega) (evp (by omega) (evp (by omega) ?_)))
  rw [w64s i (by omega), rd_nat, rd_nat, List.drop_eq_getElem_cons (show i < a.length by omega), List.drop_eq_getElem_cons (show i < b.length by omega)]
  have ea : a.getD i 0 = a[i] := by rw [List.getD_eq_getElem?_getD, List.getElem?_eq_getElem (show i < a.length by omega)]; rfl
  have eb : b.getD i 0 = b[i] := by rw [List.getD_eq_getElem?_getD, List.getElem?_eq_getElem (show i < b.length by omega)]; rfl
  rw [ea, eb]
  by_cases e : a[i] = b[i]
  ·
   refine evp e (evr (ih (i + 1) (by omega)) ?_)
   rw [e]; simp only [List.cons.injEq, true_and]
  ·
   refine evn e (evs ?_)
   simp only [List.cons.injEq, e, false_and, decide_false]
theorem rInts (a b : List Int) (hx : a.length ≤ 1048576) : Ev (fun k => laws_rInts.f k a b) (decide (a = b)) := by
 unfold laws_rInts.f
 by_cases h : a.length = b.length
 ·
  refine evp (by omega) (evr (rInts_l0 a b h hx a.length 0 (by omega)) (by simp))
 ·
  refine evn (by omega) (evs ?_)
  have : a ≠ b := fun e => h (by rw [e])
  simp [this]
theorem cplane_l0 {l : List Int} (hl : CurOk l) (n : Nat) (m : Int) (hm : 1 ≤ m ∧ m ≤ 20) (hn : n ≤ 9) : ∀ (d i : Nat) (p s : Int) (v : List Int), i + d = n → v.length = i → 0 ≤ p ∧ p + 2 * d ≤ 700000 →
  ∃ r, Ev (fun k => spec_l1Cur_plane.l0 k (n : Int) m (i : Int) l p s v 0) r ∧ (n ≤ r.1.length ∧ r.1.length ≤ n + 1) ∧ p ≤ r.2.2.1 ∧ r.2.2.1 ≤ p + 2 * d + 10 := by
 intro d
 induction d with
 | zero =>
  intro i p s v hi hv hp
  obtain ⟨x, p1, s1, e1, _, _, g1, g2⟩ := cpick hl p s (wrap64 ((wrap64 (2 * m)) + 3)) (by omega)
  obtain ⟨y, p2, s2, e2, h0, h1, g3, g4⟩ := cpick hl p1 s1 60 (by omega)
  by_cases c0 : y = 0
  ·
   obtain ⟨z, p3, s3, e3, _, g5, g6⟩ := camong hl p2 s2 [99, -99, 100, -100, 4611686018427387904] (by simp) (by omega)
   exact ⟨_, Ev.step (fun k => spec_l1Cur_plane.l0.eq_2 ..) (evn (by omega) (evb (evc e1) (evb (evc e2) (evp c0 (evb (evc e3) (evs rfl)))))), by simp only; omega, by simp only; omega, by simp only; omega⟩
  by_cases c1 : y = 1
  ·
   by_cases c : (n : Int) > 0
   ·
    obtain ⟨z, p3, s3, e3, z0, z1, g5, g6⟩ := cpick hl p2 s2 (n : Int) (by omega)
    obtain ⟨u, p4, s4, e4, _, g7, g8⟩ := camong hl p3 s3 [99, -99, 100, -100] (by simp) (by omega)
    exact ⟨_, Ev.step (fun k => spec_l1Cur_plane.l0.eq_2 ..) (evn (by omega) (evb (evc e1) (evb (evc e2) (evn c0 (evp c1 (evp c (evb (evc e3) (evb (evc e4) (evp z0 (evp (by simp only; omega) (evs rfl))))))))))), by simp only [List.length_set]; omega, by simp only; omega, by simp only; omega⟩
   ·
    exact ⟨_, Ev.step (fun k => spec_l1Cur_plane.l0.eq_2 ..) (evn (by omega) (evb (evc e1) (evb (evc e2) (evn c0 (evp c1 (evn c (evs rfl))))))), by simp only; omega, by simp only; omega, by simp only; omega⟩
  by_cases c2 : y = 2
  ·
   exact ⟨_, Ev.step (fun k => spec_l1Cur_plane.l0.eq_2 ..) (evn (by omega) (evb (evc e1) (evb (evc e2) (evn c0 (evn c1 (evp c2 (evp (by omega) (evs rfl)))))))), by simp; omega, by simp only; omega, by simp only; omega⟩
  ·
   exact ⟨_, Ev.step (fun k => spec_l1Cur_plane.l0.eq_2 ..) (evn (by omega) (evb (evc e1) (evb (evc e2) (evn c0 (evn c1 (evn c2 (evs rfl))))))), by simp only; omega, by simp only; omega, by simp only; omega⟩
 | succ d ih =>
  intro i p s v hi hv hp
  obtain ⟨x, p1, s1, e1, _, _, g1, g2⟩ := cpick hl p s (wrap64 ((wrap64 (2 * m)) + 1)) (by omega)
  obtain ⟨r, hr, h1, h2, h3⟩ := ih (i + 1) p1 s1 (v ++ [wrap64 (x - m)]) (by omega) (by simp; omega) (by omega)
  refine ⟨r, Ev.step (fun k => spec_l1Cur_plane.l0.eq_2 ..) (evp (by omega) (evb (evc e1) (evp (by omega) ?_))), h1, by omega, by omega⟩
  simp only
  rw [w64s i (by omega)]; exact hr
theorem cplane {l : List Int} (hl : CurOk l) (p s : Int) (n : Nat) (hn : n ≤ 9) (hp : 0 ≤ p ∧ p ≤ 600000) : ∃ r, Ev (fun k => spec_l1Cur_plane.f k l p s (n : Int)) r ∧ (n ≤ r.1.length ∧ r.1.length ≤ n + 1) ∧ p ≤ r.2.2.1 ∧ r.2.2.1 ≤ p + 30 := by
 obtain ⟨m, p1, s1, e1, hm, g1, g2⟩ := camong hl p s [1, 3, 5, 20] (by simp) (by omega)
 have hm2 : 1 ≤ m ∧ m ≤ 20 := by simp at hm; omega
 obtain ⟨r, hr, h1, h2, h3⟩ := cplane_l0 hl n m hm2 hn n 0 p1 s1 [] (by omega) rfl (by omega)
 unfold spec_l1Cur_plane.f
 exact ⟨r, evb (evc e1) hr, h1, by omega, by omega⟩
theorem ctable_j3 {l : List Int} (hl : CurOk l) (t : List Int) (p s : Int) (ht : 1 ≤ t.length ∧ t.length ≤ 100) (hp : 0 ≤ p ∧ p ≤ 700000) : ∃ r, Ev (fun k => spec_l1Cur_table.j3 k t l p s) r ∧ (t.length ≤ r.1.length ∧ r.1.length ≤ t.length + 1) ∧ p ≤ r.2.1 ∧ r.2.1 ≤ p + 10 := by
 obtain ⟨b, p1, s1, e1, g1, g2⟩ := cone hl p s 40 (by omega)
 by_cases c : b = true
 ·
  obtain ⟨x, p2, s2, e2, h0, h1, g3, g4⟩ := cpick hl p1 s1 (t.length : Int) (by omega)
  obtain ⟨y, p3, s3, e3, _, g5, g6⟩ := camong hl p2 s2 [2, -1] (by simp) (by omega)
  obtain ⟨b2, p4, s4, e4, g7, g8⟩ := cone hl p3 s3 40 (by omega)
  by_cases c2 : b2 = true
  ·
   exact ⟨_, Ev.step (fun k => spec_l1Cur_table.j3.eq_2 ..) (evb (evc e1) (evp c (evb (evc e2) (evb (evc e3) (evp h0 (evp (by simp only; omega) (evb (evs rfl) (evb (evc e4) (evp c2 (evp (by simp only [List.length_set]; omega) (evs rfl))))))))))), by simp, by simp only; omega, by simp only; omega⟩
  ·
   exact ⟨_, Ev.step (fun k => spec_l1Cur_table.j3.eq_2 ..) (evb (evc e1) (evp c (evb (evc e2) (evb (evc e3) (evp h0 (evp (by simp only; omega) (evb (evs rfl) (evb (evc e4) (evn c2 (evs rfl)))))))))), by simp, by simp only; omega, by simp only; omega⟩
 ·
  obtain ⟨b2, p4, s4, e4, g7, g8⟩ := cone hl p1 s1 40 (by omega)
  by_cases c2 : b2 = true
  ·
   exact ⟨_, Ev.step (fun k => spec_l1Cur_table.j3.eq_2 ..) (evb (evc e1) (evn c (evb (evc e4) (evp c2 (evp (by omega) (evs rfl)))))), by simp, by simp only; omega, by simp only; omega⟩
  ·
   exact ⟨_, Ev.step (fun k => spec_l1Cur_table.j3.eq_2 ..) (evb (evc e1) (evn c (evb (evc e4) (evn c2 (evs rfl))))), by simp, by simp only; omega, by simp only; omega⟩
theorem ctable_l0 {l : List Int} (hl : CurOk l) (n : Nat) (hn : n ≤ 5) : ∀ (d i : Nat) (p s : Int) (t : List Int), i + d = 2 ^ n → t.length = i → 0 ≤ p ∧ p + 2 * d ≤ 650000 →
  ∃ r, Ev (fun k => spec_l1Cur_table.l0 k (n : Int) t (i : Int) l p s) r ∧ r.1.length ≤ 40 ∧ p ≤ r.2.1 ∧ r.2.1 ≤ p + 2 * d + 10 := by
 have h2 : 1 ≤ 2 ^ n ∧ 2 ^ n ≤ 32 := ⟨Nat.two_pow_pos n, Nat.pow_le_pow_right (n := 2) (by decide) hn⟩
 intro d
 induction d with
 | zero =>
  intro i p s t hi ht hp
  obtain ⟨r, hr, h3, h4, h5⟩ := ctable_j3 hl t p s (by omega) (by omega)
  refine ⟨r, Ev.step (fun k => spec_l1Cur_table.l0.eq_2 ..) (evp (by omega) (evn ?_ hr)), by omega, by omega, by omega⟩
  rw [shl1 n (by omega)]; omega
 | succ d ih =>
  intro i p s t hi ht hp
  obtain ⟨x, p1, s1, e1, _, _, g1, g2⟩ := cpick hl p s 2 (by omega)
  obtain ⟨r, hr, h3, h4, h5⟩ := ih (i + 1) p1 s1 (t ++ [x]) (by omega) (by simp; omega) (by omega)
  refine ⟨r, Ev.step (fun k => spec_l1Cur_table.l0.eq_2 ..) (evp (by omega) (evp ?_ (evb (evc e1) (evp (by omega) ?_)))), h3, by omega, by omega⟩
  ·
   rw [shl1 n (by omega)]; omega
  ·
   simp only
   rw [w64s i (by omega)]; exact hr
theorem ctable_j1 {l : List Int} (hl : CurOk l) (n : Nat) (hn : n ≤ 5) (b : Bool) (p s : Int) (w : List Int) (q : Int) (hw : b = true → planeB w q = true ∧ w.length = n) (hp : 0 ≤ p ∧ p ≤ 600000) :
  ∃ r, Ev (fun k => spec_l1Cur_table.j1 k (n : Int) [] b l p s w q) r ∧ r.1.length ≤ 40 ∧ p ≤ r.2.1 ∧ r.2.1 ≤ p + 100 := by
 have h2 : 1 ≤ 2 ^ n ∧ 2 ^ n ≤ 32 := ⟨Nat.two_pow_pos n, Nat.pow_le_pow_right (n := 2) (by decide) hn⟩
 by_cases c : b = true
 ·
  obtain ⟨h1, h3⟩ := hw c
  have hP := (planeB_iff w q).1 h1
  have h4 := hP.1
  have ht := l2TableOf n (by omega) w q 99 (by omega) hP.2.1 (by omega)
  have hl2 := tabOf_len n w q
  obtain ⟨r, hr, h5, h6, h7⟩ := ctable_j3 hl (tabOf n w q) p s (by omega) (by omega)
  exact ⟨r, Ev.step (fun k => spec_l1Cur_table.j1.eq_2 ..) (evp c (evb ht hr)), by omega, by omega, by omega⟩
 ·
  obtain ⟨r, hr, h5, h6, h7⟩ := ctable_l0 hl n hn (2 ^ n) 0 p s [] (by omega) rfl (by omega)
  exact ⟨r, Ev.step (fun k => spec_l1Cur_table.j1.eq_2 ..) (evn c hr), by omega, by omega, by omega⟩
theorem ctable {l : List Int} (hl : CurOk l) (p s n : Int) (hp : 0 ≤ p ∧ p ≤ 500000) : ∃ r, Ev (fun k => spec_l1Cur_table.f k l p s n) r ∧ r.1.length ≤ 40 ∧ p ≤ r.2.1 ∧ r.2.1 ≤ p + 200 := by
 unfold spec_l1Cur_table.f
 have h0 : ∃ r, Ev (fun k => spec_l1Cur_table.j0 k n [] true l p s) r ∧ r.1.length ≤ 40 ∧ p ≤ r.2.1 ∧ r.2.1 ≤ p + 200 :=
  ⟨_, Ev.step (fun k => spec_l1Cur_table.j0.eq_2 ..) (evp rfl (evs rfl)), by simp, by simp only; omega, by simp only; omega⟩
 by_cases c1 : n < 0
 ·
  obtain ⟨r, hr, h⟩ := h0
  exact ⟨r, evb (evs rfl) (evp c1 hr), h⟩
 by_cases c2 : n > 5
 ·
  obtain ⟨r, hr, h⟩ := h0
  exact ⟨r, evb (evs rfl) (evn c1 (by rw [decide_eq_true c2]; exact hr)), h⟩
 obtain ⟨m, rfl⟩ := Int.eq_ofNat_of_zero_le (show 0 ≤ n by omega)
 obtain ⟨v, hv, h1, h2, h3⟩ := cplane hl p s m (by omega) (by omega)
 have hj : ∃ r, Ev (fun k => spec_l1Cur_table.j0 k (m : Int) [] false l p s) r ∧ r.1.length ≤ 40 ∧ p ≤ r.2.1 ∧ r.2.1 ≤ p + 200 := by
  have hno := ctable_j1 hl m (by omega) false v.2.2.1 v.2.2.2 v.1 v.2.1 (fun h => by cases h) (by omega)
  by_cases c3 : (m : Int) > 0
  ·
   by_cases c4 : planeB v.1 v.2.1 = true
   ·
    by_cases c5 : (v.1.length : Int) = (m : Int)
    ·
     obtain ⟨b, p1, s1, e1, g1, g2⟩ := cone hl v.2.2.1 v.2.2.2 2 (by omega)
     obtain ⟨r, hr, h4, h5, h6⟩ := ctable_j1 hl m (by omega) b p1 s1 v.1 v.2.1 (fun _ => ⟨c4, by omega⟩) (by omega)
     exact ⟨r, Ev.step (fun k => spec_l1Cur_table.j0.eq_2 ..) (evn (by simp) (evb hv (evp c3 (evb (l2Plane _ _ (by omega)) (evp c4 (evp c5 (evb (evc e1) hr))))))), h4, by omega, by omega⟩
    ·
     obtain ⟨r, hr, h4, h5, h6⟩ := hno
     exact ⟨r, Ev.step (fun k => spec_l1Cur_table.j0.eq_2 ..) (evn (by simp) (evb hv (evp c3 (evb (l2Plane _ _ (by omega)) (evp c4 (evn c5 hr)))))), h4, by omega, by omega⟩
   ·
    obtain ⟨r, hr, h4, h5, h6⟩ := hno
    exact ⟨r, Ev.step (fun k => spec_l1Cur_table.j0.eq_2 ..) (evn (by simp) (evb hv (evp c3 (evb (l2Plane _ _ (by omega)) (evn c4 hr))))), h4, by omega, by omega⟩
  ·
   obtain ⟨r, hr, h4, h5, h6⟩ := hno
   exact ⟨r, Ev.step (fun k => spec_l1Cur_table.j0.eq_2 ..) (evn (by simp) (evb hv (evn c3 hr))), h4, by omega, by omega⟩
 obtain ⟨r, hr, h⟩ := hj
 exact ⟨r, evb (evs rfl) (evn c1 (by rw [decide_eq_false c2]; exact hr)), h⟩
theorem dPlaneTable {l : List Int} (hl : CurOk l) : ∃ r, Ev (fun k => spec_DrawPlaneTable.f k l) r ∧ r.1.length ≤ 9 := by
 obtain ⟨x, p1, s1, e1, hx, g1, g2⟩ := camong hl 0 0 [2, 3, 1, 4, 5, 0] (by simp) (by omega)
 obtain ⟨n, rfl⟩ := Int.eq_ofNat_of_zero_le (show 0 ≤ x by simp at hx; omega)
 have hn : n ≤ 5 := by simp at hx; omega
 obtain ⟨r, hr, h1, h2, h3⟩ := cplane hl p1 s1 n (by omega) (by omega)
 unfold spec_DrawPlaneTable.f spec_DrawIsPlane.f
 exact ⟨_, evb (evb (evc e1) (evb hr (evs rfl))) (evs rfl), by simp only; omega⟩
theorem dTableSample {l : List Int} (hl : CurOk l) : ∃ r, Ev (fun k => spec_DrawTableSample.f k l) r ∧ r.2.length ≤ 40 := by
 obtain ⟨x, p1, s1, e1, hx, g1, g2⟩ := camong hl 0 0 [2, 3, 1, 4, 0, 5, -1] (by simp) (by omega)
 obtain ⟨r, hr, h1, h2, h3⟩ := ctable hl p1 s1 x (by omega)
 unfold spec_DrawTableSample.f
 exact ⟨_, evb (evc e1) (evb hr (evs rfl)), h1⟩
theorem dBitPoint {l : List Int} (hl : CurOk l) : ∃ r, spec_DrawBitPoint.f l = some r := by
 obtain ⟨x, p1, s1, e1, hx, g1, g2⟩ := camong hl 0 0 [2, 3, 4, 1, 0, 5, -1] (by simp) (by omega)
 obtain ⟨y, p2, s2, e2, hy, g3, g4⟩ := camong hl p1 s1 [0, 1, 2, 3, 5, 7, 8, 15, 16, -1] (by simp) (by omega)
 unfold spec_DrawBitPoint.f
 rw [e1, Option.bind_some, e2, Option.bind_some]
 exact ⟨_, rfl⟩
def tsP (n : Nat) (m : Nat) : List (List Int) := (List.range m).map (bitPt n)
def tsL (t : List Int) : List Int := t.map fun x => 2 * x - 1
def tsV (n : Int) (t : List Int) : List (List Int) × List Int × Bool := if n ≠ 0 ∧ isTab n t = true then (tsP n.toNat t.length, tsL t, true) else ([], [], false)
theorem tsP_len (n m : Nat) : (tsP n m).length = m := by simp [tsP]
theorem tsL_len (t : List Int) : (tsL t).length = t.length := by simp [tsL]
theorem tsP_succ (n m : Nat) : tsP n (m + 1) = tsP n m ++ [bitPt n m] := by simp [tsP, List.range_succ]
theorem tsL_take (t : List Int) (i : Nat) (h : i < t.length) : tsL (t.take (i + 1)) = tsL (t.take i) ++ [2 * t.getD i 0 - 1] := by
 unfold tsL
 rw [List.take_succ_eq_append_getElem h, List.map_append, List.getD_eq_getElem?_getD, List.getElem?_eq_getElem h]; rfl
theorem tsW {m : Nat} {t : List Int} (h : Tab m t) (i : Nat) : wrap64 ((wrap64 (2 * t.getD i 0)) - 1) = 2 * t.getD i 0 - 1 := by
 have := h.at_ i
 rw [w64 (x := 2 * t.getD i 0) (by omega) (by omega), w64 (by omega) (by omega)]
theorem iTableSample_l0 {n : Nat} {t : List Int} (h : Tab n t) : ∀ (d i : Nat), i + d = t.length → Ev (fun k => impl_TableSample.l0 k (n : Int) t (t.length : Int) (i : Int) (tsP n i) (tsL (t.take i))) (tsP n t.length, tsL t, true) := by
 have hl := h.len
 have hn := h.1
 intro d
 induction d with
 | zero =>
  intro i hi
  refine Ev.step (fun k => impl_TableSample.l0.eq_2 ..) (evn (by omega) (evs ?_))
  rw [show i = t.length by omega, List.take_length]
 | succ d ih =>
  intro i hi
  have hs := ih (i + 1) (by omega)
  rw [tsP_succ, tsL_take t i (by omega)] at hs
  have hP := tsP_len n i
  have hL := tsL_len (t.take i)
  have hT : (t.take i).length = i := by simp; omega
  refine Ev.step (fun k => impl_TableSample.l0.eq_2 ..) (evp (by omega) (evp (by omega) (evp (by omega) (evb (bitPoint n i (by omega) (by omega)) (evb (evs rfl) (evp (by simp only [List.length_singleton]; omega) (evb (evs rfl) (evp (by simp only [List.length_singleton]; omega) ?_))))))))
  rw [rd_nat, tsW h i, w64s i (by omega)]; exact hs
theorem iTableSample (n : Int) (t : List Int) (hl : t.length ≤ 1048576) : Ev (fun k => impl_TableSample.f k n t) (tsV n t) := by
 unfold impl_TableSample.f tsV
 by_cases c : n = 0
 ·
  refine evp c (Ev.step (fun k => impl_TableSample.j0.eq_2 ..) (evp rfl (evs ?_)))
  rw [if_neg (fun h => h.1 c)]
 ·
  refine evn c (evb (isTable n t (by omega)) ?_)
  by_cases e : isTab n t = true
  ·
   obtain ⟨m, rfl, hT⟩ := isTab_tab e
   refine Ev.step (fun k => impl_TableSample.j0.eq_2 ..) (evn (by simp [e]) ?_)
   rw [if_pos ⟨c, e⟩, Int.toNat_natCast]
   exact iTableSample_l0 hT t.length 0 (by omega)
  ·
   refine Ev.step (fun k => impl_TableSample.j0.eq_2 ..) (evp (by simp [e]) (evs ?_))
   rw [if_neg (fun h => e h.2)]
theorem tsV_len (n : Int) (t : List Int) : (tsV n t).1.length ≤ 16 ∧ (∀ r ∈ (tsV n t).1, r.length ≤ 4) ∧ (tsV n t).2.1.length ≤ 16 := by
 unfold tsV
 split
 ·
  rename_i h
  obtain ⟨m, rfl, hT⟩ := isTab_tab h.2
  have := hT.len
  have := hT.1
  refine ⟨by rw [tsP_len]; exact hT.len, fun r hr => ?_, by rw [tsL_len]; exact hT.len⟩
  obtain ⟨k, _, rfl⟩ := List.mem_map.1 hr
  rw [bitPt_len]; omega
 ·
  simp
theorem sTold_l0 {n : Nat} {t : List Int} (h : Tab n t) : ∀ (d i : Nat), i + d = t.length → Ev (fun k => spec_l2Told.l0 k (n : Int) t (i : Int) (tsP n i) (tsL (t.take i))) (tsP n t.length, tsL t) := by
 have hl := h.len
 have hn := h.1
 intro d
 induction d with
 | zero =>
  intro i hi
  refine Ev.step (fun k => spec_l2Told.l0.eq_2 ..) (evn (by omega) (evs ?_))
  rw [show i = t.length by omega, List.take_length]
 | succ d ih =>
  intro i hi
  have hs := ih (i + 1) (by omega)
  rw [tsP_succ, tsL_take t i (by omega)] at hs
  have hP := tsP_len n i
  have hL := tsL_len (t.take i)
  have hT : (t.take i).length = i := by simp; omega
  refine Ev.step (fun k => spec_l2Told.l0.eq_2 ..) (evp (by omega) (evb (l2BitPoint n i (by omega) (by omega)) (evp (by omega) (evp (by omega) (evp (by omega) ?_)))))
  rw [rd_nat, tsW h i, w64s i (by omega)]; exact hs
theorem sTold {n : Nat} {t : List Int} (h : Tab n t) : Ev (fun k => spec_l2Told.f k (n : Int) t) (tsP n t.length, tsL t) := by
 unfold spec_l2Told.f
 exact sTold_l0 h t.length 0 (by omega)
theorem sTableSample (n : Int) (t : List Int) (hl : t.length ≤ 1048576) : Ev (fun k => spec_TableSample.f k n t) (tsV n t) := by
 unfold spec_TableSample.f tsV
 by_cases c : n < 1
 ·
  refine evp c (evs ?_)
  rw [if_neg (fun h => by have := ((isTab_iff n t).1 h.2).1; omega)]
 ·
  refine evn c (evb (l2Table n t (by omega)) ?_)
  by_cases e : isTab n t = true
  ·
   obtain ⟨m, rfl, hT⟩ := isTab_tab e
   refine evp e (evb (sTold hT) (evs ?_))
   rw [if_pos ⟨by omega, e⟩, Int.toNat_natCast]
  ·
   refine evn e (evs ?_)
   rw [if_neg (fun h => e h.2)]
def bitV (n k : Int) : List Int × Bool := if (1 ≤ n ∧ n ≤ 4) ∧ (0 ≤ k ∧ k ≤ ((2 ^ n.toNat : Nat) : Int) - 1) then (bitPt n.toNat k.toNat, true) else ([], false)
theorem iBitPoint (n k : Int) : Ev (fun f => impl_BitPoint.f f n k) (bitV n k) := by
 unfold impl_BitPoint.f bitV
 refine evb (evc (within n 1 4)) ?_
 by_cases c : 1 ≤ n ∧ n ≤ 4
 ·
  obtain ⟨m, rfl⟩ := Int.eq_ofNat_of_zero_le (show 0 ≤ n by omega)
  have h4 := pow4 m (by omega)
  refine evp (decide_eq_true c) (evp (by omega) (evb (evc (within _ _ _)) ?_))
  rw [shl1 m (by omega), w64 (by omega) (by omega), Int.toNat_natCast]
  by_cases e : 0 ≤ k ∧ k ≤ ((2 ^ m : Nat) : Int) - 1
  ·
   obtain ⟨j, rfl⟩ := Int.eq_ofNat_of_zero_le e.1
   refine evp (decide_eq_true e) (evb (bitPoint m j (by omega) (by omega)) (evs ?_))
   rw [if_pos ⟨c, e⟩, Int.toNat_natCast]
  ·
   refine evn (by rw [decide_eq_false e]; decide) (evs ?_)
   rw [if_neg (fun h => e h.2)]
 ·
  refine evn (by rw [decide_eq_false c]; decide) (evs ?_)
  rw [if_neg (fun h => c h.1)]
theorem sBitPoint (n k : Int) : Ev (fun f => spec_BitPoint.f f n k) (bitV n k) := by
 unfold spec_BitPoint.f bitV
 refine evb (evc (l1In n 1 4)) ?_
 by_cases c : 1 ≤ n ∧ n ≤ 4
 ·
  obtain ⟨m, rfl⟩ := Int.eq_ofNat_of_zero_le (show 0 ≤ n by omega)
  have h4 := pow4 m (by omega)
  refine evp (decide_eq_true c) (evp (by omega) (evb (evc (l1In _ _ _)) ?_))
  rw [shl1 m (by omega), w64 (by omega) (by omega), Int.toNat_natCast]
  by_cases e : 0 ≤ k ∧ k ≤ ((2 ^ m : Nat) : Int) - 1
  ·
   obtain ⟨j, rfl⟩ := Int.eq_ofNat_of_zero_le e.1
   refine evp (decide_eq_true e) (evb (l2BitPoint m j (by omega) (by omega)) (evs ?_))
   rw [if_pos ⟨c, e⟩, Int.toNat_natCast]
  ·
   refine evn (by rw [decide_eq_false e]; decide) (evs ?_)
   rw [if_neg (fun h => e h.2)]
 ·
  refine evn (by rw [decide_eq_false c]; decide) (evs ?_)
  rw [if_neg (fun h => c h.1)]
theorem rTable_l0 (T : List (List Int)) (hT : T.length ≤ 1000000) (h : ∀ r ∈ T, r.length ≤ 1000000) : ∀ (d i : Nat), i + d = T.length → Ev (fun k => laws_rTable.l0 k T T (i : Int)) true := by
 intro d
 induction d with
 | zero => intro i hi; exact Ev.step (fun k => laws_rTable.l0.eq_2 ..) (evn (by omega) (evs rfl))
 | succ d ih =>
  intro i hi
  have hr : rd_L2 T (i : Int) = rdl T i := by simp [rd_L2, rdl]
  refine Ev.step (fun k => laws_rTable.l0.eq_2 ..) (evp (by omega) (evp (by omega) (evp (by omega) ?_)))
  rw [hr, w64s i (by omega)]
  have := h _ (rdl_mem T i (by omega))
  exact evb (rInts _ _ (by omega)) (evp (by simp) (ih (i + 1) (by omega)))
theorem rTable (T : List (List Int)) (hT : T.length ≤ 1000000) (h : ∀ r ∈ T, r.length ≤ 1000000) : Ev (fun k => laws_rTable.f k T T) true := by
 unfold laws_rTable.f
 exact evp rfl (rTable_l0 T hT h T.length 0 (by omega))
theorem rSample (T : List (List Int)) (y : List Int) (hT : T.length ≤ 1000000) (h : ∀ r ∈ T, r.length ≤ 1000000) (hy : y.length ≤ 1000000) : Ev (fun k => laws_rSample.f k T y T y) true := by
 unfold laws_rSample.f
 exact evb (rTable T hT h) (evp rfl (evb (rInts y y (by omega)) (evs (by simp))))
theorem table_fits {l : List Int} {b : Int} (h : Pla l b) : fitsV (tsP l.length (tabOf l.length l b).length) (tsL (tabOf l.length l b)) l b = (true, true) := by
 have hl := h.1
 have h4 := pow4 l.length hl.2
 have hT := tabOf_len l.length l b
 have hP := tsP_len l.length (tabOf l.length l b).length
 have hL := tsL_len (tabOf l.length l b)
 have hat : ∀ k, k < 2 ^ l.length → rdl (tsP l.length (tabOf l.length l b).length) k = bitPt l.length k := fun k hk => by
  unfold rdl tsP
  rw [List.getD_eq_getElem?_getD, List.getElem?_map, List.getElem?_range (by omega)]; rfl
 have hlab : ∀ k, k < 2 ^ l.length → (tsL (tabOf l.length l b)).getD k 0 = if dot l (bitPt l.length k) ≥ b then 1 else -1 := fun k hk => by
  unfold tsL tabOf
  rw [List.getD_eq_getElem?_getD, List.getElem?_map, List.getElem?_map, List.getElem?_range hk]
  simp only [Option.map_some, Option.getD_some]
  split <;> rfl
 have hS : suitB (tsP l.length (tabOf l.length l b).length) (tsL (tabOf l.length l b)) l b = true := by
  simp only [suitB, sampB, Bool.and_eq_true, Bool.or_eq_true, decide_eq_true_eq, List.all_eq_true, List.mem_range]
  refine ⟨⟨by omega, by omega, ?_, fun i hi => ?_⟩, (planeB_iff l b).2 h, Or.inr ?_⟩
  ·
   simp only [labB, List.all_eq_true, decide_eq_true_eq]
   intro x hx
   obtain ⟨y, hy, rfl⟩ := List.mem_map.1 hx
   obtain ⟨k, _, rfl⟩ := List.mem_map.1 hy
   split <;> omega
  ·
   simp only [spok, pointB, inB, Bool.and_eq_true, decide_eq_true_eq, List.all_eq_true]
   rw [hat i (by omega), hat 0 (by omega), bitPt_len, bitPt_len]
   refine ⟨⟨by omega, fun x hx => ?_⟩, rfl⟩
   have := bitPt_in l.length i x hx
   omega
  ·
   rw [hat 0 (by omega), bitPt_len]
 unfold fitsV
 rw [if_pos hS]
 have he : errV l b (tsP l.length (tabOf l.length l b).length) (tsL (tabOf l.length l b)) (tsP l.length (tabOf l.length l b).length).length = [] := by
  unfold errV
  rw [List.filter_eq_nil_iff.2, List.map_nil]
  intro k hk
  have hk := List.mem_range.1 hk
  unfold errs sideV
  rw [hat k (by omega), hlab k (by omega)]
  simp
 rw [he]; rfl
theorem law_j6 (t : List Int) (l : List Int) (b : Int) (hl : l.length ≤ 1048576) : Ev (fun k => laws_FnBits.j6 k (planeTab l b).1 (planeTab l b).2 l b) true := by
 unfold planeTab
 by_cases e : planeB l b = true
 ·
  rw [if_pos e]
  have hP := (planeB_iff l b).1 e
  have h4 := pow4 l.length hP.1.2
  have hT := tabOf_len l.length l b
  have hts : tsV (l.length : Int) (tabOf l.length l b) = (tsP l.length (tabOf l.length l b).length, tsL (tabOf l.length l b), true) := by
   have hl1 := hP.1
   have hc : (l.length : Int) ≠ 0 ∧ isTab (l.length : Int) (tabOf l.length l b) = true := by
    refine ⟨by omega, (isTab_iff _ _).2 ⟨by omega, by rw [Int.toNat_natCast]; exact hT, fun x hx => ?_⟩⟩
    obtain ⟨k, _, rfl⟩ := List.mem_map.1 hx
    split <;> omega
   unfold tsV
   rw [if_pos hc, Int.toNat_natCast]
  have h1 := iTableSample (l.length : Int) (tabOf l.length l b) (by omega)
  have hb := tsV_len (l.length : Int) (tabOf l.length l b)
  rw [hts] at h1 hb
  have h2 := iFits (tsP l.length (tabOf l.length l b).length) (tsL (tabOf l.length l b)) l b (by have := hb.1; simp only at this; omega) (fun r hr => by have := hb.2.1 r hr; omega) (by have := hb.2.2; simp only at this; omega) hl
  rw [table_fits hP] at h2
  exact Ev.step (fun k => laws_FnBits.j6.eq_2 ..) (evp rfl (evb h1 (evb h2 (evp rfl (evp rfl (evs rfl))))))
 ·
  rw [if_neg e]
  exact Ev.step (fun k => laws_FnBits.j6.eq_2 ..) (evn (by simp) (evs rfl))
theorem law_l1 (t : List Int) (n : Int) (l : List Int) (b : Int) (hl : l.length ≤ 1048576) (h : (tsV n t).2.2 = true) : ∀ (d i : Nat), i + d = t.length →
  Ev (fun k => laws_FnBits.l1 k (planeTab l b).1 (planeTab l b).2 t (i : Int) l b (tsV n t).1 (tsV n t).2.1) true := by
 have hc : n ≠ 0 ∧ isTab n t = true := by
  unfold tsV at h
  by_cases c : n ≠ 0 ∧ isTab n t = true
  ·
   exact c
  ·
   rw [if_neg c] at h; cases h
 have e : tsV n t = (tsP n.toNat t.length, tsL t, true) := by unfold tsV; rw [if_pos hc]
 obtain ⟨m, rfl, hT⟩ := isTab_tab hc.2
 have h16 := hT.len
 have hL := tsL_len t
 rw [e]
 intro d
 induction d with
 | zero => intro i hi; exact Ev.step (fun k => laws_FnBits.l1.eq_2 ..) (evn (by omega) (law_j6 t l b hl))
 | succ d ih =>
  intro i hi
  refine Ev.step (fun k => laws_FnBits.l1.eq_2 ..) (evp (by omega) (evp (by omega) (evp (by simp only; omega) (evp ?_ ?_))))
  ·
   simp only
   rw [rd_nat, rd_nat, tsW hT i]
   unfold tsL
   rw [List.getD_eq_getElem?_getD, List.getElem?_map, List.getElem?_eq_getElem (show i < t.length by omega), List.getD_eq_getElem?_getD, List.getElem?_eq_getElem (show i < t.length by omega)]
   rfl
  ·
   rw [w64s i (by omega)]; exact ih (i + 1) (by omega)
theorem law_j4 (t : List Int) (n : Int) (l : List Int) (b : Int) (hl : l.length ≤ 1048576) : Ev (fun k => laws_FnBits.j4 k (planeTab l b).1 (planeTab l b).2 t (tsV n t).2.2 l b (tsV n t).1 (tsV n t).2.1) true := by
 by_cases h : (tsV n t).2.2 = true
 ·
  exact Ev.step (fun k => laws_FnBits.j4.eq_2 ..) (evp h (law_l1 t n l b hl h t.length 0 (by omega)))
 ·
  exact Ev.step (fun k => laws_FnBits.j4.eq_2 ..) (evn h (law_j6 t l b hl))
def upTo (k i : Nat) : Nat := k / 2 ^ i
theorem law_l0 (t : List Int) (n : Int) (l : List Int) (b : Int) (hl : l.length ≤ 1048576) (m j : Nat) (hm : m ≤ 4) (hj : j < 2 ^ m) : ∀ i, i ≤ m →
  Ev (fun k => laws_FnBits.l0 k (planeTab l b).1 (planeTab l b).2 t (tsV n t).2.2 (j : Int) (bitPt m j) ((upTo j i : Nat) : Int) ((i : Int) - 1) l b (tsV n t).1 (tsV n t).2.1) true := by
 have hlen := bitPt_len m j
 have h4 := pow4 m hm
 intro i
 induction i with
 | zero =>
  intro _
  refine Ev.step (fun k => laws_FnBits.l0.eq_2 ..) (evn (by omega) (evp ?_ (law_j4 t n l b hl)))
  simp [upTo]
 | succ i ih =>
  intro hi
  have hs := ih (by omega)
  have hd : upTo j i = 2 * upTo j (i + 1) + bit j i := by
   unfold upTo bit
   rw [Nat.pow_succ, ← Nat.div_div_eq_div_mul]; omega
  have hlt : upTo j (i + 1) ≤ j := Nat.div_le_self _ _
  have hb := bit_lt j i
  refine Ev.step (fun k => laws_FnBits.l0.eq_2 ..) (evp (by omega) (evp (by omega) (evp (by omega) ?_)))
  rw [show (((i + 1 : Nat) : Int) - 1) = (i : Int) by omega, rd_nat, show (bitPt m j).getD i 0 = ((bit j i : Nat) : Int) by unfold bitPt; rw [List.getD_eq_getElem?_getD, List.getElem?_map, List.getElem?_range (by omega)]; rfl]
  rw [w64 (x := 2 * ((upTo j (i + 1) : Nat) : Int)) (by omega) (by omega), w64 (x := 2 * ((upTo j (i + 1) : Nat) : Int) + ((bit j i : Nat) : Int)) (by omega) (by omega), w64 (x := (i : Int) - 1) (by omega) (by omega)]
  rw [show 2 * ((upTo j (i + 1) : Nat) : Int) + ((bit j i : Nat) : Int) = ((upTo j i : Nat) : Int) by omega]
  exact hs
theorem law_j2 (t : List Int) (n : Int) (l : List Int) (b m j : Int) (hl : l.length ≤ 1048576) : Ev (fun k => laws_FnBits.j2 k (planeTab l b).1 (planeTab l b).2 t (tsV n t).2.2 j (bitV m j).1 (bitV m j).2 false l b (tsV n t).1 (tsV n t).2.1) true := by
 unfold bitV
 by_cases c : (1 ≤ m ∧ m ≤ 4) ∧ (0 ≤ j ∧ j ≤ ((2 ^ m.toNat : Nat) : Int) - 1)
 ·
  rw [if_pos c]
  obtain ⟨m, rfl⟩ := Int.eq_ofNat_of_zero_le (show 0 ≤ m by omega)
  obtain ⟨j, rfl⟩ := Int.eq_ofNat_of_zero_le c.2.1
  rw [Int.toNat_natCast, Int.toNat_natCast] at *
  have h := law_l0 t n l b hl m j (by omega) (by omega) m (Nat.le_refl _)
  refine Ev.step (fun k => laws_FnBits.j2.eq_2 ..) (evn (by simp) (evp rfl ?_))
  simp only
  rw [bitPt_len, w64 (by omega) (by omega)]
  rw [show upTo j m = 0 from Nat.div_eq_of_lt (by omega)] at h
  exact h
 ·
  rw [if_neg c]
  exact Ev.step (fun k => laws_FnBits.j2.eq_2 ..) (evn (by simp) (evn (by simp) (law_j4 t n l b hl)))
theorem law (l0 : List Int) (hb : ∀ x ∈ l0, (Lit.int .u8 x).wf = true) : Ev (fun k => laws_FnBits.f k l0) true := by
 unfold laws_FnBits.f laws_rBig.f
 simp only [Option.bind_some]
 by_cases c : (l0.length : Int) > 65536
 ·
  exact evp (decide_eq_true c) (evs rfl)
 have hl := cur_ok l0 (by omega) hb
 refine evn (by simpa using c) ?_
 have bne_self : ∀ b : Bool, ¬ (b != b) = true := fun b => by cases b <;> decide
 obtain ⟨⟨l, b⟩, hd, hl9⟩ := dPlaneTable hl
 simp only at hl9
 obtain ⟨⟨n, t⟩, hd2, ht⟩ := dTableSample hl
 simp only at ht
 obtain ⟨⟨m, j⟩, hd3⟩ := dBitPoint hl
 have hpl : (planeTab l b).1.length ≤ 1048576 := by
  unfold planeTab
  split
  ·
   rename_i e; have := (pow4 l.length ((planeB_iff l b).1 e).1.2).2; rw [tabOf_len]; omega
  ·
   simp
 have hbl : (bitV m j).1.length ≤ 1048576 := by
  unfold bitV
  split
  ·
   rw [bitPt_len]; omega
  ·
   simp
 have hts := tsV_len n t
 have k1 : Ev (fun k => laws_FnBits.j1 k l0 (planeTab l b).1 (planeTab l b).2 t (tsV n t).2.2 false l b (tsV n t).1 (tsV n t).2.1) true := by
  refine Ev.step (fun k => laws_FnBits.j1.eq_2 ..) (evn (by simp) (evb (evc hd3) (evb (iBitPoint m j) (evb (sBitPoint m j) (evn (bne_self _) (evb (rInts _ _ hbl) ?_))))))
  rw [decide_eq_true rfl]; exact law_j2 t n l b m j (by omega)
 have k0 : Ev (fun k => laws_FnBits.j0 k l0 (planeTab l b).1 (planeTab l b).2 false l b) true := by
  refine Ev.step (fun k => laws_FnBits.j0.eq_2 ..) (evn (by simp) (evb hd2 (evb (iTableSample n t (by omega)) (evb (sTableSample n t (by omega)) (evn (bne_self _) (evb (rSample _ _ (by omega) (fun r hr => by have := hts.2.1 r hr; omega) (by omega)) k1))))))
 have hpb : (planeTab l b).2 = planeB l b := by unfold planeTab; cases planeB l b <;> rfl
 refine evb hd (evb (iPlaneTab l b (by omega)) (evb (sPlaneTab l b (by omega)) (evn (bne_self _) (evb (iIsPlane l b (by omega)) (evn (by rw [hpb]; exact bne_self _) (evb (rInts _ _ hpl) ?_))))))
 rw [decide_eq_true rfl]; exact k0
end Go.Proofs.Ytkgekmpnbhomgaa.LFnBits
