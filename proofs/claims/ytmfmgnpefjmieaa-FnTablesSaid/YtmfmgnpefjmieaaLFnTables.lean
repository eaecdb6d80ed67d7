-- Own text.
import Derived.Test.YtmfmgnpefjmieaaMFnTablesx13
import Derived.Test.YtmfmgnpefjmieaaZFnTablesBase
namespace Go.Proofs.Ytmfmgnpefjmieaa.LFnTables
open Go Go.RowKit Go.Proofs.Ytmfmgnpefjmieaa.Base Go.Proofs.Ytmfmgnpefjmieaa.PFnTables Go.Proofs.YtmfmgnpefjmieaaW.PrintWords Go.Proofs.YtmfmgnpefjmieaaW.PrintLast Go.Proofs.YtmfmgnpefjmieaaW.PrintMore
set_option linter.unusedVariables false
set_option linter.unusedSimpArgs false
set_option maxRecDepth 4000
theorem zE (a b c : Int) : spec_l1In.f a b c = some (decide (b ≤ a ∧ a ≤ c)) := by
 unfold spec_l1In.f; split <;> simp_all <;> omega
theorem zU (a b c : Int) : impl_within.f a b c = some (decide (b ≤ a ∧ a ≤ c)) := by
 unfold impl_within.f; split <;> simp_all <;> omega
theorem qJ (l : List Int) (hx : l.length < 4611686018427387904) : ∀ (d i : Nat), i + d = l.length →
  Ev (fun k => spec_l2Table.l0 k l (i : Int)) ((l.drop i).all fun x => decide (0 ≤ x ∧ x ≤ 1)) := by
 intro d
 induction d with
 | zero =>
  intro i hi
  refine Ev.step (fun k => spec_l2Table.l0.eq_2 ..) (evn (by omega) (evs ?_))
  simp [List.drop_of_length_le (show l.length ≤ i by omega)]
 | succ d ih =>
  intro i hi
  refine Ev.step (fun k => spec_l2Table.l0.eq_2 ..) (evp (by omega) (evp (by omega) ?_))
  rw [w64s i (by omega), rd_nat, zE, List.drop_eq_getElem_cons (show i < l.length by omega)]
  simp only [List.getD_eq_getElem?_getD, List.getElem?_eq_getElem (show i < l.length by omega), Option.getD_some, Option.bind_some, List.all_cons]
  by_cases e : 0 ≤ l[i] ∧ l[i] ≤ 1
  · refine evp (by simpa using e) (evr (ih (i + 1) (by omega)) (by simp [e]))
  · refine evn (by simpa using e) (evs (by simp [e]))
theorem zw (n : Int) (l : List Int) (hx : l.length < 4611686018427387904) : Ev (fun k => spec_l2Table.f k n l) (isTab n l) := by
 unfold spec_l2Table.f isTab
 rw [zE]
 simp only [Option.bind_some]
 by_cases h : 0 ≤ n ∧ n ≤ 4
 ·
  refine evp (by simpa using h) (evp h.1 (Ev.step (fun k => spec_l2Table.j0.eq_2 ..) ?_))
  obtain ⟨m, rfl⟩ := Int.eq_ofNat_of_zero_le h.1
  rw [shl1 m (by omega)]
  by_cases e : l.length = 2 ^ m
  · refine evn (by simp [e]) (evr (qJ l hx l.length 0 (by omega)) (by simp [e]; omega))
  · refine evp (by simp; exact_mod_cast e) (evs (by simp [e]))
 · refine evn (by simpa using h) (Ev.step (fun k => spec_l2Table.j0.eq_2 ..) (evp rfl (evs (by simp [h]))))
theorem ql (lo up : Int) (l : List Int) (hx : l.length < 4611686018427387904) : ∀ (d i : Nat), i + d = l.length →
  Ev (fun k => impl_allWithin.l0 k lo up l (l.length : Int) (i : Int)) ((l.drop i).all fun x => decide (lo ≤ x ∧ x ≤ up)) := by
 intro d
 induction d with
 | zero =>
  intro i hi
  refine Ev.step (fun k => impl_allWithin.l0.eq_2 ..) (evn (by omega) (evs ?_))
  simp [List.drop_of_length_le (show l.length ≤ i by omega)]
 | succ d ih =>
  intro i hi
  refine Ev.step (fun k => impl_allWithin.l0.eq_2 ..) (evp (by omega) (evp (by omega) (evp (by omega) ?_)))
  rw [w64s i (by omega), rd_nat, zU, List.drop_eq_getElem_cons (show i < l.length by omega)]
  simp only [List.getD_eq_getElem?_getD, List.getElem?_eq_getElem (show i < l.length by omega), Option.getD_some, Option.bind_some, List.all_cons]
  by_cases e : lo ≤ l[i] ∧ l[i] ≤ up
  · refine evp (by simpa using e) (evr (ih (i + 1) (by omega)) (by simp [e]))
  · refine evn (by simpa using e) (evs (by simp [e]))
theorem zF (l : List Int) (lo up : Int) (hx : l.length < 4611686018427387904) : Ev (fun k => impl_allWithin.f k l lo up) (l.all fun x => decide (lo ≤ x ∧ x ≤ up)) := by
 unfold impl_allWithin.f
 exact ql lo up l hx l.length 0 (by omega)
theorem zq (n : Int) (l : List Int) (hx : l.length < 4611686018427387904) : Ev (fun k => impl_isTable.f k n l) (isTab n l) := by
 unfold impl_isTable.f isTab
 rw [zU]
 simp only [Option.bind_some]
 by_cases h : 0 ≤ n ∧ n ≤ 4
 ·
  obtain ⟨m, rfl⟩ := Int.eq_ofNat_of_zero_le h.1
  refine evp (by simpa using h) (evp h.1 ?_)
  rw [shl1 m (by omega)]
  by_cases e : l.length = 2 ^ m
  · refine evp (by exact_mod_cast e) (evb (zF l 0 1 hx) (evs (by simp [e]; omega)))
  · refine evn (by exact_mod_cast e) (evs (by simp [e]))
 · refine evn (by simpa using h) (evs (by simp [h]))
theorem jV (l : List Int) (h : l.length < 17592186044416) : spec_l1Own.f l = some l := by
 unfold spec_l1Own.f
 simp only [Option.bind_some]
 rw [if_pos (by simpa using h)]; rfl
theorem qU (l : List Int) (h : l.length < 17592186044416) : impl_copied.f l = some l := by
 unfold impl_copied.f
 simp only [Option.bind_some]
 rw [if_pos (by simpa using h)]; rfl
theorem qA (l : List Int) (lo hi : Int) (hl : l.length < 4611686018427387904) : ∀ (d i : Nat), i + d = l.length →
  Ev (fun k => spec_l1Rising.l0 k l lo hi (i : Int)) (inB lo hi (l.drop i) && riseB (l.drop (i - 1))) := by
 intro d
 induction d with
 | zero =>
  intro i hi'
  refine Ev.step (fun k => spec_l1Rising.l0.eq_2 ..) (evn (by omega) (evs ?_))
  rw [riseB_end l (i - 1) (by omega), List.drop_of_length_le (show l.length ≤ i by omega)]; rfl
 | succ d ih =>
  intro i hi'
  refine Ev.step (fun k => spec_l1Rising.l0.eq_2 ..) (evp (by omega) (evp (by omega) ?_))
  rw [rd_nat, zE, w64s i (by omega)]; simp only [Option.bind_some]
  have hd := List.drop_eq_getElem_cons (show i < l.length by omega)
  have hg : l.getD i 0 = l[i] := by simp [List.getD_eq_getElem?_getD, List.getElem?_eq_getElem (show i < l.length by omega)]
  by_cases e : lo ≤ l.getD i 0 ∧ l.getD i 0 ≤ hi
  ·
   refine evp (by simpa using e) ?_
   have hin : inB lo hi (l.drop i) = inB lo hi (l.drop (i + 1)) := by rw [hd]; simp only [inB, List.all_cons]; rw [← hg, decide_eq_true e, Bool.true_and]
   by_cases e0 : 0 < i
   ·
    refine evp (by omega) ?_
    rw [w64 (x := (i : Int) - 1) (by omega) (by omega), show (i : Int) - 1 = ((i - 1 : Nat) : Int) by omega, rd_nat]
    refine evp (by omega) (evp (by omega) ?_)
    have hs := riseB_step l (i - 1) (by omega)
    rw [show i - 1 + 1 = i by omega] at hs
    by_cases e1 : l.getD (i - 1) 0 ≥ l.getD i 0
    ·
     refine evp e1 (evs ?_)
     rw [hs, decide_eq_false (by omega)]; simp
    ·
     refine evn e1 (evr (ih (i + 1) (by omega)) ?_)
     rw [hin, hs, decide_eq_true (show l.getD (i - 1) 0 < l.getD i 0 by omega)]; simp
   ·
    refine evn (by omega) (evr (ih (i + 1) (by omega)) ?_)
    obtain rfl : i = 0 := by omega
    rw [hin]
  ·
   refine evn (by simpa using e) (evs ?_)
   rw [hd]; simp only [inB, List.all_cons]; rw [← hg, decide_eq_false e]; simp
theorem jr (l : List Int) (lo hi : Int) (hl : l.length < 4611686018427387904) : Ev (fun k => spec_l1Rising.f k l lo hi) (inB lo hi l && riseB l) := by
 unfold spec_l1Rising.f
 exact evr (qA l lo hi hl l.length 0 (by omega)) (by simp)
theorem qV (l : List Int) (hl : l.length < 4611686018427387904) : ∀ (d i : Nat), i + d = l.length → 1 ≤ i →
  Ev (fun k => impl_rising.l0 k l (i : Int)) (riseB (l.drop (i - 1))) := by
 intro d
 induction d with
 | zero =>
  intro i hi' h1
  refine Ev.step (fun k => impl_rising.l0.eq_2 ..) (evn (by omega) (evs ?_))
  rw [riseB_end l (i - 1) (by omega)]
 | succ d ih =>
  intro i hi' h1
  refine Ev.step (fun k => impl_rising.l0.eq_2 ..) (evp (by omega) ?_)
  rw [rd_nat, w64s i (by omega), w64 (x := (i : Int) - 1) (by omega) (by omega), show (i : Int) - 1 = ((i - 1 : Nat) : Int) by omega, rd_nat]
  refine evp (by omega) (evp (by omega) (evp (by omega) ?_))
  have hs := riseB_step l (i - 1) (by omega)
  rw [show i - 1 + 1 = i by omega] at hs
  by_cases e1 : l.getD (i - 1) 0 ≥ l.getD i 0
  ·
   refine evp e1 (evs ?_)
   rw [hs, decide_eq_false (by omega)]; simp
  ·
   refine evn e1 (evr (ih (i + 1) (by omega) (by omega)) ?_)
   rw [hs, decide_eq_true (show l.getD (i - 1) 0 < l.getD i 0 by omega)]; simp
theorem qW (l : List Int) (hl : l.length < 4611686018427387904) : Ev (fun k => impl_rising.f k l) (riseB l) := by
 unfold impl_rising.f
 by_cases h : l.length = 0
 ·
  refine Ev.step (fun k => impl_rising.l0.eq_2 ..) (evn (by omega) (evs ?_))
  rw [List.eq_nil_of_length_eq_zero h]; rfl
 · exact evr (qV l hl (l.length - 1) 1 (by omega) (by omega)) (by simp)
theorem js (a b : List Int) (M : Int) (hM : 0 ≤ M ∧ M ≤ 1000000000000) (hab : ∀ i, -M ≤ a.getD i 0 * b.getD i 0 ∧ a.getD i 0 * b.getD i 0 ≤ M) (hl : a.length ≤ 1000) (hb : a.length ≤ b.length) : ∀ (d i : Nat) (s : Int), i + d = a.length → -(M * i) ≤ s → s ≤ M * i →
  Ev (fun k => spec_l2Dot.l0 k a b s (i : Int)) (s + dot (a.drop i) (b.drop i)) := by
 intro d
 induction d with
 | zero =>
  intro i s hi h0 hs
  exact Ev.step (fun k => spec_l2Dot.l0.eq_2 ..) (evn (by omega) (evs (by rw [List.drop_of_length_le (show a.length ≤ i by omega)]; simp [dot])))
 | succ d ih =>
  intro i s hi h0 hs
  have hm := hab i
  have hMi : M * (i : Int) ≤ 1000000000000 * 1000 := Int.mul_le_mul hM.2 (by omega) (by omega) (by omega)
  have hMs : M * ((i + 1 : Nat) : Int) = M * i + M := by rw [show ((i + 1 : Nat) : Int) = (i : Int) + 1 by omega, Int.mul_add]; omega
  refine Ev.step (fun k => spec_l2Dot.l0.eq_2 ..) (evp (by omega) (evp (by omega) (evp (by omega) ?_)))
  rw [rd_nat, rd_nat, w64s i (by omega), w64 (x := a.getD i 0 * b.getD i 0) (by omega) (by omega), w64 (x := s + a.getD i 0 * b.getD i 0) (by omega) (by omega)]
  refine evr (ih (i + 1) _ (by omega) (by omega) (by omega)) ?_
  rw [List.drop_eq_getElem_cons (show i < a.length by omega), List.drop_eq_getElem_cons (show i < b.length by omega)]
  simp only [List.getD_eq_getElem?_getD, List.getElem?_eq_getElem (show i < a.length by omega), List.getElem?_eq_getElem (show i < b.length by omega), Option.getD_some, dot]; omega
theorem qD {l : List Int} {A : Int} (hA : 0 ≤ A) (h : ∀ x ∈ l, -A ≤ x ∧ x ≤ A) (i : Nat) : -A ≤ l.getD i 0 ∧ l.getD i 0 ≤ A := by
 by_cases hi : i < l.length
 · rw [List.getD_eq_getElem?_getD, List.getElem?_eq_getElem hi]; exact h _ (List.getElem_mem hi)
 · rw [List.getD_eq_getElem?_getD, List.getElem?_eq_none (by omega)]; simp; omega
theorem kB (a b : List Int) (A B : Int) (hA : 0 ≤ A ∧ A ≤ 1000000) (hB : 0 ≤ B ∧ B ≤ 1000000) (ha : ∀ x ∈ a, -A ≤ x ∧ x ≤ A) (hb : ∀ x ∈ b, -B ≤ x ∧ x ≤ B) (hl : a.length ≤ 1000) (hab : a.length ≤ b.length) : Ev (fun k => spec_l2Dot.f k a b) (dot a b) := by
 unfold spec_l2Dot.f
 have hM : A * B ≤ 1000000 * 1000000 := Int.mul_le_mul hA.2 hB.2 hB.1 (by omega)
 have hM0 := Int.mul_nonneg hA.1 hB.1
 exact evr (js a b (A * B) ⟨hM0, by omega⟩ (fun i => mul_bd (qD hA.1 ha i) (qD hB.1 hb i)) hl hab a.length 0 0 (by omega) (by simp) (by simp)) (by simp)
theorem qK (a b : List Int) (M : Int) (hM : 0 ≤ M ∧ M ≤ 1000000000000) (hab : ∀ i, -M ≤ a.getD i 0 * b.getD i 0 ∧ a.getD i 0 * b.getD i 0 ≤ M) (hl : a.length ≤ 1000) (hb : a.length ≤ b.length) : ∀ (d i : Nat) (s : Int), i + d = a.length → -(M * i) ≤ s → s ≤ M * i →
  Ev (fun k => impl_product.l0 k b s a (a.length : Int) (i : Int)) (s + dot (a.drop i) (b.drop i)) := by
 intro d
 induction d with
 | zero =>
  intro i s hi h0 hs
  exact Ev.step (fun k => impl_product.l0.eq_2 ..) (evn (by omega) (evs (by rw [List.drop_of_length_le (show a.length ≤ i by omega)]; simp [dot])))
 | succ d ih =>
  intro i s hi h0 hs
  have hm := hab i
  have hMi : M * (i : Int) ≤ 1000000000000 * 1000 := Int.mul_le_mul hM.2 (by omega) (by omega) (by omega)
  have hMs : M * ((i + 1 : Nat) : Int) = M * i + M := by rw [show ((i + 1 : Nat) : Int) = (i : Int) + 1 by omega, Int.mul_add]; omega
  refine Ev.step (fun k => impl_product.l0.eq_2 ..) (evp (by omega) (evp (by omega) (evp (by omega) (evp (by omega) ?_))))
  rw [rd_nat, rd_nat, w64s i (by omega), w64 (x := a.getD i 0 * b.getD i 0) (by omega) (by omega), w64 (x := s + a.getD i 0 * b.getD i 0) (by omega) (by omega)]
  refine evr (ih (i + 1) _ (by omega) (by omega) (by omega)) ?_
  rw [List.drop_eq_getElem_cons (show i < a.length by omega), List.drop_eq_getElem_cons (show i < b.length by omega)]
  simp only [List.getD_eq_getElem?_getD, List.getElem?_eq_getElem (show i < a.length by omega), List.getElem?_eq_getElem (show i < b.length by omega), Option.getD_some, dot]; omega
theorem qm {l : List Int} {A : Int} (hA : 0 ≤ A) (h : ∀ x ∈ l, -A ≤ x ∧ x ≤ A) (i : Nat) : -A ≤ l.getD i 0 ∧ l.getD i 0 ≤ A := by
 by_cases hi : i < l.length
 · rw [List.getD_eq_getElem?_getD, List.getElem?_eq_getElem hi]; exact h _ (List.getElem_mem hi)
 · rw [List.getD_eq_getElem?_getD, List.getElem?_eq_none (by omega)]; simp; omega
theorem jZ (a b : List Int) (A B : Int) (hA : 0 ≤ A ∧ A ≤ 1000000) (hB : 0 ≤ B ∧ B ≤ 1000000) (ha : ∀ x ∈ a, -A ≤ x ∧ x ≤ A) (hb : ∀ x ∈ b, -B ≤ x ∧ x ≤ B) (hl : a.length ≤ 1000) (hab : a.length ≤ b.length) : Ev (fun k => impl_product.f k a b) (dot a b) := by
 unfold impl_product.f
 have hM : A * B ≤ 1000000 * 1000000 := Int.mul_le_mul hA.2 hB.2 hB.1 (by omega)
 have hM0 := Int.mul_nonneg hA.1 hB.1
 exact evr (qK a b (A * B) ⟨hM0, by omega⟩ (fun i => mul_bd (qm hA.1 ha i) (qm hB.1 hb i)) hl hab a.length 0 0 (by omega) (by simp) (by simp)) (by simp)
theorem kj (a : List Int) (b : Int) (x : List Int) (A B : Int) (hA : 0 ≤ A ∧ A ≤ 1000000) (hB : 0 ≤ B ∧ B ≤ 1000000) (ha : ∀ x ∈ a, -A ≤ x ∧ x ≤ A) (hb : ∀ y ∈ x, -B ≤ y ∧ y ≤ B) (hl : a.length ≤ 1000) (hab : a.length ≤ x.length) : Ev (fun k => spec_l2Side.f k a b x) (sideV a b x) := by
 unfold spec_l2Side.f sideV
 refine evb (kB a x A B hA hB ha hb hl hab) ?_
 by_cases e : dot a x ≥ b
 · exact evp e (evs (by rw [if_pos e]))
 · exact evn e (evs (by rw [if_neg e]))
theorem qi (n k : Nat) (hn : n ≤ 8) (hk : k < 2 ^ 62) : ∀ (d i : Nat) (out : List Int), i + d = n → out.length = i →
  Ev (fun f => spec_l2BitPoint.l0 f (n : Int) (k : Int) out (i : Int)) (out ++ (List.range' i d).map fun i => (bit k i : Int)) := by
 intro d
 induction d with
 | zero =>
  intro i out hi ho
  exact Ev.step (fun k => spec_l2BitPoint.l0.eq_2 ..) (evn (by omega) (evs (by simp)))
 | succ d ih =>
  intro i out hi ho
  refine Ev.step (fun k => spec_l2BitPoint.l0.eq_2 ..) (evp (by omega) (evp (by omega) (evp (by omega) ?_)))
  rw [digit k i (by omega) (by omega), w64s i (by omega)]
  refine evr (ih (i + 1) _ (by omega) (by simp; omega)) ?_
  simp [List.range'_succ]
theorem qL (n k : Nat) (hn : n ≤ 8) (hk : k < 2 ^ 62) : Ev (fun f => spec_l2BitPoint.f f (n : Int) (k : Int)) (bitPt n k) := by
 unfold spec_l2BitPoint.f bitPt
 refine evr (qi n k hn hk n 0 [] (by omega) rfl) ?_
 rw [List.range_eq_range']; rfl
theorem qB (n k : Nat) (hn : n ≤ 8) (hk : k < 2 ^ 62) : ∀ (d i : Nat) (out : List Int), i + d = n → out.length = i →
  Ev (fun f => impl_bitPoint.l0 f (k : Int) out (n : Int) (i : Int)) (out ++ (List.range' i d).map fun i => (bit k i : Int)) := by
 intro d
 induction d with
 | zero =>
  intro i out hi ho
  exact Ev.step (fun k => impl_bitPoint.l0.eq_2 ..) (evn (by omega) (evs (by simp)))
 | succ d ih =>
  intro i out hi ho
  refine Ev.step (fun k => impl_bitPoint.l0.eq_2 ..) (evp (by omega) (evp (by omega) (evp (by omega) ?_)))
  rw [digit k i (by omega) (by omega), w64s i (by omega)]
  refine evr (ih (i + 1) _ (by omega) (by simp; omega)) ?_
  simp [List.range'_succ]
theorem jt (n k : Nat) (hn : n ≤ 8) (hk : k < 2 ^ 62) : Ev (fun f => impl_bitPoint.f f (n : Int) (k : Int)) (bitPt n k) := by
 unfold impl_bitPoint.f bitPt
 refine evr (qB n k hn hk n 0 [] (by omega) rfl) ?_
 rw [List.range_eq_range']; rfl
theorem qn (n : Nat) (hn : n ≤ 4) (a : List Int) (b : Int) (A : Int) (hA : 0 ≤ A ∧ A ≤ 1000000) (ha : ∀ x ∈ a, -A ≤ x ∧ x ≤ A) (hl : a.length ≤ n) : ∀ (d c : Nat) (out : List Int), c + d = 2 ^ n → out.length = c →
  Ev (fun k => spec_l2TableOf.l0 k (n : Int) out (c : Int) a b) (out ++ (List.range' c d).map fun k => if dot a (bitPt n k) ≥ b then 1 else 0) := by
 have hp := pow4 n hn
 intro d
 induction d with
 | zero =>
  intro c out hc ho
  refine Ev.step (fun k => spec_l2TableOf.l0.eq_2 ..) (evp (by omega) ?_)
  rw [shl1 n (by omega)]
  exact evn (by omega) (evs (by simp))
 | succ d ih =>
  intro c out hc ho
  refine Ev.step (fun k => spec_l2TableOf.l0.eq_2 ..) (evp (by omega) ?_)
  rw [shl1 n (by omega), w64s c (by omega)]
  refine evp (by omega) (evb (qL n c (by omega) (by omega)) (evb (kj a b _ A 1 hA (by omega) ha (bitPt_in n c) (by omega) (by rw [bitPt_len]; exact hl)) (evp (by omega) ?_)))
  have hv : wrap64 (Int.tdiv (wrap64 (sideV a b (bitPt n c) + 1)) 2) = if dot a (bitPt n c) ≥ b then 1 else 0 := by
   unfold sideV
   split
   · rw [w64 (x := 1 + 1) (by omega) (by omega), show Int.tdiv (1 + 1) 2 = 1 from rfl, w64 (by omega) (by omega)]
   · rw [w64 (x := -1 + 1) (by omega) (by omega), show Int.tdiv (-1 + 1) 2 = 0 from rfl, w64 (by omega) (by omega)]
  rw [hv]
  refine evr (ih (c + 1) _ (by omega) (by simp; omega)) ?_
  simp [List.range'_succ]
theorem qX (n : Nat) (hn : n ≤ 4) (a : List Int) (b : Int) (A : Int) (hA : 0 ≤ A ∧ A ≤ 1000000) (ha : ∀ x ∈ a, -A ≤ x ∧ x ≤ A) (hl : a.length ≤ n) : Ev (fun k => spec_l2TableOf.f k (n : Int) a b) (tabOf n a b) := by
 unfold spec_l2TableOf.f tabOf
 refine evr (qn n hn a b A hA ha hl (2 ^ n) 0 [] (by omega) rfl) ?_
 rw [List.range_eq_range']; rfl
theorem qo (l : List Int) (b : Int) (hb : 0 ≤ b ∧ b ≤ 1000000000) (hx : l.length < 4611686018427387904) : ∀ (d i : Nat), i + d = l.length →
  Ev (fun k => spec_l2Numbers.l0 k l b (i : Int)) (inB (-b) b (l.drop i)) := by
 intro d
 induction d with
 | zero =>
  intro i hi
  exact Ev.step (fun k => spec_l2Numbers.l0.eq_2 ..) (evn (by omega) (evs (by rw [List.drop_of_length_le (show l.length ≤ i by omega)]; rfl)))
 | succ d ih =>
  intro i hi
  refine Ev.step (fun k => spec_l2Numbers.l0.eq_2 ..) (evp (by omega) (evp (by omega) ?_))
  rw [w64s i (by omega), rd_nat, w64 (x := -b) (by omega) (by omega), zE, List.drop_eq_getElem_cons (show i < l.length by omega)]
  simp only [List.getD_eq_getElem?_getD, List.getElem?_eq_getElem (show i < l.length by omega), Option.getD_some, Option.bind_some, inB, List.all_cons]
  by_cases e : -b ≤ l[i] ∧ l[i] ≤ b
  · exact evp (by simpa using e) (evr (ih (i + 1) (by omega)) (by rw [decide_eq_true e]; rfl))
  · exact evn (by simpa using e) (evs (by rw [decide_eq_false e]; rfl))
theorem qY (l : List Int) (b : Int) (hb : 0 ≤ b ∧ b ≤ 1000000000) (hx : l.length < 4611686018427387904) : Ev (fun k => spec_l2Numbers.f k l b) (inB (-b) b l) := by
 unfold spec_l2Numbers.f
 exact qo l b hb hx l.length 0 (by omega)
theorem zY (l : List Int) (b : Int) (hl : l.length < 4611686018427387904) : Ev (fun k => spec_l2Plane.f k l b) (planeB l b) := by
 unfold spec_l2Plane.f planeB
 rw [zE, zE]; simp only [Option.bind_some]
 by_cases e : 1 ≤ l.length ∧ l.length ≤ 4
 ·
  refine evp (by simp; omega) (evb (qY l 99 (by omega) hl) ?_)
  rw [decide_eq_true e, Bool.true_and]
  by_cases e' : inB (-99) 99 l = true
  · exact evp e' (evs (by rw [e', Bool.true_and]))
  · exact evn e' (evs (by rw [Bool.eq_false_iff.2 e']; rfl))
 · exact evn (by simp; omega) (evs (by rw [decide_eq_false e]; rfl))
def zL : Nat → List (List Int)
 | 0 => [[]]
 | d + 1 => zL d ++ (zL d).map ((3 - d : Int) :: ·)
theorem zM : ∀ d, ([] : List Int) ∈ zL d
 | 0 => by simp [zL]
 | d + 1 => List.mem_append_left _ (zM d)
theorem qp : ∀ (d : Nat) (l : List Int), riseB l = true → (∀ x ∈ l, (4 : Int) - d ≤ x ∧ x ≤ 3) → l ∈ zL d := by
 intro d
 induction d with
 | zero =>
  intro l _ h
  cases l with
  | nil => exact zM 0
  | cons x l => have := h x List.mem_cons_self; omega
 | succ d ih =>
  intro l hr h
  cases l with
  | nil => exact zM _
  | cons x l =>
   have hx := h x List.mem_cons_self
   have hlt := riseB_lt l x hr
   by_cases e : x = 3 - d
   ·
    subst e
    exact List.mem_append_right _ (List.mem_map.2 ⟨l, ih l (riseB_tail hr) (fun y hy => by have := hlt y hy; have := h y (List.mem_cons_of_mem _ hy); omega), rfl⟩)
   ·
    refine List.mem_append_left _ (ih _ hr fun y hy => ?_)
    rcases List.mem_cons.1 hy with rfl | hy'
    · omega
    · have := hlt y hy'; have := h y hy; omega
def qq (l : List Int) (x : Int) : Int := l.foldl (fun m i => Go.bits .xor .i64 m (shl .i64 1 i)) x
theorem ju : ∀ l ∈ zL 4, ∀ n : Fin 5, (∀ x ∈ l, x < (n.val : Int)) → ∀ k : Fin 16, k.val < 2 ^ n.val → qq l (k.val : Int) = Go.bits .xor .i64 (k.val : Int) (flipMask l) ∧ 0 ≤ Go.bits .xor .i64 (k.val : Int) (flipMask l) ∧ Go.bits .xor .i64 (k.val : Int) (flipMask l) < ((2 ^ n.val : Nat) : Int) := by decide +kernel
theorem qE {n : Nat} {l2 : List Int} (hn : n ≤ 4) (h : setB (n : Int) l2 = true) (k : Nat) (hk : k < 2 ^ n) : qq l2 (k : Int) = Go.bits .xor .i64 (k : Int) (flipMask l2) ∧ 0 ≤ Go.bits .xor .i64 (k : Int) (flipMask l2) ∧ Go.bits .xor .i64 (k : Int) (flipMask l2) < ((2 ^ n : Nat) : Int) := by
 unfold setB inB at h
 simp only [Bool.and_eq_true, List.all_eq_true, decide_eq_true_eq] at h
 have hm := qp 4 l2 h.2 (fun x hx => by have := h.1 x hx; omega)
 have h16 : 2 ^ n ≤ 16 := Nat.pow_le_pow_right (by decide : 0 < 2) hn
 exact ju l2 hm ⟨n, by omega⟩ (fun x hx => by have := h.1 x hx; simp only; omega) ⟨k, by omega⟩ hk
def zd (n : Int) (l1 l2 : List Int) : List Int × Bool := if isTab n l1 = true ∧ setB n l2 = true then ((List.range l1.length).map fun k : Nat => rd l1 (Go.bits .xor .i64 (k : Int) (flipMask l2)), true) else ([], false)
theorem qZ (n : Int) (l1 l2 : List Int) : (zd n l1 l2).1.length ≤ 16 := by
 unfold zd
 split
 ·
  rename_i e
  obtain ⟨m, rfl, h⟩ := isTab_tab e.1
  have := h.len
  simp; omega
 · simp
theorem jW (n : Int) (l1 l2 : List Int) (hl : l1.length ≤ 1048576) (hl2 : l2.length ≤ 1048576) : Ev (fun k => impl_FlipBits.f k n l1 l2) (zd n l1 l2) := by
 unfold impl_FlipBits.f zd
 refine evb (zq n l1 (by omega)) ?_
 by_cases e1 : isTab n l1 = true
 ·
  refine evp e1 (evb (qW l2 (by omega)) ?_)
  obtain ⟨m, rfl, h⟩ := isTab_tab e1
  by_cases e2 : riseB l2 = true
  ·
   refine evp e2 (evb (zF l2 0 (wrap64 ((m : Int) - 1)) (by omega)) ?_)
   have hm := h.1
   rw [w64 (x := (m : Int) - 1) (by omega) (by omega)]
   by_cases e3 : (l2.all fun x => decide (0 ≤ x ∧ x ≤ (m : Int) - 1)) = true
   ·
    have hs : setB (m : Int) l2 = true := by unfold setB inB; rw [e3, e2]; rfl
    refine evp e3 (evc ?_)
    unfold flipsOf
    rw [if_pos ⟨fun i hi => by have := List.all_eq_true.1 e3 i hi; simp at this; exact this.1, hl, fun k hk => by
     have := qE hm hs k (by rw [← h.2.1]; exact hk)
     rw [h.2.1]; exact this.2⟩, if_pos ⟨e1, hs⟩]
   · exact evn e3 (evs (by rw [if_neg (by unfold setB inB; simp only [Bool.and_eq_true]; exact fun h => e3 h.2.1)]))
  · exact evn e2 (evs (by rw [if_neg (by unfold setB; simp only [Bool.and_eq_true]; exact fun h => e2 h.2.2)]))
 · exact evn e1 (evs (by rw [if_neg (fun h => e1 h.1)]))
theorem jv (l1 l2 acc : List Int) (k : Nat) (hl2 : l2.length ≤ 1048576) (hnn : ∀ x ∈ l2, 0 ≤ x) (ha : acc.length < 17592186044416) (z : Int) (hz : 0 ≤ z ∧ z < (l1.length : Int)) (r : List Int × Bool)
  (hr : Ev (fun n => spec_FlipBits.l0 n l1 l2 (acc ++ [rd l1 z]) (wrap64 ((k : Int) + 1))) r) : ∀ (d i : Nat) (x : Int), i + d = l2.length → qq (l2.drop i) x = z →
  Ev (fun n => spec_FlipBits.l1 n l1 l2 acc (k : Int) x (i : Int)) r := by
 intro d
 induction d with
 | zero =>
  intro i x hi hx
  rw [List.drop_of_length_le (by omega)] at hx
  have hx' : x = z := hx
  subst hx'
  exact Ev.step (fun k => spec_FlipBits.l1.eq_2 ..) (evn (by omega) (evp hz.1 (evp hz.2 (evp ha hr))))
 | succ d ih =>
  intro i x hi hx
  have hlt : i < l2.length := by omega
  have hrd : rd l2 (i : Int) = l2[i] := by rw [rd_nat, List.getD_eq_getElem?_getD, List.getElem?_eq_getElem hlt]; rfl
  have h0 : 0 ≤ rd l2 (i : Int) := by rw [hrd]; exact hnn _ (List.getElem_mem hlt)
  refine Ev.step (fun k => spec_FlipBits.l1.eq_2 ..) (evp (by omega) (evp (by omega) (evp h0 ?_)))
  rw [w64s i (by omega)]
  refine ih (i + 1) _ (by omega) ?_
  rw [List.drop_eq_getElem_cons hlt] at hx
  rw [hrd]
  exact hx
theorem jw {n : Nat} {l1 l2 : List Int} (h : Tab n l1) (hs : setB (n : Int) l2 = true) (hl2 : l2.length ≤ 1048576) : ∀ (d i : Nat), i + d = l1.length →
  Ev (fun k => spec_FlipBits.l0 k l1 l2 ((List.range i).map fun k : Nat => rd l1 (Go.bits .xor .i64 (k : Int) (flipMask l2))) (i : Int)) ((List.range l1.length).map fun k : Nat => rd l1 (Go.bits .xor .i64 (k : Int) (flipMask l2)), true) := by
 intro d
 induction d with
 | zero =>
  intro i hi
  refine Ev.step (fun k => spec_FlipBits.l0.eq_2 ..) (evn (by omega) (evs ?_))
  rw [show i = l1.length by omega]
 | succ d ih =>
  intro i hi
  have hlen := h.len
  refine Ev.step (fun k => spec_FlipBits.l0.eq_2 ..) (evp (by omega) ?_)
  have hf := qE h.1 hs i (by rw [← h.2.1]; omega)
  refine jv l1 l2 _ i hl2 (fun x hx => ?_) (by simp; omega) (Go.bits .xor .i64 (i : Int) (flipMask l2)) ⟨hf.2.1, by rw [h.2.1]; exact hf.2.2⟩ _ ?_ l2.length 0 _ (by omega) (by rw [List.drop_zero]; exact hf.1)
  · unfold setB inB at hs; simp only [Bool.and_eq_true, List.all_eq_true, decide_eq_true_eq] at hs; exact (hs.1 x hx).1
  ·
   rw [w64s i (by omega)]
   have := ih (i + 1) (by omega)
   rw [List.range_succ, List.map_append] at this
   exact this
theorem kC (n : Int) (l1 l2 : List Int) (hl : l1.length ≤ 1048576) (hl2 : l2.length ≤ 1048576) : Ev (fun k => spec_FlipBits.f k n l1 l2) (zd n l1 l2) := by
 unfold spec_FlipBits.f zd
 refine evb (evc rfl) (evb (zw n l1 (by omega)) ?_)
 by_cases e1 : isTab n l1 = true
 ·
  obtain ⟨m, rfl, h⟩ := isTab_tab e1
  have hm := h.1
  rw [w64 (x := (m : Int) - 1) (by omega) (by omega)]
  refine evp e1 (evb (jr l2 0 ((m : Int) - 1) (by omega)) (Ev.step (fun k => spec_FlipBits.j0.eq_2 ..) ?_))
  by_cases e2 : setB (m : Int) l2 = true
  ·
   refine evn (by unfold setB at e2; rw [e2]; decide) ?_
   rw [if_pos ⟨e1, e2⟩]
   exact jw h e2 hl2 l1.length 0 (by omega)
  ·
   refine evp (by unfold setB at e2; rw [Bool.eq_false_iff.2 e2]; rfl) (evs ?_)
   rw [if_neg (fun h => e2 h.2)]
 · exact evn e1 (Ev.step (fun k => spec_FlipBits.j0.eq_2 ..) (evp rfl (evs (by rw [if_neg (fun h => e1 h.1)]))))
def zk (n : Nat) (w : List Int) : List Int := (List.range (2 ^ n)).map fun k => dot w (bitPt n k)
theorem qe (n : Nat) (w : List Int) : (zk n w).length = 2 ^ n := by simp [zk]
theorem zB (n : Nat) (w : List Int) (k : Nat) (h : k < 2 ^ n) : (zk n w).getD k 0 = dot w (bitPt n k) := by simp [zk, List.getD_eq_getElem?_getD, h]
theorem ja (n : Nat) (w : List Int) (hn : n ≤ 4) (hw : ∀ x ∈ w, -9 ≤ x ∧ x ≤ 9) (hl : w.length = n) (k : Nat) : -36 ≤ dot w (bitPt n k) ∧ dot w (bitPt n k) ≤ 36 := by
 have := dot_bd 9 1 (by omega) (by omega) w (bitPt n k) hw (bitPt_in n k)
 omega
theorem qj (n : Nat) (hn : n ≤ 4) (w : List Int) (hw : ∀ x ∈ w, -9 ≤ x ∧ x ≤ 9) (hl : w.length = n) : ∀ (d c : Nat) (out : List Int), c + d = 2 ^ n → out.length = c →
  Ev (fun k => impl_productsOf.l0 k (n : Int) w out ((2 ^ n : Nat) : Int) (c : Int)) (out ++ (List.range' c d).map fun k => dot w (bitPt n k)) := by
 have hp := pow4 n hn
 intro d
 induction d with
 | zero =>
  intro c out hc ho
  exact Ev.step (fun k => impl_productsOf.l0.eq_2 ..) (evn (by omega) (evs (by simp)))
 | succ d ih =>
  intro c out hc ho
  refine Ev.step (fun k => impl_productsOf.l0.eq_2 ..) (evp (by omega) ?_)
  rw [w64s c (by omega)]
  refine evb (jt n c (by omega) (by omega)) (evb (jZ w _ 9 1 (by omega) (by omega) hw (bitPt_in n c) (by omega) (by rw [bitPt_len]; omega)) (evp (by omega) ?_))
  refine evr (ih (c + 1) _ (by omega) (by simp; omega)) ?_
  simp [List.range'_succ]
theorem qM (n : Nat) (hn : n ≤ 4) (w : List Int) (hw : ∀ x ∈ w, -9 ≤ x ∧ x ≤ 9) (hl : w.length = n) : Ev (fun k => impl_productsOf.f k (n : Int) w) (zk n w) := by
 unfold impl_productsOf.f zk
 have hp := pow4 n hn
 refine evp (by omega) ?_
 rw [shl1 n (by omega)]
 refine evr (qj n hn w hw hl (2 ^ n) 0 [] (by omega) rfl) ?_
 rw [List.range_eq_range']; rfl
def gp (t p : List Int) : Nat → Int × Int
 | 0 => (1000000000, -1000000000)
 | i + 1 => if t.getD i 0 = 1 then (mn (gp t p i).1 (p.getD i 0), (gp t p i).2) else ((gp t p i).1, mx (gp t p i).2 (p.getD i 0))
theorem kk (t p : List Int) (hl : t.length = p.length) (hx : t.length ≤ 1048576) : ∀ (d i : Nat), i + d = t.length → Ev (fun k => impl_gap.l0 k p (gp t p i).1 (gp t p i).2 t (t.length : Int) (i : Int)) (gp t p t.length) := by
 intro d
 induction d with
 | zero =>
  intro i hi
  refine Ev.step (fun k => impl_gap.l0.eq_2 ..) (evn (by omega) (evs ?_))
  rw [show i = t.length by omega]
 | succ d ih =>
  intro i hi
  have h := ih (i + 1) (by omega)
  simp only [gp] at h
  refine Ev.step (fun k => impl_gap.l0.eq_2 ..) (evp (by omega) (evp (by omega) (evp (by omega) ?_)))
  rw [rd_nat, rd_nat, w64s i (by omega)]
  by_cases e : t.getD i 0 = 1
  ·
   rw [if_pos e] at h
   exact evp e (evp (by omega) h)
  ·
   rw [if_neg e] at h
   exact evn e (evp (by omega) h)
theorem gap (t p : List Int) (hl : t.length = p.length) (hx : t.length ≤ 1048576) : Ev (fun k => impl_gap.f k t p) (gp t p t.length) := by
 unfold impl_gap.f
 exact kk t p hl hx t.length 0 (by omega)
theorem kD (t p : List Int) (B : Int) (hB : 0 ≤ B ∧ B ≤ 100000) (hp : ∀ i, -B ≤ p.getD i 0 ∧ p.getD i 0 ≤ B) : ∀ i, ((gp t p i).1 = 1000000000 ∨ -B ≤ (gp t p i).1 ∧ (gp t p i).1 ≤ B) ∧ ((gp t p i).2 = -1000000000 ∨ -B ≤ (gp t p i).2 ∧ (gp t p i).2 ≤ B) := by
 intro i
 induction i with
 | zero => exact ⟨.inl rfl, .inl rfl⟩
 | succ i ih =>
  have := hp i
  simp only [gp, mn, mx]
  split
  ·
   refine ⟨.inr ?_, ih.2⟩
   simp only
   split <;> omega
  ·
   refine ⟨ih.1, .inr ?_⟩
   simp only
   split <;> omega
def zc (l : List Int) : Prop := (l.length : Int) ≤ 65536 ∧ ∀ x ∈ l, 0 ≤ x ∧ x ≤ 255
theorem kl (l : List Int) (hl : (l.length : Int) ≤ 65536) (hb : ∀ x ∈ l, (Lit.int .u8 x).wf = true) : zc l := by
 refine ⟨hl, fun x hx => ?_⟩
 have := hb x hx
 simp only [Lit.wf, Bool.and_eq_true, decide_eq_true_eq, IntKind.min, IntKind.max, IntKind.signed, IntKind.bits] at this
 simp at this
 omega
theorem ka (y : Int) (h0 : 0 ≤ y) (h1 : y < 18446744073709551616) : 0 ≤ Go.bits .and .u64 (y / 1099511627776) 255 ∧ Go.bits .and .u64 (y / 1099511627776) 255 ≤ 255 := by
 obtain ⟨n, hn⟩ := Int.eq_ofNat_of_zero_le (show 0 ≤ y / 1099511627776 by omega)
 have hn2 : n < 2 ^ 64 := by omega
 have h := (bits_nat .u64 64 (by decide) (fun n h₀ h₁ => by rw [show IntKind.u64.wrap n = n % 18446744073709551616 by simp [IntKind.wrap, IntKind.bits, IntKind.signed]]; omega) n 255 hn2 (by decide)).1
 rw [hn, show (255 : Int) = ((255 : Nat) : Int) from rfl, h]
 have := @Nat.and_le_right n 255
 omega
theorem kb (z : Int) : 0 ≤ IntKind.u64.wrap z ∧ IntKind.u64.wrap z < 18446744073709551616 := by
 rw [show IntKind.u64.wrap z = z % 18446744073709551616 by simp [IntKind.wrap, IntKind.bits, IntKind.signed]]; omega
theorem jX {l : List Int} (hl : zc l) (p s : Int) (hp : 0 ≤ p ∧ p ≤ 1000000) : ∃ x s', spec_l1Cur_next.f l p s = some (x, p + 1, s') ∧ 0 ≤ x ∧ x ≤ 255 := by
 have hr : 0 ≤ rd l p ∧ rd l p ≤ 255 := by
  obtain ⟨j, rfl⟩ := Int.eq_ofNat_of_zero_le hp.1
  rw [rd_nat]
  by_cases hj : j < l.length
  · rw [List.getD_eq_getElem?_getD, List.getElem?_eq_getElem hj]; exact hl.2 _ (List.getElem_mem hj)
  · rw [List.getD_eq_getElem?_getD, List.getElem?_eq_none (by omega)]; decide
 have ew : wrap64 (p + 1) = p + 1 := w64 (by omega) (by omega)
 have hw : ∀ z : Int, ∃ x s', (some (wrap64 (Go.bits .and .u64 ((IntKind.u64.wrap z) / 1099511627776) 255), p + 1, IntKind.u64.wrap z) : Option (Int × Int × Int)) = some (x, p + 1, s') ∧ 0 ≤ x ∧ x ≤ 255 := by
  intro z
  have h := kb z
  have h2 := ka _ h.1 h.2
  refine ⟨_, _, rfl, ?_⟩
  rw [w64 (by omega) (by omega)]; exact h2
 unfold spec_l1Cur_next.f
 rw [ew]
 by_cases h : p < (l.length : Int)
 ·
  rw [if_pos h, if_pos hp.1]
  by_cases h2 : p + 1 ≤ (l.length : Int)
  ·
   rw [if_pos h2]
   refine ⟨_, _, rfl, ?_⟩
   rw [w64 (by omega) (by omega)]; exact hr
  · omega
 ·
  rw [if_neg h, if_neg (by omega)]
  exact hw _
theorem qr (x n : Int) (hx : 0 ≤ x) (hn : 0 < n) : 0 ≤ Int.tmod x n ∧ Int.tmod x n < n := by
 rw [Int.tmod_eq_emod_of_nonneg hx]
 exact ⟨Int.emod_nonneg _ (by omega), Int.emod_lt_of_pos _ hn⟩
theorem zl {l : List Int} (hl : zc l) (p s n : Int) (hp : 0 ≤ p ∧ p ≤ 900000) : ∃ x p' s', spec_l1Cur_pick.f l p s n = some (x, p', s') ∧ 0 ≤ x ∧ (x < n ∨ n ≤ 1 ∧ x = 0) ∧ p ≤ p' ∧ p' ≤ p + 2 := by
 unfold spec_l1Cur_pick.f
 by_cases h1 : n ≤ 1
 · rw [if_pos h1]; exact ⟨0, p, s, rfl, Int.le_refl _, .inr ⟨h1, rfl⟩, by omega, by omega⟩
 ·
  rw [if_neg h1]
  obtain ⟨x, s1, e, hx0, hx1⟩ := jX hl p s (by omega)
  rw [e]; simp only [Option.bind_some]
  by_cases h2 : n > 200
  ·
   rw [if_pos h2]
   obtain ⟨y, s2, e2, hy0, hy1⟩ := jX hl (p + 1) s1 (by omega)
   rw [e2]; simp only [Option.bind_some]
   rw [if_neg (by omega), w64 (x := x * 256) (by omega) (by omega), w64 (by omega) (by omega)]
   have := qr (x * 256 + y) n (by omega) (by omega)
   exact ⟨_, _, _, rfl, this.1, .inl this.2, by omega, by omega⟩
  ·
   rw [if_neg h2, if_neg (by omega)]
   have := qr x n hx0 (by omega)
   exact ⟨_, _, _, rfl, this.1, .inl this.2, by omega, by omega⟩
theorem zN {l : List Int} (hl : zc l) (p s n : Int) (hp : 0 ≤ p ∧ p ≤ 900000) : ∃ b p' s', spec_l1Cur_one.f l p s n = some (b, p', s') ∧ p ≤ p' ∧ p' ≤ p + 2 := by
 obtain ⟨x, p', s', e, _, _, h1, h2⟩ := zl hl p s n hp
 unfold spec_l1Cur_one.f
 rw [e]; exact ⟨_, _, _, rfl, h1, h2⟩
theorem zy {l : List Int} (hl : zc l) (p s : Int) (xs : List Int) (hx : xs ≠ []) (hp : 0 ≤ p ∧ p ≤ 900000) : ∃ x p' s', spec_l1Cur_among.f l p s xs = some (x, p', s') ∧ x ∈ xs ∧ p ≤ p' ∧ p' ≤ p + 2 := by
 have hlen : 0 < xs.length := List.length_pos_iff.2 hx
 obtain ⟨x, p', s', e, h0, h1, h2, h3⟩ := zl hl p s (xs.length : Int) hp
 have hlt : x < (xs.length : Int) := by omega
 unfold spec_l1Cur_among.f
 rw [e]; simp only [Option.bind_some]
 rw [if_pos h0, if_pos hlt]
 refine ⟨_, _, _, rfl, ?_, h2, h3⟩
 obtain ⟨j, rfl⟩ := Int.eq_ofNat_of_zero_le h0
 rw [rd_nat, List.getD_eq_getElem?_getD, List.getElem?_eq_getElem (show j < xs.length by omega)]
 exact List.getElem_mem _
theorem jx (a b : List Int) (hl : a.length = b.length) (hx : a.length ≤ 1048576) : ∀ (d i : Nat), i + d = a.length → Ev (fun k => laws_vInts.l0 k a b (i : Int)) (decide (a.drop i = b.drop i)) := by
 intro d
 induction d with
 | zero =>
  intro i hi
  refine Ev.step (fun k => laws_vInts.l0.eq_2 ..) (evn (by omega) (evs ?_))
  simp [List.drop_of_length_le (show a.length ≤ i by omega), List.drop_of_length_le (show b.length ≤ i by omega)]
 | succ d ih =>
  intro i hi
  refine Ev.step (fun k => laws_vInts.l0.eq_2 ..) (evp (by omega) (evp (by omega) (evp (by omega) ?_)))
  rw [w64s i (by omega), rd_nat, rd_nat, List.drop_eq_getElem_cons (show i < a.length by omega), List.drop_eq_getElem_cons (show i < b.length by omega)]
  have ea : a.getD i 0 = a[i] := by rw [List.getD_eq_getElem?_getD, List.getElem?_eq_getElem (show i < a.length by omega)]; rfl
  have eb : b.getD i 0 = b[i] := by rw [List.getD_eq_getElem?_getD, List.getElem?_eq_getElem (show i < b.length by omega)]; rfl
  rw [ea, eb]
  by_cases e : a[i] = b[i]
  ·
   refine evp e (evr (ih (i + 1) (by omega)) ?_)
   rw [e]; simp only [List.cons.injEq, true_and]
  ·
   refine evn e (evs ?_)
   simp only [List.cons.injEq, e, false_and, decide_false]
theorem zu (a b : List Int) (hx : a.length ≤ 1048576) : Ev (fun k => laws_vInts.f k a b) (decide (a = b)) := by
 unfold laws_vInts.f
 by_cases h : a.length = b.length
 · refine evp (by omega) (evr (jx a b h hx a.length 0 (by omega)) (by simp))
 ·
  refine evn (by omega) (evs ?_)
  have : a ≠ b := fun e => h (by rw [e])
  simp [this]
theorem vCut {l : List Int} (hl : zc l) (n : Nat) (hn0 : 1 ≤ n) (hn : n ≤ 200) : ∃ r, laws_vCut.f l (n : Int) = some r ∧ zc r := by
 have h1 := hl.1
 unfold laws_vCut.f
 by_cases c : (n : Int) > (l.length : Int)
 ·
  rw [if_pos c]
  simp only [Option.bind_some]
  rw [if_pos (by omega), if_pos (by omega), if_pos (by simp), if_pos (by simp)]
  refine ⟨_, rfl, by simp, fun x hx => ?_⟩
  simp at hx
  omega
 ·
  rw [if_neg c]
  simp only [Option.bind_some]
  rw [if_pos (by omega), if_pos (by omega), if_pos (by simp; omega), if_pos (by simp; omega)]
  refine ⟨_, rfl, by simp; omega, fun x hx => ?_⟩
  simp only [List.nil_append, List.mem_append, List.mem_singleton] at hx
  rcases hx with hx | rfl
  · exact hl.2 x (List.mem_of_mem_drop hx)
  · omega
theorem kE {l : List Int} (hl : zc l) : ∃ r, laws_vCut.f l 1 = some r ∧ zc r := vCut hl 1 (by omega) (by omega)
theorem kF {l : List Int} (hl : zc l) : ∃ r, laws_vCut.f l 2 = some r ∧ zc r := vCut hl 2 (by omega) (by omega)
theorem jb {l : List Int} (hl : zc l) (n : Nat) (m : Int) (hm : 1 ≤ m ∧ m ≤ 20) (hn : n ≤ 9) : ∀ (d i : Nat) (p s : Int) (v : List Int), i + d = n → v.length = i → 0 ≤ p ∧ p + 2 * d ≤ 700000 →
  ∃ r, Ev (fun k => spec_l1Cur_plane.l0 k (n : Int) m (i : Int) l p s v 0) r ∧ (n ≤ r.1.length ∧ r.1.length ≤ n + 1) ∧ p ≤ r.2.2.1 ∧ r.2.2.1 ≤ p + 2 * d + 10 := by
 intro d
 induction d with
 | zero =>
  intro i p s v hi hv hp
  obtain ⟨x, p1, s1, e1, _, _, g1, g2⟩ := zl hl p s (wrap64 ((wrap64 (2 * m)) + 3)) (by omega)
  obtain ⟨y, p2, s2, e2, h0, h1, g3, g4⟩ := zl hl p1 s1 60 (by omega)
  by_cases c0 : y = 0
  ·
   obtain ⟨z, p3, s3, e3, _, g5, g6⟩ := zy hl p2 s2 [99, -99, 100, -100, 4611686018427387904] (by simp) (by omega)
   exact ⟨_, Ev.step (fun k => spec_l1Cur_plane.l0.eq_2 ..) (evn (by omega) (evb (evc e1) (evb (evc e2) (evp c0 (evb (evc e3) (evs rfl)))))), by simp only; omega, by simp only; omega, by simp only; omega⟩
  by_cases c1 : y = 1
  ·
   by_cases c : (n : Int) > 0
   ·
    obtain ⟨z, p3, s3, e3, z0, z1, g5, g6⟩ := zl hl p2 s2 (n : Int) (by omega)
    obtain ⟨u, p4, s4, e4, _, g7, g8⟩ := zy hl p3 s3 [99, -99, 100, -100] (by simp) (by omega)
    exact ⟨_, Ev.step (fun k => spec_l1Cur_plane.l0.eq_2 ..) (evn (by omega) (evb (evc e1) (evb (evc e2) (evn c0 (evp c1 (evp c (evb (evc e3) (evb (evc e4) (evp z0 (evp (by simp only; omega) (evs rfl))))))))))), by simp only [List.length_set]; omega, by simp only; omega, by simp only; omega⟩
   · exact ⟨_, Ev.step (fun k => spec_l1Cur_plane.l0.eq_2 ..) (evn (by omega) (evb (evc e1) (evb (evc e2) (evn c0 (evp c1 (evn c (evs rfl))))))), by simp only; omega, by simp only; omega, by simp only; omega⟩
  by_cases c2 : y = 2
  rotate_left
  · exact ⟨_, Ev.step (fun k => spec_l1Cur_plane.l0.eq_2 ..) (evn (by omega) (evb (evc e1) (evb (evc e2) (evn c0 (evn c1 (evn c2 (evs rfl))))))), by simp only; omega, by simp only; omega, by simp only; omega⟩
  exact ⟨_, Ev.step (fun k => spec_l1Cur_plane.l0.eq_2 ..) (evn (by omega) (evb (evc e1) (evb (evc e2) (evn c0 (evn c1 (evp c2 (evp (by omega) (evs rfl)))))))), by simp; omega, by simp only; omega, by simp only; omega⟩
 | succ d ih =>
  intro i p s v hi hv hp
  obtain ⟨x, p1, s1, e1, _, _, g1, g2⟩ := zl hl p s (wrap64 ((wrap64 (2 * m)) + 1)) (by omega)
  obtain ⟨r, hr, h1, h2, h3⟩ := ih (i + 1) p1 s1 (v ++ [wrap64 (x - m)]) (by omega) (by simp; omega) (by omega)
  refine ⟨r, Ev.step (fun k => spec_l1Cur_plane.l0.eq_2 ..) (evp (by omega) (evb (evc e1) (evp (by omega) ?_))), h1, by omega, by omega⟩
  simp only
  rw [w64s i (by omega)]; exact hr
theorem km {l : List Int} (hl : zc l) (p s : Int) (n : Nat) (hn : n ≤ 9) (hp : 0 ≤ p ∧ p ≤ 600000) : ∃ r, Ev (fun k => spec_l1Cur_plane.f k l p s (n : Int)) r ∧ (n ≤ r.1.length ∧ r.1.length ≤ n + 1) ∧ p ≤ r.2.2.1 ∧ r.2.2.1 ≤ p + 30 := by
 obtain ⟨m, p1, s1, e1, hm, g1, g2⟩ := zy hl p s [1, 3, 5, 20] (by simp) (by omega)
 have hm2 : 1 ≤ m ∧ m ≤ 20 := by simp at hm; omega
 obtain ⟨r, hr, h1, h2, h3⟩ := jb hl n m hm2 hn n 0 p1 s1 [] (by omega) rfl (by omega)
 unfold spec_l1Cur_plane.f
 exact ⟨r, evb (evc e1) hr, h1, by omega, by omega⟩
theorem qf {l : List Int} (hl : zc l) (t : List Int) (p s : Int) (ht : 1 ≤ t.length ∧ t.length ≤ 100) (hp : 0 ≤ p ∧ p ≤ 700000) : ∃ r, Ev (fun k => spec_l1Cur_table.j3 k t l p s) r ∧ (t.length ≤ r.1.length ∧ r.1.length ≤ t.length + 1) ∧ p ≤ r.2.1 ∧ r.2.1 ≤ p + 10 := by
 obtain ⟨b, p1, s1, e1, g1, g2⟩ := zN hl p s 40 (by omega)
 by_cases c : b = true
 ·
  obtain ⟨x, p2, s2, e2, h0, h1, g3, g4⟩ := zl hl p1 s1 (t.length : Int) (by omega)
  obtain ⟨y, p3, s3, e3, _, g5, g6⟩ := zy hl p2 s2 [2, -1] (by simp) (by omega)
  obtain ⟨b2, p4, s4, e4, g7, g8⟩ := zN hl p3 s3 40 (by omega)
  by_cases c2 : b2 = true
  rotate_left
  · exact ⟨_, Ev.step (fun k => spec_l1Cur_table.j3.eq_2 ..) (evb (evc e1) (evp c (evb (evc e2) (evb (evc e3) (evp h0 (evp (by simp only; omega) (evb (evs rfl) (evb (evc e4) (evn c2 (evs rfl)))))))))), by simp, by simp only; omega, by simp only; omega⟩
  exact ⟨_, Ev.step (fun k => spec_l1Cur_table.j3.eq_2 ..) (evb (evc e1) (evp c (evb (evc e2) (evb (evc e3) (evp h0 (evp (by simp only; omega) (evb (evs rfl) (evb (evc e4) (evp c2 (evp (by simp only [List.length_set]; omega) (evs rfl))))))))))), by simp, by simp only; omega, by simp only; omega⟩
 ·
  obtain ⟨b2, p4, s4, e4, g7, g8⟩ := zN hl p1 s1 40 (by omega)
  by_cases c2 : b2 = true
  rotate_left
  · exact ⟨_, Ev.step (fun k => spec_l1Cur_table.j3.eq_2 ..) (evb (evc e1) (evn c (evb (evc e4) (evn c2 (evs rfl))))), by simp, by simp only; omega, by simp only; omega⟩
  exact ⟨_, Ev.step (fun k => spec_l1Cur_table.j3.eq_2 ..) (evb (evc e1) (evn c (evb (evc e4) (evp c2 (evp (by omega) (evs rfl)))))), by simp, by simp only; omega, by simp only; omega⟩
theorem jc {l : List Int} (hl : zc l) (n : Nat) (hn : n ≤ 5) : ∀ (d i : Nat) (p s : Int) (t : List Int), i + d = 2 ^ n → t.length = i → 0 ≤ p ∧ p + 2 * d ≤ 650000 →
  ∃ r, Ev (fun k => spec_l1Cur_table.l0 k (n : Int) t (i : Int) l p s) r ∧ r.1.length ≤ 40 ∧ p ≤ r.2.1 ∧ r.2.1 ≤ p + 2 * d + 10 := by
 have h2 : 1 ≤ 2 ^ n ∧ 2 ^ n ≤ 32 := ⟨Nat.two_pow_pos n, Nat.pow_le_pow_right (n := 2) (by decide) hn⟩
 intro d
 induction d with
 | zero =>
  intro i p s t hi ht hp
  obtain ⟨r, hr, h3, h4, h5⟩ := qf hl t p s (by omega) (by omega)
  refine ⟨r, Ev.step (fun k => spec_l1Cur_table.l0.eq_2 ..) (evp (by omega) (evn ?_ hr)), by omega, by omega, by omega⟩
  rw [shl1 n (by omega)]; omega
 | succ d ih =>
  intro i p s t hi ht hp
  obtain ⟨x, p1, s1, e1, _, _, g1, g2⟩ := zl hl p s 2 (by omega)
  obtain ⟨r, hr, h3, h4, h5⟩ := ih (i + 1) p1 s1 (t ++ [x]) (by omega) (by simp; omega) (by omega)
  refine ⟨r, Ev.step (fun k => spec_l1Cur_table.l0.eq_2 ..) (evp (by omega) (evp ?_ (evb (evc e1) (evp (by omega) ?_)))), h3, by omega, by omega⟩
  · rw [shl1 n (by omega)]; omega
  ·
   simp only
   rw [w64s i (by omega)]; exact hr
theorem qg {l : List Int} (hl : zc l) (n : Nat) (hn : n ≤ 5) (b : Bool) (p s : Int) (w : List Int) (q : Int) (hw : b = true → planeB w q = true ∧ w.length = n) (hp : 0 ≤ p ∧ p ≤ 600000) :
  ∃ r, Ev (fun k => spec_l1Cur_table.j1 k (n : Int) [] b l p s w q) r ∧ r.1.length ≤ 40 ∧ p ≤ r.2.1 ∧ r.2.1 ≤ p + 100 := by
 have h2 : 1 ≤ 2 ^ n ∧ 2 ^ n ≤ 32 := ⟨Nat.two_pow_pos n, Nat.pow_le_pow_right (n := 2) (by decide) hn⟩
 by_cases c : b = true
 ·
  obtain ⟨h1, h3⟩ := hw c
  have hP := (planeB_iff w q).1 h1
  have h4 := hP.1
  have ht := qX n (by omega) w q 99 (by omega) hP.2.1 (by omega)
  have hl2 := tabOf_len n w q
  obtain ⟨r, hr, h5, h6, h7⟩ := qf hl (tabOf n w q) p s (by omega) (by omega)
  exact ⟨r, Ev.step (fun k => spec_l1Cur_table.j1.eq_2 ..) (evp c (evb ht hr)), by omega, by omega, by omega⟩
 ·
  obtain ⟨r, hr, h5, h6, h7⟩ := jc hl n hn (2 ^ n) 0 p s [] (by omega) rfl (by omega)
  exact ⟨r, Ev.step (fun k => spec_l1Cur_table.j1.eq_2 ..) (evn c hr), by omega, by omega, by omega⟩
theorem qs {l : List Int} (hl : zc l) (p s n : Int) (hp : 0 ≤ p ∧ p ≤ 500000) : ∃ r, Ev (fun k => spec_l1Cur_table.f k l p s n) r ∧ r.1.length ≤ 40 ∧ p ≤ r.2.1 ∧ r.2.1 ≤ p + 200 := by
 unfold spec_l1Cur_table.f
 have h0 : ∃ r, Ev (fun k => spec_l1Cur_table.j0 k n [] true l p s) r ∧ r.1.length ≤ 40 ∧ p ≤ r.2.1 ∧ r.2.1 ≤ p + 200 :=
  ⟨_, Ev.step (fun k => spec_l1Cur_table.j0.eq_2 ..) (evp rfl (evs rfl)), by simp, by simp only; omega, by simp only; omega⟩
 by_cases c1 : n < 0
 ·
  obtain ⟨r, hr, h⟩ := h0
  exact ⟨r, evb (evs rfl) (evp c1 hr), h⟩
 by_cases c2 : n > 5
 ·
  obtain ⟨r, hr, h⟩ := h0
  exact ⟨r, evb (evs rfl) (evn c1 (by rw [decide_eq_true c2]; exact hr)), h⟩
 obtain ⟨m, rfl⟩ := Int.eq_ofNat_of_zero_le (show 0 ≤ n by omega)
 obtain ⟨v, hv, h1, h2, h3⟩ := km hl p s m (by omega) (by omega)
 have hj : ∃ r, Ev (fun k => spec_l1Cur_table.j0 k (m : Int) [] false l p s) r ∧ r.1.length ≤ 40 ∧ p ≤ r.2.1 ∧ r.2.1 ≤ p + 200 := by
  have hno := qg hl m (by omega) false v.2.2.1 v.2.2.2 v.1 v.2.1 (fun h => by cases h) (by omega)
  by_cases c3 : (m : Int) > 0
  rotate_left
  ·
   obtain ⟨r, hr, h4, h5, h6⟩ := hno
   exact ⟨r, Ev.step (fun k => spec_l1Cur_table.j0.eq_2 ..) (evn (by simp) (evb hv (evn c3 hr))), h4, by omega, by omega⟩
  by_cases c4 : planeB v.1 v.2.1 = true
  rotate_left
  ·
   obtain ⟨r, hr, h4, h5, h6⟩ := hno
   exact ⟨r, Ev.step (fun k => spec_l1Cur_table.j0.eq_2 ..) (evn (by simp) (evb hv (evp c3 (evb (zY _ _ (by omega)) (evn c4 hr))))), h4, by omega, by omega⟩
  by_cases c5 : (v.1.length : Int) = (m : Int)
  rotate_left
  ·
   obtain ⟨r, hr, h4, h5, h6⟩ := hno
   exact ⟨r, Ev.step (fun k => spec_l1Cur_table.j0.eq_2 ..) (evn (by simp) (evb hv (evp c3 (evb (zY _ _ (by omega)) (evp c4 (evn c5 hr)))))), h4, by omega, by omega⟩
  obtain ⟨b, p1, s1, e1, g1, g2⟩ := zN hl v.2.2.1 v.2.2.2 2 (by omega)
  obtain ⟨r, hr, h4, h5, h6⟩ := qg hl m (by omega) b p1 s1 v.1 v.2.1 (fun _ => ⟨c4, by omega⟩) (by omega)
  exact ⟨r, Ev.step (fun k => spec_l1Cur_table.j0.eq_2 ..) (evn (by simp) (evb hv (evp c3 (evb (zY _ _ (by omega)) (evp c4 (evp c5 (evb (evc e1) hr))))))), h4, by omega, by omega⟩
 obtain ⟨r, hr, h⟩ := hj
 exact ⟨r, evb (evs rfl) (evn c1 (by rw [decide_eq_false c2]; exact hr)), h⟩
def gpv (n : Nat) (t w : List Int) : Int × Int := gp t (zk n w) t.length
def zn (n : Nat) (t : List Int) (o : Option (List Int)) (v : List Int) : Option (List Int) :=
 if (o.all fun b => decide (impl_leastPlane.sz v < impl_leastPlane.sz b)) && decide ((gpv n t v).1 > (gpv n t v).2) then some v else o
def lp (n : Nat) (t : List Int) : Option (List Int) := (wts 3 n).foldl (zn n t) none
def bnd (n : Nat) (t v : List Int) : Int := if (gpv n t v).1 = 1000000000 then (gpv n t v).2 + 1 else (gpv n t v).1
def lpS (n : Nat) (t : List Int) : Option (List Int) → List Int × Int × Int
 | none => ([], 0, 1000000000)
 | some v => (v, bnd n t v, impl_leastPlane.sz v)
def okw (n : Nat) (v : List Int) : Prop := v.length = n ∧ ∀ x ∈ v, -9 ≤ x ∧ x ≤ 9
theorem jd {n : Nat} {v : List Int} (hn : n ≤ 4) (h : okw n v) : 0 ≤ impl_leastPlane.sz v ∧ impl_leastPlane.sz v ≤ 36 := by
 have := impl_leastPlane.sz_bd 9 v h.2
 have := h.1
 omega
theorem qF (n : Nat) : ∀ v ∈ wts 3 n, okw n v := fun v hv => ⟨wts_len 3 n v hv, fun x hx => by have := wts_bd 3 n v hv x hx; omega⟩
theorem qt {n : Nat} {t : List Int} {o : Option (List Int)} {v : List Int} (ho : ∀ b, o = some b → okw n b) (hv : okw n v) : ∀ b, zn n t o v = some b → okw n b := by
 intro b h
 unfold zn at h
 split at h
 · cases h; exact hv
 · exact ho b h
theorem kn {n : Nat} (hn : n ≤ 4) {t v : List Int} (hv : okw n v) : ((gpv n t v).1 = 1000000000 ∨ -36 ≤ (gpv n t v).1 ∧ (gpv n t v).1 ≤ 36) ∧ ((gpv n t v).2 = -1000000000 ∨ -36 ≤ (gpv n t v).2 ∧ (gpv n t v).2 ≤ 36) := by
 refine kD t (zk n v) 36 (by omega) (fun i => ?_) t.length
 by_cases h : i < 2 ^ n
 · rw [zB n v i h]; exact ja n v hn hv.2 hv.1 i
 · rw [List.getD_eq_getElem?_getD, List.getElem?_eq_none (by rw [qe]; omega)]; simp
theorem je (n : Nat) (hn : n ≤ 4) (t : List Int) (ht : t.length = 2 ^ n) (o : Option (List Int)) (v : List Int) (ho : ∀ b, o = some b → okw n b) (hv : okw n v) :
  Ev (fun k => impl_leastPlane.step k t (n : Int) (lpS n t o) v) (lpS n t (zn n t o v)) := by
 have hp := pow4 n hn
 have hz := jd hn hv
 have hg := kn (t := t) hn hv
 unfold impl_leastPlane.step zn
 by_cases c : impl_leastPlane.sz v ≥ (lpS n t o).2.2
 ·
  refine evp c (evs ?_)
  cases o with
  | none => simp only [lpS] at c; omega
  | some b =>
   simp only [lpS] at c
   rw [show (Option.all (fun b => decide (impl_leastPlane.sz v < impl_leastPlane.sz b)) (some b)) = false by simp; omega, Bool.false_and]; rfl
 ·
  refine evn c (evb (qM n hn v hv.2 hv.1) (evb (gap t _ (by rw [qe, ht]) (by omega)) ?_))
  have ha : (o.all fun b => decide (impl_leastPlane.sz v < impl_leastPlane.sz b)) = true := by
   cases o with
   | none => rfl
   | some b => simp only [lpS] at c; simp; omega
  rw [ha, Bool.true_and]
  show Ev (fun k => if (gpv n t v).1 ≤ (gpv n t v).2 then _ else _) _
  by_cases c2 : (gpv n t v).1 ≤ (gpv n t v).2
  · exact evp c2 (evs (by rw [decide_eq_false (by omega)]; rfl))
  refine evn c2 (evb (evc (qU v (by have := hv.1; omega))) (evs ?_))
  rw [decide_eq_true (by omega), if_pos rfl]
  show (v, (if (gpv n t v).1 = 1000000000 then wrap64 ((gpv n t v).2 + 1) else (gpv n t v).1), impl_leastPlane.sz v) = (v, bnd n t v, impl_leastPlane.sz v)
  unfold bnd
  by_cases c3 : (gpv n t v).1 = 1000000000
  rotate_left
  · rw [if_neg c3, if_neg c3]
  rw [if_pos c3, if_pos c3, w64 (by omega) (by omega)]
theorem jf (n : Nat) (hn : n ≤ 4) (t : List Int) (ht : t.length = 2 ^ n) : ∀ (L : List (List Int)) (o : Option (List Int)), (∀ v ∈ L, okw n v) → (∀ b, o = some b → okw n b) →
  Ev (fun k => L.foldlM (impl_leastPlane.step k t (n : Int)) (lpS n t o)) (lpS n t (L.foldl (zn n t) o)) := by
 intro L
 induction L with
 | nil => intro o _ _; exact evs rfl
 | cons v L ih =>
  intro o hL ho
  simp only [List.foldlM_cons, List.foldl_cons]
  exact evb (je n hn t ht o v ho (hL v (by simp))) (ih _ (fun x hx => hL x (by simp [hx])) (qt ho (hL v (by simp))))
theorem jy (n : Nat) (t : List Int) : ∀ (L : List (List Int)) (o : Option (List Int)), (∀ v ∈ L, okw n v) → (∀ b, o = some b → okw n b) → ∀ b, L.foldl (zn n t) o = some b → okw n b := by
 intro L
 induction L with
 | nil => intro o _ ho; exact ho
 | cons v L ih => intro o hL ho; exact ih _ (fun x hx => hL x (by simp [hx])) (qt ho (hL v (by simp)))
theorem ko (n : Nat) (t : List Int) : ∀ b, lp n t = some b → okw n b := jy n t _ _ (qF n) (fun b h => by cases h)
theorem qN (n : Nat) (hn : n ≤ 4) (t : List Int) (ht : t.length = 2 ^ n) : Ev (fun k => impl_leastPlane.f k (n : Int) t) ((lpS n t (lp n t)).1, (lpS n t (lp n t)).2.1, (lpS n t (lp n t)).2.2, (lp n t).isSome) := by
 unfold impl_leastPlane.f
 refine evp (by omega) ?_
 rw [Int.toNat_natCast]
 refine evb (jf n hn t ht (wts 3 n) none (qF n) (fun b h => by cases h)) (evs ?_)
 show ((lpS n t (lp n t)).1, (lpS n t (lp n t)).2.1, (lpS n t (lp n t)).2.2, _) = _
 have : decide ((lpS n t (lp n t)).2.2 < 1000000000) = (lp n t).isSome := by
  cases h : lp n t with
  | none => simp [lpS]
  | some v => have := jd hn (ko n t v h); exact decide_eq_true (show impl_leastPlane.sz v < 1000000000 by omega)
 exact congrArg (fun b => ((lpS n t (lp n t)).1, (lpS n t (lp n t)).2.1, (lpS n t (lp n t)).2.2, b)) this
theorem qO {n : Int} {l : List Int} (h : isTab n l = true) : ∃ m : Nat, n = m ∧ m ≤ 4 ∧ l.length = 2 ^ m ∧ l.length ≤ 16 := by
 obtain ⟨h1, h2, _⟩ := (isTab_iff n l).1 h
 refine ⟨n.toNat, by omega, by omega, h2, ?_⟩
 have := pow4 n.toNat (by omega)
 omega
def zO (n : Int) (l : List Int) : Bool × Bool := if isTab n l = true then ((lp n.toNat l).isSome, true) else (false, false)
theorem kc (t : List Int) (h : t.length = 1) : (lp 0 t).isSome = true := by
 have e : (gpv 0 t []).1 > (gpv 0 t []).2 := by
  unfold gpv
  rw [h]
  simp only [gp]
  have : (zk 0 []).getD 0 0 = 0 := by simp [zk, dot]
  rw [this]
  split <;> simp [mn, mx]
 simp only [lp, wts, List.foldl_cons, List.foldl_nil, zn, Option.all_none, Bool.true_and]
 rw [if_pos (by simpa using e)]; rfl
theorem zP (n : Int) (l : List Int) (hl : l.length ≤ 1048576) : Ev (fun k => impl_IsThreshold.f k n l) (zO n l) := by
 unfold impl_IsThreshold.f zO
 refine evb (zq n l (by omega)) ?_
 by_cases e : isTab n l = true
 ·
  obtain ⟨m, rfl, hm, hlen, _⟩ := qO e
  refine evp e ?_
  have hi : Ev (fun k => impl_isThreshold.f k (m : Int) l) (lp m l).isSome := by
   unfold impl_isThreshold.f
   by_cases h0 : (m : Int) = 0
   ·
    obtain rfl : m = 0 := by omega
    exact evp h0 (evs (kc l (by simpa using hlen)).symm)
   · exact evn h0 (evb (qN m hm l hlen) (evs rfl))
  refine evb hi (evs ?_)
  rw [if_pos e, Int.toNat_natCast]
 · exact evn e (evs (by rw [if_neg e]))
theorem jY (t p : List Int) : ∀ i j, j < i → (t.getD j 0 = 1 → (gp t p i).1 ≤ p.getD j 0) ∧ (t.getD j 0 ≠ 1 → p.getD j 0 ≤ (gp t p i).2) := by
 intro i
 induction i with
 | zero => intro j h; omega
 | succ i ih =>
  intro j hj
  simp only [gp]
  by_cases e : t.getD i 0 = 1
  ·
   rw [if_pos e]
   rcases Nat.lt_or_ge j i with h | h
   ·
    have := ih j h
    exact ⟨fun h1 => by have := this.1 h1; unfold mn; simp only; split <;> omega, this.2⟩
   ·
    obtain rfl : j = i := by omega
    exact ⟨fun _ => by unfold mn; simp only; split <;> omega, fun h => absurd e h⟩
  ·
   rw [if_neg e]
   rcases Nat.lt_or_ge j i with h | h
   ·
    have := ih j h
    exact ⟨this.1, fun h1 => by have := this.2 h1; unfold mx; simp only; split <;> omega⟩
   ·
    obtain rfl : j = i := by omega
    exact ⟨fun h => absurd h e, fun _ => by unfold mx; simp only; split <;> omega⟩
theorem jz (n : Nat) (t : List Int) : ∀ (L : List (List Int)) (o : Option (List Int)), (∀ b, o = some b → (gpv n t b).1 > (gpv n t b).2) → ∀ b, L.foldl (zn n t) o = some b → (gpv n t b).1 > (gpv n t b).2 := by
 intro L
 induction L with
 | nil => intro o ho; exact ho
 | cons v L ih =>
  intro o ho
  refine ih _ (fun b hb => ?_)
  unfold zn at hb
  split at hb
  ·
   rename_i e
   obtain rfl := Option.some.inj hb
   rw [Bool.and_eq_true] at e
   exact of_decide_eq_true e.2
  · exact ho b hb
theorem jg {n : Nat} {t v : List Int} (h : lp n t = some v) (ht : t.length = 2 ^ n) : ∀ x y, x < 2 ^ n → y < 2 ^ n → t.getD x 0 = 1 → t.getD y 0 ≠ 1 → dot v (bitPt n y) < dot v (bitPt n x) := by
 intro x y hx hy h1 h0
 have hp := jz n t (wts 3 n) none (fun b h => by cases h) v h
 unfold gpv at hp
 have a := (jY t (zk n v) t.length x (by omega)).1 h1
 have b := (jY t (zk n v) t.length y (by omega)).2 h0
 rw [zB n v x hx] at a
 rw [zB n v y hy] at b
 omega
namespace Th
def vv : Nat → Nat → Nat
 | 0, _ => 0
 | N + 1, k => if k = N then (2 ^ (2 ^ N) - 1) <<< (2 ^ N) else (vv N k) ||| ((vv N k) <<< (2 ^ N))
def zG (N : Nat) : Nat := 2 ^ (2 ^ N) - 1
def jA (N p0 p1 p2 p3 : Nat) : Nat :=
 ((vv N p0 &&& vv N p3) &&& ((zG N ^^^ vv N p1) &&& (zG N ^^^ vv N p2))) ||| ((vv N p1 &&& vv N p2) &&& ((zG N ^^^ vv N p0) &&& (zG N ^^^ vv N p3)))
def tb (p0 p3 p1 p2 : Nat) : Bool := Nat.beq (p0 &&& p3) (p1 &&& p2) && Nat.beq (p0 ||| p3) (p1 ||| p2)
def q2 (N p0 p3 p1 : Nat) : Nat → Nat
 | 0 => 0
 | p2 + 1 => (bif Nat.ble (p1 + 1) p2 && tb p0 p3 p1 p2 then jA N p0 p1 p2 p3 else 0) ||| q2 N p0 p3 p1 p2
def q1 (N p0 p3 : Nat) : Nat → Nat
 | 0 => 0
 | p1 + 1 => (bif Nat.ble (p0 + 1) p1 then q2 N p0 p3 p1 p3 else 0) ||| q1 N p0 p3 p1
def q3 (N p0 : Nat) : Nat → Nat
 | 0 => 0
 | p3 + 1 => q1 N p0 p3 p3 ||| q3 N p0 p3
def q0 (N : Nat) : Nat → Nat
 | 0 => 0
 | p0 + 1 => q3 N p0 N ||| q0 N p0
def trd (N : Nat) : Nat := q0 N N
def nx (q : List Nat) (w : Nat) : List Nat := q.map (· + 3) ++ q.map (· + w)
def cd (b : Nat) : List Nat → Nat
 | [] => 0
 | y :: q => (bif Nat.ble b y then 1 else 0) + 2 * cd b q
def tl (q : List Nat) : List Nat → Nat
 | [] => 1
 | b :: bs => (1 <<< cd b q) ||| tl q bs
def tt : Nat → List Nat → Nat
 | 0, q => tl q q
 | n + 1, q => (((tt n (nx q 0) ||| tt n (nx q 1)) ||| (tt n (nx q 2) ||| tt n (nx q 3))) ||| ((tt n (nx q 4) ||| tt n (nx q 5)) ||| tt n (nx q 6)))
def okm (m : Nat) : Bool := Nat.beq (tt m [0] ||| trd (2 ^ m)) (zG (2 ^ m))
theorem kG : ∀ N k, k < N → vv N k < 2 ^ (2 ^ N) := by
 intro N
 induction N with
 | zero => intro k h; omega
 | succ N ih =>
  intro k h
  have e : 2 ^ 2 ^ (N + 1) = 2 ^ 2 ^ N * 2 ^ 2 ^ N := by rw [Nat.pow_succ 2 N, Nat.mul_two, Nat.pow_add]
  have hp := Nat.two_pow_pos (2 ^ N)
  simp only [vv]
  by_cases c : k = N
  ·
   rw [if_pos c, Nat.shiftLeft_eq, e]
   exact Nat.mul_lt_mul_of_pos_right (by omega) hp
  ·
   rw [if_neg c]
   have h1 := ih k (by omega)
   refine Nat.or_lt_two_pow (Nat.lt_of_lt_of_le h1 (Nat.pow_le_pow_right (by decide) (Nat.pow_le_pow_right (by decide) (by omega)))) ?_
   rw [Nat.shiftLeft_eq, e]
   exact Nat.mul_lt_mul_of_pos_right h1 hp
theorem zH : ∀ N k x, k < N → x < 2 ^ N → (vv N k).testBit x = x.testBit k := by
 intro N
 induction N with
 | zero => intro k x h; omega
 | succ N ih =>
  intro k x h hx
  rw [Nat.pow_succ] at hx
  simp only [vv]
  by_cases c : k = N
  ·
   subst c
   rw [if_pos rfl, Nat.testBit_shiftLeft, Nat.testBit_two_pow_sub_one]
   by_cases g : 2 ^ k ≤ x
   ·
    have e : x.testBit k = true := by
     rw [Nat.testBit_eq_decide_div_mod_eq, show x / 2 ^ k = 1 from Nat.div_eq_of_lt_le (by omega) (by omega)]; rfl
    rw [e, decide_eq_true (show 2 ^ k ≤ x from g), decide_eq_true (show x - 2 ^ k < 2 ^ k by omega)]; rfl
   · rw [decide_eq_false (show ¬ 2 ^ k ≤ x from g), Nat.testBit_lt_two_pow (by omega)]; rfl
  ·
   rw [if_neg c, Nat.testBit_or, Nat.testBit_shiftLeft]
   by_cases g : 2 ^ N ≤ x
   ·
    have h0 : (vv N k).testBit x = false := Nat.testBit_lt_two_pow (Nat.lt_of_lt_of_le (kG N k (by omega)) (Nat.pow_le_pow_right (by decide) g))
    rw [h0, decide_eq_true (show 2 ^ N ≤ x from g), Bool.false_or, Bool.true_and, ih k (x - 2 ^ N) (by omega) (by omega)]
    have hl : k < N := by omega
    obtain ⟨d, rfl⟩ : ∃ d, N = k + 1 + d := ⟨N - (k + 1), by omega⟩
    rw [Nat.testBit_eq_decide_div_mod_eq, Nat.testBit_eq_decide_div_mod_eq]
    have e2 : 2 ^ (k + 1 + d) = 2 ^ k * (2 * 2 ^ d) := by rw [Nat.pow_add, Nat.pow_succ, Nat.mul_assoc]
    rw [e2] at g ⊢
    have e3 : (x - 2 ^ k * (2 * 2 ^ d)) / 2 ^ k = x / 2 ^ k - 2 * 2 ^ d := by rw [Nat.sub_mul_div_of_le]; exact g
    rw [e3]
    have : 2 * 2 ^ d ≤ x / 2 ^ k := (Nat.le_div_iff_mul_le (Nat.two_pow_pos k)).2 (by rw [Nat.mul_comm]; exact g)
    congr 2
    generalize 2 ^ d = D at *
    omega
   · rw [decide_eq_false (show ¬ 2 ^ N ≤ x from g), Bool.false_and, Bool.or_false, ih k x (by omega) (by omega)]
theorem zV (N k x : Nat) (hk : k < N) (hx : x < 2 ^ N) : (zG N ^^^ vv N k).testBit x = !x.testBit k := by
 unfold zG
 rw [Nat.testBit_xor, zH N k x hk hx, Nat.testBit_two_pow_sub_one, decide_eq_true hx]
 cases x.testBit k <;> rfl
def qu (N x : Nat) : Prop := ∃ p0 p1 p2 p3, p0 < p1 ∧ p1 < p2 ∧ p2 < p3 ∧ p3 < N ∧ tb p0 p3 p1 p2 = true ∧ x.testBit p0 = x.testBit p3 ∧ x.testBit p1 = x.testBit p2 ∧ x.testBit p0 ≠ x.testBit p1
theorem kd {N p0 p1 p2 p3 x : Nat} (hx : x < 2 ^ N) (h01 : p0 < p1) (h12 : p1 < p2) (h23 : p2 < p3) (h3 : p3 < N) (h : (jA N p0 p1 p2 p3).testBit x = true) : x.testBit p0 = x.testBit p3 ∧ x.testBit p1 = x.testBit p2 ∧ x.testBit p0 ≠ x.testBit p1 := by
 unfold jA at h
 rw [Nat.testBit_or, Nat.testBit_and, Nat.testBit_and, Nat.testBit_and, Nat.testBit_and, Nat.testBit_and, Nat.testBit_and, zH N p0 x (by omega) hx, zH N p1 x (by omega) hx, zH N p2 x (by omega) hx, zH N p3 x (by omega) hx, zV N p0 x (by omega) hx, zV N p1 x (by omega) hx, zV N p2 x (by omega) hx, zV N p3 x (by omega) hx] at h
 revert h
 cases x.testBit p0 <;> cases x.testBit p1 <;> cases x.testBit p2 <;> cases x.testBit p3 <;> simp
theorem zt (x : Nat) : (0 : Nat).testBit x = false := Nat.zero_testBit x
theorem kH {N p0 p3 p1 x : Nat} (hx : x < 2 ^ N) (h01 : p0 < p1) (h3 : p3 < N) : ∀ n, n ≤ p3 → (q2 N p0 p3 p1 n).testBit x = true → qu N x := by
 intro n
 induction n with
 | zero => intro _ h; simp [q2] at h
 | succ n ih =>
  intro hn h
  simp only [q2] at h
  rw [Nat.testBit_or, Bool.or_eq_true] at h
  rcases h with h | h
  ·
   by_cases c : (Nat.ble (p1 + 1) n && tb p0 p3 p1 n) = true
   ·
    rw [c, cond_true] at h
    rw [Bool.and_eq_true] at c
    have c1 := Nat.le_of_ble_eq_true c.1
    exact ⟨p0, p1, n, p3, h01, by omega, by omega, h3, c.2, kd hx h01 (by omega) (by omega) h3 h⟩
   ·
    rw [Bool.not_eq_true] at c
    rw [c, cond_false, zt] at h; cases h
  · exact ih (by omega) h
theorem kI {N p0 p3 x : Nat} (hx : x < 2 ^ N) (h3 : p3 < N) : ∀ n, n ≤ p3 → (q1 N p0 p3 n).testBit x = true → qu N x := by
 intro n
 induction n with
 | zero => intro _ h; simp [q1] at h
 | succ n ih =>
  intro hn h
  simp only [q1] at h
  rw [Nat.testBit_or, Bool.or_eq_true] at h
  rcases h with h | h
  ·
   by_cases c : Nat.ble (p0 + 1) n = true
   ·
    rw [c, cond_true] at h
    have c1 := Nat.le_of_ble_eq_true c
    exact kH hx (by omega) h3 p3 (Nat.le_refl _) h
   ·
    rw [Bool.not_eq_true] at c
    rw [c, cond_false, zt] at h; cases h
  · exact ih (by omega) h
theorem kJ {N p0 x : Nat} (hx : x < 2 ^ N) : ∀ n, n ≤ N → (q3 N p0 n).testBit x = true → qu N x := by
 intro n
 induction n with
 | zero => intro _ h; simp [q3] at h
 | succ n ih =>
  intro hn h
  simp only [q3] at h
  rw [Nat.testBit_or, Bool.or_eq_true] at h
  rcases h with h | h
  · exact kI hx (by omega) n (Nat.le_refl _) h
  · exact ih (by omega) h
theorem kK {N x : Nat} (hx : x < 2 ^ N) : ∀ n, (q0 N n).testBit x = true → qu N x := by
 intro n
 induction n with
 | zero => intro h; simp [q0] at h
 | succ n ih =>
  intro h
  simp only [q0] at h
  rw [Nat.testBit_or, Bool.or_eq_true] at h
  rcases h with h | h
  · exact kJ hx N (Nat.le_refl _) h
  · exact ih h
theorem kL (q : List Nat) (x : Nat) : ∀ bs, (tl q bs).testBit x = true → ∃ b, x = cd b q := by
 intro bs
 induction bs with
 | nil =>
  intro h
  have : x = 0 := by
   simp only [tl] at h
   rw [Nat.testBit_one_eq_true_iff_self_eq_zero] at h; exact h
  subst this
  have key : ∀ l : List Nat, ∃ B, ∀ b, B ≤ b → cd b l = 0 := by
   intro l
   induction l with
   | nil => exact ⟨0, fun _ _ => rfl⟩
   | cons y l ih =>
    obtain ⟨B, hB⟩ := ih
    refine ⟨max B (y + 1), fun b hb => ?_⟩
    simp only [cd]
    rw [hB b (by omega), show Nat.ble b y = false from Bool.eq_false_iff.2 (fun h => by have := Nat.le_of_ble_eq_true h; omega)]; rfl
  obtain ⟨B, hB⟩ := key q
  exact ⟨B, (hB B (Nat.le_refl _)).symm⟩
 | cons b bs ih =>
  intro h
  simp only [tl] at h
  rw [Nat.testBit_or, Bool.or_eq_true] at h
  rcases h with h | h
  ·
   refine ⟨b, ?_⟩
   rw [Nat.testBit_shiftLeft, Bool.and_eq_true, decide_eq_true_eq, Nat.testBit_one_eq_true_iff_self_eq_zero] at h
   omega
  · exact ih h
theorem kM (x : Nat) : ∀ n q, (tt n q).testBit x = true → ∃ ws : List Nat, ws.length = n ∧ (∀ w ∈ ws, w ≤ 6) ∧ ∃ b, x = cd b (ws.foldl nx q) := by
 intro n
 induction n with
 | zero => intro q h; exact ⟨[], rfl, by simp, kL q x q h⟩
 | succ n ih =>
  intro q h
  have one : ∀ w, w ≤ 6 → (tt n (nx q w)).testBit x = true → ∃ ws : List Nat, ws.length = n + 1 ∧ (∀ w ∈ ws, w ≤ 6) ∧ ∃ b, x = cd b (ws.foldl nx q) := by
   intro w hw hx
   obtain ⟨ws, h1, h2, h3⟩ := ih _ hx
   refine ⟨w :: ws, by simp [h1], fun y hy => ?_, h3⟩
   rcases List.mem_cons.1 hy with rfl | hy
   · exact hw
   · exact h2 y hy
  simp only [tt] at h
  rw [Nat.testBit_or, Nat.testBit_or, Nat.testBit_or, Nat.testBit_or, Nat.testBit_or, Nat.testBit_or] at h
  simp only [Bool.or_eq_true] at h
  rcases h with ((h | h) | (h | h)) | ((h | h) | h)
  · exact one 0 (by decide) h
  · exact one 1 (by decide) h
  · exact one 2 (by decide) h
  · exact one 3 (by decide) h
  · exact one 4 (by decide) h
  · exact one 5 (by decide) h
  · exact one 6 (by decide) h
theorem ke (m : Nat) (h : m ≤ 4) : okm m = true := by
 have hm : m = 0 ∨ m = 1 ∨ m = 2 ∨ m = 3 ∨ m = 4 := by omega
 rcases hm with rfl | rfl | rfl | rfl | rfl <;> decide +kernel
theorem all_told (m : Nat) (hm : m ≤ 4) (x : Nat) (hx : x < 2 ^ (2 ^ m)) : qu (2 ^ m) x ∨ ∃ ws : List Nat, ws.length = m ∧ (∀ w ∈ ws, w ≤ 6) ∧ ∃ b, x = cd b (ws.foldl nx [0]) := by
 have h := Nat.eq_of_beq_eq_true (ke m hm)
 have hb : (tt m [0] ||| trd (2 ^ m)).testBit x = true := by
  rw [h]; unfold zG; rw [Nat.testBit_two_pow_sub_one]; exact decide_eq_true hx
 rw [Nat.testBit_or, Bool.or_eq_true] at hb
 rcases hb with hb | hb
 · exact .inr (kM x m [0] hb)
 · exact .inl (kK hx _ hb)
end Th
theorem kp (m : Nat) : ∀ n (v : List Int), v.length = n → (∀ x ∈ v, -(m : Int) ≤ x ∧ x ≤ m) → v ∈ wts m n := by
 intro n
 induction n with
 | zero => intro v hl _; obtain rfl := List.eq_nil_of_length_eq_zero hl; simp [wts]
 | succ n ih =>
  intro v hl hb
  cases v with
  | nil => simp at hl
  | cons x v =>
   have hx := hb x (by simp)
   refine (wfrom_mem _ _ _ _).2 ⟨(x + m).toNat, by omega, v, ih v (by simpa using hl) (fun y hy => hb y (by simp [hy])), ?_⟩
   congr 1; omega
theorem kf (n : Nat) (t : List Int) : ∀ (L : List (List Int)) (o : Option (List Int)) (b : List Int), L.foldl (zn n t) o = some b → b ∈ L ∨ o = some b := by
 intro L
 induction L with
 | nil => intro o b h; exact .inr h
 | cons v L ih =>
  intro o b h
  rcases ih _ b h with h | h
  · exact .inl (by simp [h])
  ·
   unfold zn at h
   split at h
   · obtain rfl := Option.some.inj h; exact .inl (by simp)
   · exact .inr h
theorem kq {n : Nat} {t v : List Int} (h : lp n t = some v) : v ∈ wts 3 n := by
 rcases kf n t _ _ v h with h | h
 · exact h
 · cases h
theorem jh (n : Nat) (t : List Int) : ∀ (L : List (List Int)) (o : Option (List Int)), (o.isSome = true ∨ ∃ v ∈ L, (gpv n t v).1 > (gpv n t v).2) → (L.foldl (zn n t) o).isSome = true := by
 intro L
 induction L with
 | nil => intro o h; rcases h with h | ⟨v, hv, _⟩; exact h; cases hv
 | cons v L ih =>
  intro o h
  refine ih _ ?_
  have hs : o.isSome = true → (zn n t o v).isSome = true := fun h => by
   unfold zn; split
   · rfl
   · exact h
  rcases h with h | ⟨u, hu, hg⟩
  · exact .inl (hs h)
  ·
   rcases List.mem_cons.1 hu with rfl | hu
   ·
    cases o with
    | none => left; unfold zn; rw [if_pos (by rw [decide_eq_true hg]; rfl)]; rfl
    | some b => exact .inl (hs rfl)
   · exact .inr ⟨u, hu, hg⟩
theorem kr (t p : List Int) (b : Int) (hb : -1000000000 < b ∧ b < 1000000000) : ∀ i, (∀ j, j < i → (t.getD j 0 = 1 ↔ p.getD j 0 ≥ b)) → b ≤ (gp t p i).1 ∧ (gp t p i).2 < b := by
 intro i
 induction i with
 | zero => intro _; simp only [gp]; omega
 | succ i ih =>
  intro h
  have h1 := ih fun j hj => h j (by omega)
  have h2 := h i (by omega)
  simp only [gp]
  by_cases e : t.getD i 0 = 1
  ·
   rw [if_pos e]
   have := h2.1 e
   unfold mn; simp only; split <;> omega
  ·
   rw [if_neg e]
   have : ¬ p.getD i 0 ≥ b := fun h => e (h2.2 h)
   unfold mx; simp only; split <;> omega
def Sep (m : Nat) (t v : List Int) (b : Int) : Prop := v.length = m ∧ (∀ x ∈ v, -3 ≤ x ∧ x ≤ 3) ∧ ∀ k, k < 2 ^ m → (t.getD k 0 = 1 ↔ dot v (bitPt m k) ≥ b)
theorem dot3 {m : Nat} {v : List Int} (hl : v.length = m) (hb : ∀ x ∈ v, -3 ≤ x ∧ x ≤ 3) (k : Nat) : -(3 * (m : Int)) ≤ dot v (bitPt m k) ∧ dot v (bitPt m k) ≤ 3 * m := by
 have := dot_bd 3 1 (by decide) (by decide) v (bitPt m k) hb (bitPt_in m k)
 rw [hl] at this; omega
theorem ji {m : Nat} {t v : List Int} {b : Int} (hm : m ≤ 4) (ht : t.length = 2 ^ m) (h : Sep m t v b) : (lp m t).isSome = true := by
 obtain ⟨hl, hb, hs⟩ := h
 have hB : ∃ c : Int, (-1000000000 < c ∧ c < 1000000000) ∧ ∀ k, k < 2 ^ m → (t.getD k 0 = 1 ↔ dot v (bitPt m k) ≥ c) := by
  by_cases c1 : b ≤ -1000
  · exact ⟨-1000, by omega, fun k hk => (hs k hk).trans (by have := dot3 hl hb k; omega)⟩
  by_cases c2 : b ≥ 1000
  rotate_left
  · exact ⟨b, by omega, hs⟩
  exact ⟨1000, by omega, fun k hk => (hs k hk).trans (by have := dot3 hl hb k; omega)⟩
 obtain ⟨c, hc, hs⟩ := hB
 refine jh m t _ _ (.inr ⟨v, kp 3 m v hl (fun x hx => by have := hb x hx; omega), ?_⟩)
 have := kr t (zk m v) c hc t.length fun j hj => by rw [zB m v j (by omega)]; exact hs j (by omega)
 unfold gpv; omega
def tcd : List Int → Nat
 | [] => 0
 | y :: t => (bif decide (y = 1) then 1 else 0) + 2 * tcd t
theorem qG (c : Bool) (n k : Nat) : ((bif c then 1 else 0) + 2 * n).testBit (k + 1) = n.testBit k := by
 rw [Nat.testBit_succ]; congr 1; cases c <;> simp <;> omega
theorem qv (c : Bool) (n : Nat) : ((bif c then 1 else 0) + 2 * n).testBit 0 = c := by
 rw [Nat.testBit_zero]; cases c <;> simp <;> omega
theorem zZ : ∀ (t : List Int) (k : Nat), (tcd t).testBit k = decide (t.getD k 0 = 1) := by
 intro t
 induction t with
 | nil => intro k; simp [tcd]
 | cons y t ih =>
  intro k
  cases k with
  | zero => rw [tcd, qv]; rfl
  | succ k => rw [tcd, qG, ih]; rfl
theorem ks : ∀ t : List Int, tcd t < 2 ^ t.length := by
 intro t
 induction t with
 | nil => simp [tcd]
 | cons y t ih => simp only [tcd, List.length_cons, Nat.pow_succ]; cases decide (y = 1) <;> simp <;> omega
theorem kt (b : Nat) : ∀ (q : List Nat) (k : Nat), k < q.length → (Th.cd b q).testBit k = decide (b ≤ q.getD k 0) := by
 intro q
 induction q with
 | nil => intro k h; simp at h
 | cons y q ih =>
  intro k h
  have hb : Nat.ble b y = decide (b ≤ y) := by rw [Bool.eq_iff_iff]; simp
  cases k with
  | zero => rw [Th.cd, qv, hb]; rfl
  | succ k => rw [Th.cd, qG, ih k (by simpa using h)]; rfl
theorem jB : ∀ (a b : List Int) (x y : Int), a.length = b.length → dot (a ++ [x]) (b ++ [y]) = dot a b + x * y := by
 intro a
 induction a with
 | nil => intro b x y h; obtain rfl := List.eq_nil_of_length_eq_zero h.symm; simp [dot]
 | cons z a ih =>
  intro b x y h
  cases b with
  | nil => simp at h
  | cons w b => simp only [List.cons_append, dot]; rw [ih b x y (by simpa using h)]; omega
theorem qP (n k : Nat) : bitPt (n + 1) k = bitPt n k ++ [((bit k n : Nat) : Int)] := by unfold bitPt; rw [List.range_succ, List.map_append]; rfl
theorem kg (n k i : Nat) (hi : i < n) : bit (k + 2 ^ n) i = bit k i := by
 unfold bit
 obtain ⟨d, rfl⟩ : ∃ d, n = i + 1 + d := ⟨n - (i + 1), by omega⟩
 rw [show 2 ^ (i + 1 + d) = 2 ^ i * (2 * 2 ^ d) by rw [Nat.pow_add, Nat.pow_succ, Nat.mul_assoc], Nat.add_mul_div_left _ _ (Nat.two_pow_pos i)]
 omega
theorem jj (n k : Nat) : bitPt n (k + 2 ^ n) = bitPt n k := by
 unfold bitPt
 exact List.map_congr_left fun i hi => by rw [kg n k i (List.mem_range.1 hi)]
theorem kN : ∀ (n : Nat) (ws : List Nat), ws.length = n → (ws.foldl Th.nx [0]).length = 2 ^ n ∧ ∀ k, k < 2 ^ n → (((ws.foldl Th.nx [0]).getD k 0 : Nat) : Int) = dot (ws.map fun w : Nat => (w : Int) - 3) (bitPt n k) + 3 * n := by
 intro n
 induction n with
 | zero =>
  intro ws h
  obtain rfl := List.eq_nil_of_length_eq_zero h
  refine ⟨rfl, fun k hk => ?_⟩
  obtain rfl : k = 0 := by simpa using hk
  simp [dot]
 | succ n ih =>
  intro ws h
  obtain ⟨ws', w, rfl⟩ : ∃ ws' w, ws = ws' ++ [w] := ⟨ws.dropLast, ws.getLast (by intro e; rw [e] at h; simp at h), (List.dropLast_concat_getLast _).symm⟩
  have hl : ws'.length = n := by simpa using h
  obtain ⟨h1, h2⟩ := ih ws' hl
  rw [List.foldl_append, List.foldl_cons, List.foldl_nil, Nat.pow_succ]
  generalize ws'.foldl Th.nx [0] = q at h1 h2
  unfold Th.nx
  have hlm : (ws'.map fun w : Nat => (w : Int) - 3).length = (bitPt n 0).length := by rw [List.length_map, bitPt_len, hl]
  refine ⟨by simp [h1]; omega, fun k hk => ?_⟩
  rw [List.map_append, List.map_cons, List.map_nil, qP, jB _ _ _ _ (by rw [bitPt_len]; rw [bitPt_len] at hlm; exact hlm)]
  by_cases c : k < 2 ^ n
  ·
   have e := h2 k c
   have hb : bit k n = 0 := testBit_out c (Nat.le_refl n)
   rw [hb, List.getD_eq_getElem?_getD, List.getElem?_append_left (by simp [h1, c]), List.getElem?_map, List.getElem?_eq_getElem (by omega)]
   rw [List.getD_eq_getElem?_getD, List.getElem?_eq_getElem (by omega)] at e
   simp only [Option.map_some, Option.getD_some] at e ⊢
   omega
  ·
   obtain ⟨j, rfl⟩ : ∃ j, k = j + 2 ^ n := ⟨k - 2 ^ n, by omega⟩
   have hj : j < 2 ^ n := by omega
   have e := h2 j hj
   have hb : bit (j + 2 ^ n) n = 1 := by
    unfold bit; rw [Nat.add_div_right _ (Nat.two_pow_pos n), Nat.div_eq_of_lt hj]
   rw [jj, hb, List.getD_eq_getElem?_getD, List.getElem?_append_right (by simp [h1]), List.length_map, h1, Nat.add_sub_cancel, List.getElem?_map, List.getElem?_eq_getElem (by omega)]
   rw [List.getD_eq_getElem?_getD, List.getElem?_eq_getElem (by omega)] at e
   simp only [Option.map_some, Option.getD_some] at e ⊢
   omega
def Trd (m : Nat) (t : List Int) (p0 p1 p2 p3 : Nat) : Prop := p0 < p1 ∧ p1 < p2 ∧ p2 < p3 ∧ p3 < 2 ^ m ∧ (p0 &&& p3 = p1 &&& p2 ∧ p0 ||| p3 = p1 ||| p2) ∧ t.getD p0 0 = t.getD p3 0 ∧ t.getD p1 0 = t.getD p2 0 ∧ t.getD p1 0 = 1 - t.getD p0 0
theorem ku {m : Nat} {t : List Int} (hT : Tab m t) : (lp m t).isSome = true ∨ ∃ p0 p1 p2 p3, Trd m t p0 p1 p2 p3 := by
 obtain ⟨hm, ht, _⟩ := id hT
 rcases Th.all_told m hm (tcd t) (by rw [← ht]; exact ks t) with h | h
 ·
  obtain ⟨p0, p1, p2, p3, h1, h2, h3, h4, h5, h6, h7, h8⟩ := h
  rw [zZ, zZ] at h6 h7 h8
  have a0 := hT.at_ p0; have a1 := hT.at_ p1; have a2 := hT.at_ p2; have a3 := hT.at_ p3
  unfold Th.tb at h5
  rw [Bool.and_eq_true] at h5
  have e6 := decide_eq_decide.1 h6; have e7 := decide_eq_decide.1 h7
  have e8 : ¬ (t.getD p0 0 = 1 ↔ t.getD p1 0 = 1) := fun e => h8 (decide_eq_decide.2 e)
  refine .inr ⟨p0, p1, p2, p3, h1, h2, h3, h4, ⟨Nat.eq_of_beq_eq_true h5.1, Nat.eq_of_beq_eq_true h5.2⟩, ?_, ?_, ?_⟩ <;> omega
 ·
  obtain ⟨ws, h1, h2, b, hb⟩ := h
  obtain ⟨q1, q2⟩ := kN m ws h1
  refine .inl (ji (v := ws.map fun w : Nat => (w : Int) - 3) (b := (b : Int) - 3 * m) hm ht ⟨by simp [h1], fun x hx => ?_, fun k hk => ?_⟩)
  ·
   obtain ⟨w, hw, rfl⟩ := List.mem_map.1 hx
   have := h2 w hw; omega
  ·
   have hk2 := zZ t k
   rw [hb, kt b _ k (by rw [q1]; exact hk), decide_eq_decide] at hk2
   rw [← hk2]
   have := q2 k hk; omega
theorem jC : ∀ (v a b c d : List Int), a.length = v.length → b.length = v.length → c.length = v.length → d.length = v.length → (∀ i, i < v.length → a.getD i 0 + b.getD i 0 = c.getD i 0 + d.getD i 0) → dot v a + dot v b = dot v c + dot v d := by
 intro v
 induction v with
 | nil => intro a b c d _ _ _ _ _; simp [dot]
 | cons x v ih =>
  intro a b c d ha hb hc hd h
  cases a with
  | nil => simp at ha
  | cons a0 a =>
  cases b with
  | nil => simp at hb
  | cons b0 b =>
  cases c with
  | nil => simp at hc
  | cons c0 c =>
  cases d with
  | nil => simp at hd
  | cons d0 d =>
   have h0 := h 0 (by simp)
   have hr := ih a b c d (by simpa using ha) (by simpa using hb) (by simpa using hc) (by simpa using hd) (fun i hi => by have := h (i + 1) (by simp; omega); simpa using this)
   simp only [List.getD_cons_zero] at h0
   simp only [dot]
   have : x * a0 + x * b0 = x * c0 + x * d0 := by rw [← Int.mul_add, ← Int.mul_add, h0]
   omega
theorem zC (m k i : Nat) (hi : i < m) : (bitPt m k).getD i 0 = ((bit k i : Nat) : Int) := by
 unfold bitPt; simp [List.getD_eq_getElem?_getD, List.getElem?_map, List.getElem?_range hi]
theorem qQ {m a b c d : Nat} (ha : a < 2 ^ m) (hb : b < 2 ^ m) (hc : c < 2 ^ m) (hd : d < 2 ^ m) (h : a &&& b = c &&& d ∧ a ||| b = c ||| d) {v : List Int} (hv : v.length = m) : dot v (bitPt m a) + dot v (bitPt m b) = dot v (bitPt m c) + dot v (bitPt m d) := by
 refine jC v _ _ _ _ (by rw [bitPt_len, hv]) (by rw [bitPt_len, hv]) (by rw [bitPt_len, hv]) (by rw [bitPt_len, hv]) (fun i hi => ?_)
 rw [hv] at hi
 have := (same_sum ha hb hc hd).2 h i hi
 rw [zC m a i hi, zC m b i hi, zC m c i hi, zC m d i hi]; omega
theorem qw {m : Nat} {t : List Int} (hT : Tab m t) {a b c d : Nat} (ha : a < 2 ^ m) (hb : b < 2 ^ m) (hc : c < 2 ^ m) (hd : d < 2 ^ m) (h : tcond t a b c d = true) : lp m t = none := by
 cases hv : lp m t with
 | none => rfl
 | some v =>
  exfalso
  unfold tcond at h
  simp only [Bool.and_eq_true, decide_eq_true_eq] at h
  obtain ⟨h1, h2, h3⟩ := h
  have a0 := hT.at_ a; have a1 := hT.at_ b; have a2 := hT.at_ c; have a3 := hT.at_ d
  have e := qQ ha hb hc hd h3 (v := v) (wts_len 3 m v (kq hv))
  have l1 := jg hv hT.2.1 a c ha hc (by omega) (by omega)
  have l2 := jg hv hT.2.1 b d hb hd (by omega) (by omega)
  omega
theorem qa {l : List Int} (hl : zc l) (p s : Int) (hp : 0 ≤ p ∧ p ≤ 400000) : ∃ r : Int × List Int × Int × Int, Ev (fun k => spec_l1Cur_table5.f k l p s) r ∧ (0 ≤ r.1 ∧ r.1 ≤ 4) ∧ r.2.1.length ≤ 40 ∧ p ≤ r.2.2.1 ∧ r.2.2.1 ≤ p + 300 := by
 obtain ⟨x, p1, s1, e1, hx, g1, g2⟩ := zy hl p s [2, 3, 3, 1, 3, 0, 2, 4] (by simp) (by omega)
 obtain ⟨r, hr, h1, h2, h3⟩ := qs hl p1 s1 x (by omega)
 unfold spec_l1Cur_table5.f
 exact ⟨_, evb (evc e1) (evb hr (evs rfl)), by simp at hx; omega, h1, by simp only; omega, by simp only; omega⟩
def zi (n : Nat) : List Int := (List.range n).map fun i : Nat => (i : Int)
theorem zD (n : Nat) (x : Int) : x ∈ zi n ↔ 0 ≤ x ∧ x < n := by
 unfold zi
 rw [List.mem_map]
 constructor
 ·
  rintro ⟨i, hi, rfl⟩
  have := List.mem_range.1 hi; omega
 ·
  rintro ⟨h0, h1⟩
  exact ⟨x.toNat, List.mem_range.2 (by omega), by omega⟩
theorem zK : ∀ (n : Nat) (l : List Int), l.length = n → (∀ i : Nat, i < n → (i : Int) ∈ l) → l.Perm (zi n) := by
 intro n
 induction n with
 | zero => intro l hl _; rw [List.eq_nil_of_length_eq_zero hl]; exact List.Perm.refl _
 | succ n ih =>
  intro l hl h
  have hn := h n (by omega)
  have hp := List.perm_cons_erase hn
  have he : (l.erase (n : Int)).length = n := by rw [List.length_erase_of_mem hn]; omega
  have h2 := ih _ he (fun i hi => (List.mem_erase_of_ne (by omega)).2 (h i (by omega)))
  have h3 : zi (n + 1) = zi n ++ [(n : Int)] := by unfold zi; rw [List.range_succ, List.map_append]; rfl
  rw [h3]
  exact hp.trans ((List.Perm.cons _ h2).trans (List.perm_append_singleton _ _).symm)
theorem kh : ∀ (l : List Int) (b : Int) (i : Nat), riseB l = true → (∀ x ∈ l, b ≤ x) → i < l.length → b + i ≤ l.getD i 0 := by
 intro l
 induction l with
 | nil => intro b i _ _ h; simp at h
 | cons x l ih =>
  intro b i hr hb hi
  cases i with
  | zero => have := hb x List.mem_cons_self; simpa using this
  | succ i =>
   have hx := hb x List.mem_cons_self
   have h1 := ih (b + 1) i (riseB_tail hr) (fun y hy => by have := riseB_lt l x hr y hy; omega) (by simpa using hi)
   rw [List.getD_cons_succ]; omega
theorem ki : ∀ (l : List Int) (t : Int) (i : Nat), riseB l = true → (∀ x ∈ l, x ≤ t) → i < l.length → l.getD i 0 + (l.length - 1 - i : Nat) ≤ t := by
 intro l
 induction l with
 | nil => intro b i _ _ h; simp at h
 | cons x l ih =>
  intro t i hr ht hi
  cases i with
  | zero =>
   rw [List.getD_cons_zero, List.length_cons]
   cases l with
   | nil => have := ht x List.mem_cons_self; simp; exact this
   | cons y l =>
    have h1 := ih t 0 (riseB_tail hr) (fun z hz => ht z (List.mem_cons_of_mem _ hz)) (by simp)
    have h2 := riseB_lt (y :: l) x hr y List.mem_cons_self
    rw [List.getD_cons_zero] at h1
    simp only [List.length_cons] at h1 ⊢
    omega
  | succ i =>
   have h1 := ih t i (riseB_tail hr) (fun z hz => ht z (List.mem_cons_of_mem _ hz)) (by simpa using hi)
   rw [List.getD_cons_succ]
   simp only [List.length_cons] at hi ⊢
   omega
theorem qR (n : Nat) (l : List Int) (hl : l.length = n) (h : setB n l = true) : l = zi n := by
 unfold setB at h
 obtain ⟨h1, h2⟩ := Bool.and_eq_true _ _ ▸ h
 unfold inB at h1
 have hb : ∀ x ∈ l, 0 ≤ x ∧ x ≤ (n : Int) - 1 := fun x hx => of_decide_eq_true (List.all_eq_true.1 h1 x hx)
 apply List.ext_getElem
 · simp [zi, hl]
 ·
  intro i i1 i2
  have a := kh l 0 i h2 (fun x hx => (hb x hx).1) i1
  have b := ki l (n - 1) i h2 (fun x hx => (hb x hx).2) i1
  rw [List.getD_eq_getElem?_getD, List.getElem?_eq_getElem i1] at a b
  simp only [Option.getD_some] at a b
  simp only [zi, List.getElem_map, List.getElem_range]
  omega
theorem qC : ∀ (n : Nat) (l : List Int), l.Pairwise (· < ·) → riseB l = true := by
 intro n l
 induction l with
 | nil => intro _; rfl
 | cons x l ih =>
  intro h
  obtain ⟨h1, h2⟩ := List.pairwise_cons.1 h
  cases l with
  | nil => rfl
  | cons y l => simp only [riseB, Bool.and_eq_true]; exact ⟨decide_eq_true (h1 y List.mem_cons_self), ih h2⟩
theorem zv (l : List Int) : (sortI l).Perm l := List.mergeSort_perm _ _
theorem qx (l : List Int) : (sortI l).Pairwise (· ≤ ·) := by
 have := List.pairwise_mergeSort (le := fun x y : Int => decide (x ≤ y)) (fun a b c h1 h2 => by simp only [decide_eq_true_eq] at *; omega) (fun a b => by simp only [Bool.or_eq_true, decide_eq_true_eq]; omega) l
 exact this.imp (fun h => of_decide_eq_true h)
theorem jk (n : Nat) (l : List Int) (hl : l.length = n) : setB n (sortI l) = true ↔ ∀ i : Nat, i < n → (i : Int) ∈ l := by
 constructor
 ·
  intro h i hi
  have e := qR n (sortI l) (by rw [sortI_len]; exact hl) h
  have hm : (i : Int) ∈ sortI l := by rw [e]; exact (zD n _).2 (by omega)
  exact (zv l).mem_iff.1 hm
 ·
  intro h
  have hp := (zv l).trans (zK n l hl h)
  unfold setB
  rw [Bool.and_eq_true]
  constructor
  ·
   unfold inB
   rw [List.all_eq_true]
   intro x hx
   have := (zD n x).1 (hp.mem_iff.1 hx)
   exact decide_eq_true (by omega)
  ·
   refine qC 0 _ ?_
   have hnd : (zi n).Nodup := by
    unfold zi
    rw [List.nodup_iff_pairwise_ne, List.pairwise_map]
    exact List.Pairwise.imp (fun h e => h (Int.ofNat.inj e)) (List.nodup_iff_pairwise_ne.1 List.nodup_range)
   have hnd2 : (sortI l).Nodup := hp.nodup_iff.2 hnd
   have h1 := qx l
   have h2 := List.nodup_iff_pairwise_ne.1 hnd2
   exact (h1.and h2).imp (fun {a b} h => by have := h.1; have := h.2; omega)
def zf (n : Nat) (l : List Int) : Bool := decide (l.length = n) && (List.range n).all fun i : Nat => l.contains (i : Int)
theorem zr (n : Nat) (l : List Int) : zf n l = true ↔ l.length = n ∧ ∀ i : Nat, i < n → (i : Int) ∈ l := by
 unfold zf
 rw [Bool.and_eq_true, decide_eq_true_eq, List.all_eq_true]
 constructor
 ·
  rintro ⟨h1, h2⟩
  exact ⟨h1, fun i hi => List.contains_iff_mem.1 (h2 i (List.mem_range.2 hi))⟩
 ·
  rintro ⟨h1, h2⟩
  exact ⟨h1, fun i hi => List.contains_iff_mem.2 (h2 i (List.mem_range.1 hi))⟩
theorem jD (l : List Int) (x : Int) (hl : l.length ≤ 1048576) : ∀ (d i : Nat), i + d = l.length → Ev (fun k => spec_l1Has.l0 k l x (i : Int)) ((l.drop i).contains x) := by
 intro d
 induction d with
 | zero =>
  intro i hi
  refine Ev.step (fun k => spec_l1Has.l0.eq_2 ..) (evn (by omega) (evs ?_))
  rw [List.drop_of_length_le (by omega)]; rfl
 | succ d ih =>
  intro i hi
  refine Ev.step (fun k => spec_l1Has.l0.eq_2 ..) (evp (by omega) (evp (by omega) ?_))
  rw [rd_nat, List.drop_eq_getElem_cons (show i < l.length by omega), List.contains_cons, List.getD_eq_getElem?_getD, List.getElem?_eq_getElem (show i < l.length by omega), Option.getD_some]
  by_cases e : l[i]'(by omega) = x
  ·
   refine evp e (evs ?_)
   rw [e]; simp
  ·
   refine evn e ?_
   rw [w64s i (by omega)]
   refine evr (ih (i + 1) (by omega)) ?_
   rw [beq_eq_false_iff_ne.2 (fun h => e h.symm), Bool.false_or]
theorem kO (l : List Int) (x : Int) (hl : l.length ≤ 1048576) : Ev (fun k => spec_l1Has.f k l x) (l.contains x) := by
 unfold spec_l1Has.f
 exact jD l x hl l.length 0 (by omega)
def zQ (v : Nat) : Nat → List (List Int)
 | 0 => [[]]
 | m + 1 => (List.range v).flatMap fun x : Nat => (zQ v m).map fun l => (x : Int) :: l
theorem zR (v : Nat) : ∀ (l : List Int) (m : Nat), l.length = m → (∀ x ∈ l, 0 ≤ x ∧ x < v) → l ∈ zQ v m
 | [], m, h, _ => by subst h; simp [zQ]
 | x :: l, m, h, hx => by
  subst h
  have h0 := hx x List.mem_cons_self
  show x :: l ∈ zQ v (l.length + 1)
  unfold zQ
  refine List.mem_flatMap.2 ⟨x.toNat, List.mem_range.2 (by omega), List.mem_map.2 ⟨l, zR v l l.length rfl (fun y hy => hx y (List.mem_cons_of_mem _ hy)), ?_⟩⟩
  simp only [Int.toNat_of_nonneg h0.1]
def za (l : List Int) (k : Int) : Nat → Int
 | 0 => 0
 | j + 1 => wrap64 (za l k j + (shl .i64 (Go.bits .and .i64 (shr .i64 k (j : Int)) 1) (rd l (j : Int))))
theorem jE : ∀ n : Fin 5, ∀ l ∈ zQ n.val n.val, zf n.val l = true → ∀ k : Fin 16, k.val < 2 ^ n.val → permPlace l (k.val : Int) n.val = za l (k.val : Int) n.val ∧ 0 ≤ za l (k.val : Int) n.val ∧ za l (k.val : Int) n.val < ((2 ^ n.val : Nat) : Int) := by decide +kernel
theorem zx {n : Nat} {l : List Int} (h : zf n l = true) : l.length = n ∧ ∀ x ∈ l, 0 ≤ x ∧ x < n := by
 obtain ⟨p1, p2⟩ := (zr _ _).1 h
 have hpm := zK _ l p1 p2
 exact ⟨p1, fun x hx => (zD _ x).1 (hpm.mem_iff.1 hx)⟩
theorem qb {n : Nat} {l : List Int} (hn : n ≤ 4) (h : zf n l = true) (k : Nat) (hk : k < 2 ^ n) : permPlace l (k : Int) n = za l (k : Int) n ∧ 0 ≤ za l (k : Int) n ∧ za l (k : Int) n < ((2 ^ n : Nat) : Int) := by
 have h16 : 2 ^ n ≤ 16 := Nat.pow_le_pow_right (by decide : 0 < 2) hn
 obtain ⟨p1, p2⟩ := zx h
 exact jE ⟨n, by omega⟩ l (zR n l n p1 p2) h ⟨k, by omega⟩ hk
def zJ (n : Nat) (l1 l2 : List Int) : List Int := (List.range l1.length).map fun k : Nat => rd l1 (za l2 (k : Int) n)
def zg (n : Int) (l1 l2 : List Int) : List Int × Bool := if isTab n l1 = true ∧ zf n.toNat l2 = true then (zJ n.toNat l1 l2, true) else ([], false)
theorem jl (n : Int) (l1 l2 : List Int) : (zg n l1 l2).1.length ≤ 16 := by
 unfold zg
 split
 ·
  rename_i h
  obtain ⟨m, rfl, ht⟩ := isTab_tab h.1
  have := ht.len
  unfold zJ
  rw [List.length_map, List.length_range]; exact this
 · simp
theorem jF (n : Nat) (hn : n ≤ 4) (l1 l2 : List Int) (h2 : zf n l2 = true) (hl : l1.length = 2 ^ n) (out : List Int) (c : Nat) (hc : c < 2 ^ n) (ho : out.length ≤ 16) (R : List Int × Bool)
  (hK : Ev (fun k => spec_PermuteBits.l1 k (n : Int) l1 l2 (out ++ [rd l1 (za l2 (c : Int) n)]) ((c + 1 : Nat) : Int)) R) : ∀ d i, i + d = n → Ev (fun k => spec_PermuteBits.l2 k (n : Int) l1 l2 out (c : Int) (za l2 (c : Int) i) (i : Int)) R := by
 obtain ⟨p1, p2⟩ := zx h2
 have hp := qb hn h2 c hc
 have h16 : 2 ^ n ≤ 16 := Nat.pow_le_pow_right (by decide : 0 < 2) hn
 intro d
 induction d with
 | zero =>
  intro i hi
  obtain rfl : i = n := by omega
  refine Ev.step (fun k => spec_PermuteBits.l2.eq_2 ..) (evn (by omega) (evp hp.2.1 (evp (by omega) (evp (by omega) ?_))))
  rw [w64s c (by omega)]
  exact hK
 | succ d ih =>
  intro i hi
  have hx := p2 (rd l2 (i : Int)) (by rw [rd_nat, List.getD_eq_getElem?_getD, List.getElem?_eq_getElem (show i < l2.length by omega)]; exact List.getElem_mem _)
  refine Ev.step (fun k => spec_PermuteBits.l2.eq_2 ..) (evp (by omega) (evp (by omega) (evp (by omega) (evp hx.1 ?_))))
  rw [w64s i (by omega)]
  exact ih (i + 1) (by omega)
theorem jG (n : Nat) (hn : n ≤ 4) (l1 l2 : List Int) (h2 : zf n l2 = true) (hl : l1.length = 2 ^ n) : ∀ d c, c + d = l1.length → Ev (fun k => spec_PermuteBits.l1 k (n : Int) l1 l2 ((List.range c).map fun k : Nat => rd l1 (za l2 (k : Int) n)) (c : Int)) (zJ n l1 l2, true) := by
 have h16 : 2 ^ n ≤ 16 := Nat.pow_le_pow_right (by decide : 0 < 2) hn
 intro d
 induction d with
 | zero =>
  intro c hc
  obtain rfl : c = l1.length := by omega
  exact Ev.step (fun k => spec_PermuteBits.l1.eq_2 ..) (evn (by omega) (evs rfl))
 | succ d ih =>
  intro c hc
  have hn2 := ih (c + 1) (by omega)
  rw [List.range_succ, List.map_append] at hn2
  refine Ev.step (fun k => spec_PermuteBits.l1.eq_2 ..) (evp (by omega) ?_)
  exact jF n hn l1 l2 h2 hl _ c (by omega) (by simp; omega) _ hn2 n 0 (by omega)
theorem jH (n : Nat) (hn : n ≤ 4) (l1 l2 : List Int) (hl : l1.length = 2 ^ n) (h2 : l2.length = n) : ∀ d i, i + d = n → (∀ j : Nat, j < i → (j : Int) ∈ l2) → Ev (fun k => spec_PermuteBits.l0 k (n : Int) l1 l2 [] (i : Int)) (if zf n l2 = true then (zJ n l1 l2, true) else ([], false)) := by
 intro d
 induction d with
 | zero =>
  intro i hi hj
  obtain rfl : i = n := by omega
  have hp : zf i l2 = true := (zr _ _).2 ⟨h2, hj⟩
  rw [if_pos hp]
  exact Ev.step (fun k => spec_PermuteBits.l0.eq_2 ..) (evn (by omega) (jG i hn l1 l2 hp hl l1.length 0 (by omega)))
 | succ d ih =>
  intro i hi hj
  refine Ev.step (fun k => spec_PermuteBits.l0.eq_2 ..) (evp (by omega) (evb (kO l2 _ (by omega)) ?_))
  by_cases c : (i : Int) ∈ l2
  ·
   refine evp (List.contains_iff_mem.2 c) ?_
   rw [w64s i (by omega)]
   exact ih (i + 1) (by omega) (fun j hj2 => by
    by_cases e : j = i
    · subst e; exact c
    · exact hj j (by omega))
  ·
   rw [if_neg (fun hp => c (((zr _ _).1 hp).2 i (by omega)))]
   exact evn (fun h => c (List.contains_iff_mem.1 h)) (evs rfl)
theorem jI (n : Int) (l1 l2 : List Int) (hx : l1.length ≤ 1048576) (hy : l2.length ≤ 1048576) : Ev (fun k => spec_PermuteBits.f k n l1 l2) (zg n l1 l2) := by
 unfold spec_PermuteBits.f zg
 refine evb (evs rfl) (evb (zw n l1 (by omega)) ?_)
 by_cases e : isTab n l1 = true
 ·
  obtain ⟨m, rfl, ht⟩ := isTab_tab e
  rw [Int.toNat_natCast]
  refine evp e ?_
  by_cases c : (l2.length : Int) = (m : Int)
  ·
   have h := jH m ht.1 l1 l2 ht.2.1 (by omega) m 0 (by omega) (fun j hj => by omega)
   rw [show ((l2.length : Int) != (m : Int)) = false by rw [c]; simp]
   refine Ev.step (fun k => spec_PermuteBits.j0.eq_2 ..) (evn (by decide) (evr h ?_))
   by_cases p : zf m l2 = true
   · rw [if_pos p, if_pos ⟨e, p⟩]
   · rw [if_neg p, if_neg (fun h => p h.2)]
  ·
   rw [show ((l2.length : Int) != (m : Int)) = true by simpa using c]
   refine Ev.step (fun k => spec_PermuteBits.j0.eq_2 ..) (evp rfl (evs ?_))
   rw [if_neg (fun h => c (by have := (zx h.2).1; omega))]
 ·
  refine evn e (Ev.step (fun k => spec_PermuteBits.j0.eq_2 ..) (evp rfl (evs ?_)))
  rw [if_neg (fun h => e h.1)]
theorem jJ (n : Int) (l1 l2 : List Int) (hx : l1.length ≤ 1048576) (hy : l2.length ≤ 1048576) : Ev (fun k => impl_PermuteBits.f k n l1 l2) (zg n l1 l2) := by
 unfold impl_PermuteBits.f zg
 refine evp hy (evb (zq n l1 (by omega)) ?_)
 by_cases e : isTab n l1 = true
 ·
  obtain ⟨m, rfl, ht⟩ := isTab_tab e
  have hm4 := ht.1
  rw [Int.toNat_natCast]
  refine evp e ?_
  by_cases c : (l2.length : Int) = (m : Int)
  ·
   have hlm : l2.length = m := by omega
   have ho := jk m l2 hlm
   refine evp c (evb (qW (sortI l2) (by rw [sortI_len]; omega)) ?_)
   have hin : inB 0 ((m : Int) - 1) (sortI l2) = l2.all fun x => decide (0 ≤ x ∧ x ≤ (m : Int) - 1) := by
    unfold inB
    rw [Bool.eq_iff_iff, List.all_eq_true, List.all_eq_true]
    exact ⟨fun h x hx => h x ((zv l2).mem_iff.2 hx), fun h x hx => h x ((zv l2).mem_iff.1 hx)⟩
   have hset : zf m l2 = (riseB (sortI l2) && l2.all fun x => decide (0 ≤ x ∧ x ≤ (m : Int) - 1)) := by
    rw [Bool.eq_iff_iff, zr, ← hin, Bool.and_comm]
    unfold setB at ho
    constructor
    · exact fun h => ho.2 h.2
    · exact fun h => ⟨hlm, ho.1 h⟩
   by_cases c2 : riseB (sortI l2) = true
   rotate_left
   ·
    refine evn c2 (evs ?_)
    rw [if_neg (fun h => c2 (by have := h.2; rw [hset, Bool.and_eq_true] at this; exact this.1))]
   refine evp c2 ?_
   rw [w64 (x := (m : Int) - 1) (by omega) (by omega)]
   refine evb (zF l2 0 ((m : Int) - 1) (by omega)) ?_
   by_cases c3 : (l2.all fun x => decide (0 ≤ x ∧ x ≤ (m : Int) - 1)) = true
   rotate_left
   ·
    refine evn c3 (evs ?_)
    rw [if_neg (fun h => c3 (by have := h.2; rw [hset, Bool.and_eq_true] at this; exact this.2))]
   have hp : zf m l2 = true := by rw [hset, c2, c3]; rfl
   refine evp c3 (evc ?_)
   have h2 := zx hp
   have hpa := fun k hk => qb hm4 hp k hk
   have hl1 := ht.2.1
   unfold permsOf
   rw [if_pos ⟨fun x hx => (h2.2 x hx).1, by omega, fun k hk => by rw [h2.1, (hpa k (by omega)).1, hl1]; exact (hpa k (by omega)).2⟩, if_pos ⟨e, hp⟩]
   congr 2
   unfold zJ
   exact List.map_congr_left fun k hk => by rw [h2.1, (hpa k (by have := List.mem_range.1 hk; omega)).1]
  ·
   refine evn c (evs ?_)
   rw [if_neg (fun h => c (by have := (zx h.2).1; omega))]
 ·
  refine evn e (evs ?_)
  rw [if_neg (fun h => e h.1)]
def qk (l1 : List Int) (k : Int) : Int := wrap64 (1 - rd l1 (wrap64 (wrap64 ((l1.length : Int) - 1) - k)))
def zb (n : Int) (l1 : List Int) : List Int × Bool := if isTab n l1 = true then ((List.range l1.length).map fun k : Nat => qk l1 (k : Int), true) else ([], false)
theorem qS (n : Int) (l1 : List Int) : (zb n l1).1.length ≤ 16 := by
 unfold zb
 split
 ·
  rename_i h
  obtain ⟨m, rfl, ht⟩ := isTab_tab h
  rw [List.length_map, List.length_range]; exact ht.len
 · simp
theorem qc (l1 : List Int) (hl : l1.length ≤ 1048576) (k : Nat) (hk : k < l1.length) : wrap64 (wrap64 ((l1.length : Int) - 1) - (k : Int)) = ((l1.length - 1 - k : Nat) : Int) := by
 rw [w64 (x := (l1.length : Int) - 1) (by omega) (by omega), w64 (by omega) (by omega)]; omega
theorem jm (l1 : List Int) (hl : l1.length ≤ 1048576) : ∀ d c, c + d = l1.length → Ev (fun k => spec_DualTable.l0 k l1 ((List.range c).map fun k : Nat => qk l1 (k : Int)) (c : Int)) ((List.range l1.length).map fun k : Nat => qk l1 (k : Int), true) := by
 intro d
 induction d with
 | zero =>
  intro c hc
  obtain rfl : c = l1.length := by omega
  exact Ev.step (fun k => spec_DualTable.l0.eq_2 ..) (evn (by omega) (evs rfl))
 | succ d ih =>
  intro c hc
  have hn := ih (c + 1) (by omega)
  rw [List.range_succ, List.map_append] at hn
  have hx := qc l1 hl c (by omega)
  refine Ev.step (fun k => spec_DualTable.l0.eq_2 ..) (evp (by omega) (evp (by omega) (evp (by omega) (evp (by simp; omega) ?_))))
  rw [w64s c (by omega)]
  exact hn
theorem kv (n : Int) (l1 : List Int) (hx : l1.length ≤ 1048576) : Ev (fun k => spec_DualTable.f k n l1) (zb n l1) := by
 unfold spec_DualTable.f zb
 refine evb (evs rfl) (evb (zw n l1 (by omega)) ?_)
 by_cases e : isTab n l1 = true
 · exact evp e (evr (jm l1 hx l1.length 0 (by omega)) (by rw [if_pos e]))
 · exact evn e (evs (by rw [if_neg e]))
theorem jn (n : Int) (l1 : List Int) (hx : l1.length ≤ 1048576) : Ev (fun k => impl_DualTable.f k n l1) (zb n l1) := by
 unfold impl_DualTable.f zb
 refine evb (zq n l1 (by omega)) ?_
 by_cases e : isTab n l1 = true
 ·
  refine evp e (evc ?_)
  unfold dualsOf
  rw [if_pos ⟨hx, fun k hk => by rw [qc l1 hx k hk]; omega⟩, if_pos e]; rfl
 · exact evn e (evs (by rw [if_neg e]))
theorem qd : ∀ n : Fin 5, ∀ b : Fin 4, b.val < n.val → ∀ v : Fin 2, (∀ k : Fin 8, k.val < 2 ^ (n.val - 1) → 0 ≤ resAt (k.val : Int) (b.val : Int) (v.val : Int) ∧ resAt (k.val : Int) (b.val : Int) (v.val : Int) < ((2 ^ n.val : Nat) : Int) ∧ ∀ j : Fin 4, j.val < n.val → bit (resAt (k.val : Int) (b.val : Int) (v.val : Int)).toNat j.val = if j.val = b.val then v.val else bit k.val (if j.val < b.val then j.val else j.val - 1)) ∧
  (List.range (2 ^ n.val)).filter (fun k => decide (bit k b.val = v.val)) = (List.range (2 ^ (n.val - 1))).map fun k : Nat => (resAt (k : Int) (b.val : Int) (v.val : Int)).toNat := by decide +kernel
def zW (l1 : List Int) (b v : Int) : List Int := (List.range (l1.length / 2)).map fun k : Nat => rd l1 (resAt (k : Int) b v)
def ze (n : Int) (l1 : List Int) (b v : Int) : List Int × Bool := if isTab n l1 = true ∧ (0 ≤ b ∧ b ≤ n - 1) ∧ (0 ≤ v ∧ v ≤ 1) then (zW l1 b v, true) else ([], false)
theorem jo (n : Int) (l1 : List Int) (b v : Int) : (ze n l1 b v).1.length ≤ 16 := by
 unfold ze
 split
 ·
  rename_i h
  obtain ⟨m, rfl, ht⟩ := isTab_tab h.1
  have := ht.len
  unfold zW
  rw [List.length_map, List.length_range]; omega
 · simp
theorem zS {m : Nat} (h : 1 ≤ m) : 2 ^ m / 2 = 2 ^ (m - 1) := by
 obtain ⟨q, rfl⟩ : ∃ q, m = q + 1 := ⟨m - 1, by omega⟩
 rw [Nat.pow_succ, Nat.mul_div_cancel _ (by decide)]; rfl
theorem qT (n : Int) (l1 : List Int) (b v : Int) (hx : l1.length ≤ 1048576) : Ev (fun k => impl_RestrictBit.f k n l1 b v) (ze n l1 b v) := by
 unfold impl_RestrictBit.f ze
 refine evb (zq n l1 (by omega)) ?_
 by_cases e : isTab n l1 = true
 ·
  obtain ⟨m, rfl, ht⟩ := isTab_tab e
  have hm4 := ht.1
  refine evp e (evb (evc (zU b 0 _)) ?_)
  rw [w64 (x := (m : Int) - 1) (by omega) (by omega)]
  by_cases c : 0 ≤ b ∧ b ≤ (m : Int) - 1
  ·
   refine evp (decide_eq_true c) (evb (evc (zU v 0 1)) ?_)
   by_cases c2 : 0 ≤ v ∧ v ≤ 1
   rotate_left
   · exact evn (by simpa using c2) (evs (by rw [if_neg (fun h => c2 h.2.2)]))
   refine evp (decide_eq_true c2) (evc ?_)
   rw [if_pos (show isTab (m : Int) l1 = true ∧ (0 ≤ b ∧ b ≤ (m : Int) - 1) ∧ (0 ≤ v ∧ v ≤ 1) from ⟨e, c, c2⟩)]
   obtain ⟨bb, rfl⟩ := Int.eq_ofNat_of_zero_le c.1
   obtain ⟨vv, rfl⟩ := Int.eq_ofNat_of_zero_le c2.1
   have hf := (qd ⟨m, by omega⟩ ⟨bb, by omega⟩ (by simp only; omega) ⟨vv, by omega⟩).1
   have hl := ht.2.1
   have hh := zS (m := m) (by omega)
   have h8 : 2 ^ (m - 1) ≤ 8 := Nat.pow_le_pow_right (n := 2) (by decide) (show m - 1 ≤ 3 by omega)
   unfold restsOf
   rw [if_pos ⟨by omega, by omega, fun k hk => by
    have := hf ⟨k, by omega⟩ (by simp only; omega)
    simp only at this
    rw [hl]; exact ⟨this.1, this.2.1⟩⟩]; rfl
  · exact evn (by simpa using c) (evs (by rw [if_neg (fun h => c h.2.1)]))
 · exact evn e (evs (by rw [if_neg (fun h => e h.1)]))
theorem jK (l1 : List Int) (hl : l1.length ≤ 16) (b : Nat) (hb : b < 4) (v : Nat) : ∀ d c, c + d = l1.length → Ev (fun k => spec_RestrictBit.l0 k l1 (b : Int) (v : Int) (((List.range c).filter (fun k => decide (bit k b = v))).map fun k : Nat => l1.getD k 0) (c : Int)) (((List.range l1.length).filter (fun k => decide (bit k b = v))).map fun k : Nat => l1.getD k 0, true) := by
 intro d
 induction d with
 | zero =>
  intro c hc
  obtain rfl : c = l1.length := by omega
  exact Ev.step (fun k => spec_RestrictBit.l0.eq_2 ..) (evn (by omega) (evs rfl))
 | succ d ih =>
  intro c hc
  have hn := ih (c + 1) (by omega)
  rw [List.range_succ, List.filter_append, List.map_append] at hn
  refine Ev.step (fun k => spec_RestrictBit.l0.eq_2 ..) (evp (by omega) (evp (by omega) ?_))
  rw [digit c b (by omega) (by omega), w64s c (by omega)]
  by_cases e : bit c b = v
  ·
   have hlen : (((List.range c).filter (fun k => decide (bit k b = v))).map fun k : Nat => l1.getD k 0).length ≤ 16 := by
    rw [List.length_map]
    exact Nat.le_trans (List.length_filter_le _ _) (by rw [List.length_range]; omega)
   refine evp (by omega) (evp (by omega) (evp (by omega) ?_))
   rw [List.filter_cons, if_pos (decide_eq_true e)] at hn
   rw [rd_nat]
   exact hn
  ·
   refine evn (by omega) ?_
   rw [List.filter_cons, if_neg (by simpa using e)] at hn
   simp only [List.filter_nil, List.map_nil, List.append_nil] at hn
   exact hn
theorem kP (n : Int) (l1 : List Int) (b v : Int) (hx : l1.length ≤ 1048576) : Ev (fun k => spec_RestrictBit.f k n l1 b v) (ze n l1 b v) := by
 unfold spec_RestrictBit.f ze
 refine evb (evs rfl) (evb (zw n l1 (by omega)) ?_)
 by_cases e : isTab n l1 = true
 ·
  obtain ⟨m, rfl, ht⟩ := isTab_tab e
  have hm4 := ht.1
  refine evp e (evb (evc (zE b 0 _)) ?_)
  rw [w64 (x := (m : Int) - 1) (by omega) (by omega)]
  by_cases c : 0 ≤ b ∧ b ≤ (m : Int) - 1
  ·
   refine evp (decide_eq_true c) (evb (evc (zE v 0 1)) ?_)
   by_cases c2 : 0 ≤ v ∧ v ≤ 1
   rotate_left
   ·
    rw [decide_eq_false c2]
    exact Ev.step (fun k => spec_RestrictBit.j0.eq_2 ..) (evp rfl (evs (by rw [if_neg (fun h => c2 h.2.2)])))
   rw [if_pos (show isTab (m : Int) l1 = true ∧ (0 ≤ b ∧ b ≤ (m : Int) - 1) ∧ (0 ≤ v ∧ v ≤ 1) from ⟨e, c, c2⟩), decide_eq_true c2]
   obtain ⟨bb, rfl⟩ := Int.eq_ofNat_of_zero_le c.1
   obtain ⟨vv, rfl⟩ := Int.eq_ofNat_of_zero_le c2.1
   have hf := qd ⟨m, by omega⟩ ⟨bb, by omega⟩ (by simp only; omega) ⟨vv, by omega⟩
   simp only at hf
   have hl := ht.2.1
   have hh := zS (m := m) (by omega)
   have h8 : 2 ^ (m - 1) ≤ 8 := Nat.pow_le_pow_right (n := 2) (by decide) (show m - 1 ≤ 3 by omega)
   have := jK l1 ht.len bb (by omega) vv l1.length 0 (by omega)
   refine Ev.step (fun k => spec_RestrictBit.j0.eq_2 ..) (evn (by decide) (evr this ?_))
   rw [hl, hf.2, List.map_map]
   unfold zW
   rw [hl, hh]
   refine Prod.ext (List.map_congr_left fun k hk => ?_) rfl
   have hk' := List.mem_range.1 hk
   have hr := hf.1 ⟨k, by omega⟩ (by simp only; omega)
   simp only at hr
   obtain ⟨z, hz⟩ := Int.eq_ofNat_of_zero_le hr.1
   simp only [Function.comp]
   rw [hz, Int.toNat_natCast, rd_nat]
  · exact evn (by simpa using c) (Ev.step (fun k => spec_RestrictBit.j0.eq_2 ..) (evp rfl (evs (by rw [if_neg (fun h => c h.2.1)]))))
 · exact evn e (Ev.step (fun k => spec_RestrictBit.j0.eq_2 ..) (evp rfl (evs (by rw [if_neg (fun h => e h.1)]))))
def zo (n : Int) (l1 l2 : List Int) : List Int × Bool := if isTab n l1 = true ∧ isTab n l2 = true ∧ n ≠ 4 then (l1 ++ l2, true) else ([], false)
theorem jp (n : Int) (l1 l2 : List Int) : (zo n l1 l2).1.length ≤ 32 := by
 unfold zo
 split
 ·
  rename_i h
  obtain ⟨m, rfl, ht⟩ := isTab_tab h.1
  have := ht.len
  have h2 := (isTab_iff _ _).1 h.2.1
  have h3 := ht.2.1
  rw [Int.toNat_natCast] at h2
  rw [List.length_append]; omega
 · simp
theorem kQ (n : Int) (l1 l2 : List Int) (hx : l1.length ≤ 1048576) (hy : l2.length ≤ 1048576) : Ev (fun k => impl_JoinTables.f k n l1 l2) (zo n l1 l2) := by
 unfold impl_JoinTables.f zo
 refine evb (zq n l1 (by omega)) ?_
 by_cases e : isTab n l1 = true
 ·
  refine evp e (evb (zq n l2 (by omega)) ?_)
  by_cases e2 : isTab n l2 = true
  ·
   refine evp e2 ?_
   by_cases c : n = 4
   · exact evp c (evs (by rw [if_neg (fun h => h.2.2 c)]))
   ·
    rw [show (if isTab n l1 = true ∧ isTab n l2 = true ∧ n ≠ 4 then (l1 ++ l2, true) else ([], false)) = (l1 ++ l2, true) from if_pos ⟨e, e2, c⟩]
    exact evn c (evb (evc (qU l1 (by omega))) (evp (by omega) (evs rfl)))
  · exact evn e2 (evs (by rw [if_neg (fun h => e2 h.2.1)]))
 · exact evn e (evs (by rw [if_neg (fun h => e h.1)]))
theorem kR (n : Int) (l1 l2 : List Int) (hx : l1.length ≤ 1048576) (hy : l2.length ≤ 1048576) : Ev (fun k => spec_JoinTables.f k n l1 l2) (zo n l1 l2) := by
 unfold spec_JoinTables.f zo
 refine evb (zw n l1 (by omega)) ?_
 by_cases e : isTab n l1 = true
 ·
  refine evp e (evb (zw n l2 (by omega)) ?_)
  by_cases e2 : isTab n l2 = true
  ·
   refine evp e2 ?_
   by_cases c : n = 4
   · exact evp c (evs (by rw [if_neg (fun h => h.2.2 c)]))
   ·
    rw [show (if isTab n l1 = true ∧ isTab n l2 = true ∧ n ≠ 4 then (l1 ++ l2, true) else ([], false)) = (l1 ++ l2, true) from if_pos ⟨e, e2, c⟩]
    exact evn c (evb (evc (jV l1 (by omega))) (evp (by omega) (evs rfl)))
  · exact evn e2 (evs (by rw [if_neg (fun h => e2 h.2.1)]))
 · exact evn e (evs (by rw [if_neg (fun h => e h.1)]))
theorem jL {l : List Int} (hl : zc l) (n : Nat) (hn : n ≤ 4) (t : List Int) (ht : t.length ≤ 40) : ∀ (d i : Nat) (o : List Int) (p s : Int), i + d = n → o.length ≤ i → 0 ≤ p ∧ p + 2 * d ≤ 600000 → ∃ r, Ev (fun k => spec_DrawFlipBits.l0 k (n : Int) t o (i : Int) l p s) r ∧ r.2.1.length ≤ 40 ∧ r.2.2.length ≤ 5 := by
 intro d
 induction d with
 | zero =>
  intro i o p s hi ho hp
  obtain ⟨b, p1, s1, e1, g1, g2⟩ := zN hl p s 20 (by omega)
  by_cases c : b = true
  ·
   obtain ⟨x, p2, s2, e2, _, g3, g4⟩ := zy hl p1 s1 [(-1), 0, 4] (by simp) (by omega)
   exact ⟨_, Ev.step (fun k => spec_DrawFlipBits.l0.eq_2 ..) (evn (by omega) (evb (evc e1) (evp c (evb (evc e2) (evp (by omega) (evs rfl)))))), ht, by simp; omega⟩
  · exact ⟨_, Ev.step (fun k => spec_DrawFlipBits.l0.eq_2 ..) (evn (by omega) (evb (evc e1) (evn c (evs rfl)))), ht, by simp only; omega⟩
 | succ d ih =>
  intro i o p s hi ho hp
  obtain ⟨b, p1, s1, e1, g1, g2⟩ := zN hl p s 2 (by omega)
  by_cases c : b = true
  ·
   obtain ⟨r, hr, h⟩ := ih (i + 1) (o ++ [(i : Int)]) p1 s1 (by omega) (by simp; omega) (by omega)
   refine ⟨r, Ev.step (fun k => spec_DrawFlipBits.l0.eq_2 ..) (evp (by omega) (evb (evc e1) (evp c (evp (by omega) ?_)))), h⟩
   rw [w64s i (by omega)]; exact hr
  ·
   obtain ⟨r, hr, h⟩ := ih (i + 1) o p1 s1 (by omega) (by omega) (by omega)
   refine ⟨r, Ev.step (fun k => spec_DrawFlipBits.l0.eq_2 ..) (evp (by omega) (evb (evc e1) (evn c ?_))), h⟩
   rw [w64s i (by omega)]; exact hr
theorem kS {l : List Int} (hl : zc l) : ∃ r, Ev (fun k => spec_DrawFlipBits.f k l) r ∧ r.2.1.length ≤ 40 ∧ r.2.2.length ≤ 5 := by
 obtain ⟨⟨n, t, p, s⟩, hv, h0, h1, h2, h3⟩ := qa hl 0 0 (by omega)
 simp only at h0 h1 h2 h3
 obtain ⟨m, rfl⟩ := Int.eq_ofNat_of_zero_le h0.1
 obtain ⟨r, hr, h⟩ := jL hl m (by omega) t h1 m 0 [] p s (by omega) (by simp) (by omega)
 unfold spec_DrawFlipBits.f
 exact ⟨r, evb hv hr, h⟩
theorem jM {l : List Int} (hl : zc l) (n : Nat) (hn : n ≤ 4) (t : List Int) (ht : t.length ≤ 40) : ∀ (d i : Nat) (o : List Int) (p s : Int), i + d = n → o.length = i → 0 ≤ p ∧ p + 2 * d ≤ 600000 → ∃ r, Ev (fun k => spec_DrawPermuteBits.l0 k (n : Int) t o (i : Int) l p s) r ∧ r.2.1.length ≤ 40 ∧ r.2.2.length ≤ 5 := by
 intro d
 induction d with
 | zero =>
  intro i o p s hi ho hp
  obtain ⟨b, p1, s1, e1, g1, g2⟩ := zN hl p s 20 (by omega)
  by_cases c : b = true
  · exact ⟨_, Ev.step (fun k => spec_DrawPermuteBits.l0.eq_2 ..) (evn (by omega) (evb (evc e1) (evp c (evb (evs rfl) (evp (by simp; omega) (evs rfl)))))), ht, by simp; omega⟩
  · exact ⟨_, Ev.step (fun k => spec_DrawPermuteBits.l0.eq_2 ..) (evn (by omega) (evb (evc e1) (evn c (evs rfl)))), ht, by simp only; omega⟩
 | succ d ih =>
  intro i o p s hi ho hp
  obtain ⟨x, p1, s1, e1, h0, h1, g1, g2⟩ := zl hl p s (wrap64 ((o.length : Int) + 1)) (by omega)
  have hw := w64s o.length (by omega)
  rw [hw] at h1
  have hx : x ≤ (o.length : Int) := by omega
  obtain ⟨r, hr, h2⟩ := ih (i + 1) ((o.take x.toNat ++ [(i : Int)]) ++ o.drop x.toNat) p1 s1 (by omega) (by simp only [List.length_append, List.length_take, List.length_drop, List.length_singleton]; omega) (by omega)
  refine ⟨r, Ev.step (fun k => spec_DrawPermuteBits.l0.eq_2 ..) (evp (by omega) (evb (evc e1) (evp h0 (evp hx (evb (evc (jV _ (by simp only [List.length_take]; omega))) (evb (evs rfl) (evp (by simp only [List.length_take, List.length_singleton]; omega) (evb (evs rfl) (evb (evs rfl) (evp (by simp only [List.length_append, List.length_take, List.length_singleton, List.length_drop]; omega) ?_)))))))))), h2⟩
  rw [w64s i (by omega)]
  exact hr
theorem kT {l : List Int} (hl : zc l) : ∃ r, Ev (fun k => spec_DrawPermuteBits.f k l) r ∧ r.2.1.length ≤ 40 ∧ r.2.2.length ≤ 5 := by
 obtain ⟨⟨n, t, p, s⟩, hv, h0, h1, h2, h3⟩ := qa hl 0 0 (by omega)
 simp only at h0 h1 h2 h3
 obtain ⟨m, rfl⟩ := Int.eq_ofNat_of_zero_le h0.1
 obtain ⟨r, hr, h⟩ := jM hl m (by omega) t h1 m 0 [] p s (by omega) rfl (by omega)
 unfold spec_DrawPermuteBits.f
 exact ⟨r, evb hv hr, h⟩
theorem kU {l : List Int} (hl : zc l) : ∃ r, Ev (fun k => spec_DrawRestrictBit.f k l) r ∧ r.2.1.length ≤ 40 := by
 obtain ⟨⟨n, t, p, s⟩, hv, h0, h1, h2, h3⟩ := qa hl 0 0 (by omega)
 simp only at h0 h1 h2 h3
 have hm : spec_l1Most.f 1 n = some (if (1 : Int) > n then 1 else n) := by unfold spec_l1Most.f; split <;> rfl
 obtain ⟨x1, p1, s1, e1, _, _, g1, g2⟩ := zl hl p s (if (1 : Int) > n then 1 else n) (by omega)
 obtain ⟨x2, p2, s2, e2, _, _, g3, g4⟩ := zl hl p1 s1 24 (by omega)
 obtain ⟨x3, p3, s3, e3, _, _, g5, g6⟩ := zl hl p2 s2 2 (by omega)
 obtain ⟨x4, p4, s4, e4, _, _, g7, g8⟩ := zl hl p3 s3 24 (by omega)
 unfold spec_DrawRestrictBit.f
 exact ⟨_, evb hv (evb (evc hm) (evb (evc e1) (evb (evc e2) (evb (evc e3) (evb (evc e4) (evs rfl)))))), h1⟩
theorem kV {l : List Int} (hl : zc l) : ∃ r, Ev (fun k => spec_DrawJoinTables.f k l) r ∧ r.2.1.length ≤ 40 ∧ r.2.2.length ≤ 40 := by
 obtain ⟨x, p1, s1, e1, _, g1, g2⟩ := zy hl 0 0 [2, 1, 3, 0, 2, 4] (by simp) (by omega)
 obtain ⟨r1, h1, a1, a2, a3⟩ := qs hl p1 s1 x (by omega)
 obtain ⟨r2, h2, b1, b2, b3⟩ := qs hl r1.2.1 r1.2.2 x (by omega)
 unfold spec_DrawJoinTables.f
 exact ⟨_, evb (evc e1) (evb h1 (evb h2 (evs rfl))), a1, b1⟩
theorem jN {a b c d : Nat} (h : a &&& b = c &&& d ∧ a ||| b = c ||| d) (i : Nat) : bit a i + bit b i = bit c i + bit d i := by
 have hp : ∀ x, x ≤ a + b + c + d + i → x < 2 ^ (a + b + c + d + i + 1) := fun x hx => Nat.lt_of_lt_of_le (Nat.lt_two_pow_self (n := x)) (Nat.pow_le_pow_right (by decide) (by omega))
 exact (same_sum (m := a + b + c + d + i + 1) (hp a (by omega)) (hp b (by omega)) (hp c (by omega)) (hp d (by omega))).2 h i (by omega)
theorem qH {m m' : Nat} {t t' : List Int} (hT : Tab m t) (hT' : Tab m' t') (φ : Nat → Nat) (h1 : ∀ k, k < 2 ^ m' → φ k < 2 ^ m)
  (hv : ∀ a b, a < 2 ^ m' → b < 2 ^ m' → (t'.getD a 0 = t'.getD b 0 → t.getD (φ a) 0 = t.getD (φ b) 0) ∧ (t'.getD a 0 = 1 - t'.getD b 0 → t.getD (φ a) 0 = 1 - t.getD (φ b) 0))
  (h2 : ∀ j, j < m → ∃ i : Nat, ∃ g : Nat → Nat, ∀ k, k < 2 ^ m' → bit (φ k) j = g (bit k i)) (h : (lp m t).isSome = true) : (lp m' t').isSome = true := by
 rcases ku hT' with h' | ⟨p0, p1, p2, p3, q1, q2, q3, q4, q5, q6, q7, q8⟩
 · exact h'
 ·
  exfalso
  have l0 : p0 < 2 ^ m' := by omega
  have l1 : p1 < 2 ^ m' := by omega
  have l2 : p2 < 2 ^ m' := by omega
  have hb : ∀ j, j < m → bit (φ p0) j + bit (φ p3) j = bit (φ p1) j + bit (φ p2) j := by
   intro j hj
   obtain ⟨i, g, hg⟩ := h2 j hj
   have hs := jN q5 i
   rw [hg p0 l0, hg p1 l1, hg p2 l2, hg p3 q4]
   have u0 := bit_lt p0 i; have u1 := bit_lt p1 i; have u2 := bit_lt p2 i; have u3 := bit_lt p3 i
   generalize bit p0 i = x at *; generalize bit p1 i = y at *; generalize bit p2 i = z at *; generalize bit p3 i = t at *
   rcases (show x = y ∧ t = z ∨ x = z ∧ t = y by omega) with ⟨rfl, rfl⟩ | ⟨rfl, rfl⟩
   · rfl
   · omega
  have hs := (same_sum (h1 p0 l0) (h1 p3 q4) (h1 p1 l1) (h1 p2 l2)).1 hb
  have v1 := (hv p0 p3 l0 q4).1 q6
  have v2 := (hv p1 p2 l1 l2).1 q7
  have v3 := (hv p1 p0 l1 l0).2 q8
  have r0 := hT.at_ (φ p0)
  have hno : tcond t (φ p0) (φ p3) (φ p1) (φ p2) = true ∨ tcond t (φ p1) (φ p2) (φ p0) (φ p3) = true := by
   unfold tcond
   rcases (show t.getD (φ p0) 0 = 0 ∨ t.getD (φ p0) 0 = 1 by omega) with z | z
   ·
    right
    rw [decide_eq_true (show t.getD (φ p1) 0 + t.getD (φ p2) 0 = 2 by omega), decide_eq_true (show t.getD (φ p0) 0 + t.getD (φ p3) 0 = 0 by omega), decide_eq_true hs.1.symm, decide_eq_true hs.2.symm]; rfl
   ·
    left
    rw [decide_eq_true (show t.getD (φ p0) 0 + t.getD (φ p3) 0 = 2 by omega), decide_eq_true (show t.getD (φ p1) 0 + t.getD (φ p2) 0 = 0 by omega), decide_eq_true hs.1, decide_eq_true hs.2]; rfl
  rcases hno with e | e
  · rw [qw hT (h1 p0 l0) (h1 p3 q4) (h1 p1 l1) (h1 p2 l2) e] at h; cases h
  · rw [qw hT (h1 p1 l1) (h1 p2 l2) (h1 p0 l0) (h1 p3 q4) e] at h; cases h
theorem zA {m m' : Nat} {t t' : List Int} (hT : Tab m t) (hT' : Tab m' t') (φ : Nat → Nat) (h1 : ∀ k, k < 2 ^ m' → φ k < 2 ^ m ∧ t'.getD k 0 = t.getD (φ k) 0)
  (h2 : ∀ j, j < m → ∃ i : Nat, ∃ g : Nat → Nat, ∀ k, k < 2 ^ m' → bit (φ k) j = g (bit k i)) (h : (lp m t).isSome = true) : (lp m' t').isSome = true :=
 qH hT hT' φ (fun k hk => (h1 k hk).1) (fun a b ha hb => by rw [(h1 a ha).2, (h1 b hb).2]; exact ⟨id, id⟩) h2 h
theorem qI {m : Nat} {t t' : List Int} (hT : Tab m t) (hT' : Tab m t') (φ : Nat → Nat) (h1 : ∀ k, k < 2 ^ m → φ k < 2 ^ m ∧ t'.getD k 0 = 1 - t.getD (φ k) 0)
  (h2 : ∀ j, j < m → ∃ i : Nat, ∃ g : Nat → Nat, ∀ k, k < 2 ^ m → bit (φ k) j = g (bit k i)) (h : (lp m t).isSome = true) : (lp m t').isSome = true :=
 qH hT hT' φ (fun k hk => (h1 k hk).1) (fun a b ha hb => by rw [(h1 a ha).2, (h1 b hb).2]; constructor <;> intro e <;> omega) h2 h
theorem zT {a b : Bool} (h1 : a = true → b = true) (h2 : b = true → a = true) : a = b := by
 rw [Bool.eq_iff_iff]; exact ⟨h1, h2⟩
theorem zX {m m' : Nat} {t : List Int} (hT : Tab m t) (hm : m' ≤ 4) (f : Nat → Int) (hf : ∀ k, k < 2 ^ m' → 0 ≤ f k ∧ f k ≤ 1) : Tab m' ((List.range (2 ^ m')).map f) := by
 refine ⟨hm, by simp, fun x hx => ?_⟩
 obtain ⟨k, hk, rfl⟩ := List.mem_map.1 hx
 exact hf k (List.mem_range.1 hk)
theorem zm (f : Nat → Int) (n k : Nat) (h : k < n) : ((List.range n).map f).getD k 0 = f k := map_at f n k h
theorem zI {m : Nat} {t : List Int} (hT : Tab m t) : isTab (m : Int) t = true := (isTab_iff _ _).2 ⟨⟨by omega, by have := hT.1; omega⟩, by rw [Int.toNat_natCast]; exact hT.2.1, hT.2.2⟩
theorem jO : ∀ l ∈ zL 4, ∀ n : Fin 5, (∀ x ∈ l, x < (n.val : Int)) → ∀ k : Fin 16, k.val < 2 ^ n.val → ∃ x : Fin 16, Go.bits .xor .i64 (k.val : Int) (flipMask l) = (x.val : Int) ∧ x.val < 2 ^ n.val ∧ Go.bits .xor .i64 (x.val : Int) (flipMask l) = (k.val : Int) ∧ ∀ j : Fin 4, bit x.val j.val = (bit k.val j.val + bit (flipMask l).toNat j.val) % 2 := by decide +kernel
def zh (s : List Int) (k : Nat) : Nat := (Go.bits .xor .i64 (k : Int) (flipMask s)).toNat
theorem zp {n : Nat} {s : List Int} (hn : n ≤ 4) (h : setB (n : Int) s = true) (k : Nat) (hk : k < 2 ^ n) : Go.bits .xor .i64 (k : Int) (flipMask s) = (zh s k : Int) ∧ zh s k < 2 ^ n ∧ zh s (zh s k) = k ∧ ∀ j, j < 4 → bit (zh s k) j = (bit k j + bit (flipMask s).toNat j) % 2 := by
 unfold setB inB at h
 simp only [Bool.and_eq_true, List.all_eq_true, decide_eq_true_eq] at h
 have hm := qp 4 s h.2 (fun x hx => by have := h.1 x hx; omega)
 have h16 : 2 ^ n ≤ 16 := Nat.pow_le_pow_right (by decide : 0 < 2) hn
 obtain ⟨x, e1, e2, e3, e4⟩ := jO s hm ⟨n, by omega⟩ (fun x hx => by have := h.1 x hx; simp only; omega) ⟨k, by omega⟩ hk
 have hx : zh s k = x.val := by unfold zh; rw [e1, Int.toNat_natCast]
 rw [hx]
 refine ⟨e1, e2, ?_, fun j hj => e4 ⟨j, hj⟩⟩
 unfold zh; rw [e3, Int.toNat_natCast]
theorem qy {m : Nat} {t s : List Int} (hT : Tab m t) (hs : setB (m : Int) s = true) : zd (m : Int) t s = ((List.range (2 ^ m)).map fun k => t.getD (zh s k) 0, true) := by
 unfold zd
 rw [if_pos ⟨zI hT, hs⟩, hT.2.1]
 exact Prod.ext (List.map_congr_left fun k hk => by rw [(zp hT.1 hs k (List.mem_range.1 hk)).1, rd_nat]) rfl
theorem jP {m : Nat} {t s : List Int} (hT : Tab m t) (hs : setB (m : Int) s = true) : ∃ t', zd (m : Int) t s = (t', true) ∧ Tab m t' ∧ zd (m : Int) t' s = (t, true) ∧ (lp m t).isSome = (lp m t').isSome := by
 have hT' : Tab m ((List.range (2 ^ m)).map fun k => t.getD (zh s k) 0) := zX hT hT.1 _ (fun k _ => hT.at_ _)
 refine ⟨_, qy hT hs, hT', ?_, zT (fun h => ?_) (fun h => ?_)⟩
 ·
  rw [qy hT' hs]
  congr 1
  have hl := hT.2.1
  apply List.ext_getElem
  · simp [hl]
  ·
   intro k h1 h2
   have hk : k < 2 ^ m := by simpa using h1
   have hf := zp hT.1 hs k hk
   simp only [List.getElem_map, List.getElem_range]
   rw [zm _ _ _ hf.2.1, hf.2.2.1, List.getD_eq_getElem?_getD, List.getElem?_eq_getElem h2]; rfl
 · exact zA hT hT' (zh s) (fun k hk => ⟨(zp hT.1 hs k hk).2.1, zm _ _ _ hk⟩) (fun j hj => ⟨j, fun y => (y + bit (flipMask s).toNat j) % 2, fun k hk => (zp hT.1 hs k hk).2.2.2 j (by have := hT.1; omega)⟩) h
 ·
  refine zA hT' hT (zh s) (fun k hk => ?_) (fun j hj => ⟨j, fun y => (y + bit (flipMask s).toNat j) % 2, fun k hk => (zp hT.1 hs k hk).2.2.2 j (by have := hT.1; omega)⟩) h
  have hf := zp hT.1 hs k hk
  exact ⟨hf.2.1, by rw [zm _ _ _ hf.2.1, hf.2.2.1]⟩
theorem jQ : ∀ n : Fin 5, ∀ k : Fin 16, k.val < 2 ^ n.val → ∀ j : Fin 4, j.val < n.val → bit (2 ^ n.val - 1 - k.val) j.val = 1 - bit k.val j.val := by decide +kernel
theorem qh {m : Nat} {t : List Int} (hT : Tab m t) : zb (m : Int) t = ((List.range (2 ^ m)).map fun k => 1 - t.getD (2 ^ m - 1 - k) 0, true) := by
 unfold zb
 have hl := hT.2.1
 have h16 : 2 ^ m ≤ 16 := Nat.pow_le_pow_right (by decide : 0 < 2) hT.1
 rw [if_pos (zI hT), hl]
 refine Prod.ext (List.map_congr_left fun k hk => ?_) rfl
 have hk' := List.mem_range.1 hk
 have ha := hT.at_ (2 ^ m - 1 - k)
 unfold qk
 rw [qc t (by omega) k (by omega), hl, rd_nat, w64 (by omega) (by omega)]
theorem jR {m : Nat} {t : List Int} (hT : Tab m t) : ∃ t', zb (m : Int) t = (t', true) ∧ Tab m t' ∧ zb (m : Int) t' = (t, true) ∧ (lp m t).isSome = (lp m t').isSome := by
 have hp := Nat.two_pow_pos m
 have h16 : 2 ^ m ≤ 16 := Nat.pow_le_pow_right (by decide : 0 < 2) hT.1
 have hT' : Tab m ((List.range (2 ^ m)).map fun k => 1 - t.getD (2 ^ m - 1 - k) 0) := zX hT hT.1 _ (fun k _ => by have := hT.at_ (2 ^ m - 1 - k); omega)
 have hb : ∀ j, j < m → ∃ i : Nat, ∃ g : Nat → Nat, ∀ k, k < 2 ^ m → bit (2 ^ m - 1 - k) j = g (bit k i) := fun j hj => ⟨j, fun y => 1 - y, fun k hk => jQ ⟨m, by have := hT.1; omega⟩ ⟨k, by omega⟩ hk ⟨j, by have := hT.1; omega⟩ hj⟩
 refine ⟨_, qh hT, hT', ?_, zT (fun h => ?_) (fun h => ?_)⟩
 ·
  rw [qh hT']
  congr 1
  have hl := hT.2.1
  apply List.ext_getElem
  · simp [hl]
  ·
   intro k h1 h2
   have hk : k < 2 ^ m := by simpa using h1
   simp only [List.getElem_map, List.getElem_range]
   rw [zm _ _ _ (by omega), show 2 ^ m - 1 - (2 ^ m - 1 - k) = k by omega, List.getD_eq_getElem?_getD, List.getElem?_eq_getElem h2]
   simp only [Option.getD_some]; omega
 · exact qI hT hT' (fun k => 2 ^ m - 1 - k) (fun k hk => ⟨by omega, zm _ _ _ hk⟩) hb h
 ·
  refine qI hT' hT (fun k => 2 ^ m - 1 - k) (fun k hk => ⟨by omega, ?_⟩) hb h
  rw [zm _ _ _ (by omega), show 2 ^ m - 1 - (2 ^ m - 1 - k) = k by omega]; omega
def zz (l : List Int) (k : Nat) : Nat → Nat
 | 0 => 0
 | j + 1 => zz l k j + bit k (l.getD j 0).toNat * 2 ^ j
theorem jq : ∀ n : Fin 5, ∀ l ∈ zQ n.val n.val, zf n.val l = true → ∀ k : Fin 16, k.val < 2 ^ n.val → (∀ i : Fin 4, i.val < n.val → bit (za l (k.val : Int) n.val).toNat (l.getD i.val 0).toNat = bit k.val i.val) ∧ zz l k.val n.val < 2 ^ n.val ∧ (za l ((zz l k.val n.val : Nat) : Int) n.val).toNat = k.val ∧ (∀ i : Fin 4, i.val < n.val → bit (zz l k.val n.val) i.val = bit k.val (l.getD i.val 0).toNat) := by decide +kernel
theorem jS {m : Nat} {t s : List Int} (hT : Tab m t) (hs : zf m s = true) : ∃ t', zg (m : Int) t s = (t', true) ∧ Tab m t' ∧ (lp m t).isSome = (lp m t').isSome := by
 have hl := hT.2.1
 have hm4 := hT.1
 have h16 : 2 ^ m ≤ 16 := Nat.pow_le_pow_right (by decide : 0 < 2) hT.1
 obtain ⟨p1, p2⟩ := zx hs
 have hf := fun k (hk : k < 2 ^ m) => jq ⟨m, by omega⟩ s (zR m s m p1 p2) hs ⟨k, by omega⟩ hk
 simp only at hf
 have ha := fun k (hk : k < 2 ^ m) => (qb hT.1 hs k hk).2
 have hval : zg (m : Int) t s = ((List.range (2 ^ m)).map fun k : Nat => t.getD (za s (k : Int) m).toNat 0, true) := by
  unfold zg
  rw [Int.toNat_natCast, if_pos ⟨zI hT, hs⟩]
  unfold zJ
  rw [hl]
  refine Prod.ext (List.map_congr_left fun k hk => ?_) rfl
  obtain ⟨z, hz⟩ := Int.eq_ofNat_of_zero_le (ha k (List.mem_range.1 hk)).1
  rw [hz, rd_nat, Int.toNat_natCast]
 have hT' : Tab m ((List.range (2 ^ m)).map fun k : Nat => t.getD (za s (k : Int) m).toNat 0) := zX hT hT.1 _ (fun k _ => hT.at_ _)
 refine ⟨_, hval, hT', zT (fun h => ?_) (fun h => ?_)⟩
 ·
  refine zA hT hT' (fun k => (za s (k : Int) m).toNat) (fun k hk => ⟨by have := ha k hk; omega, zm _ _ _ hk⟩) (fun j hj => ?_) h
  have hmem := ((zr _ _).1 hs).2 j hj
  obtain ⟨i, hi, e⟩ := List.getElem_of_mem hmem
  refine ⟨i, id, fun k hk => ?_⟩
  have := (hf k hk).1 ⟨i, by omega⟩ (by simp only; omega)
  simp only at this
  rw [List.getD_eq_getElem?_getD, List.getElem?_eq_getElem hi, Option.getD_some, e, Int.toNat_natCast] at this
  exact this
 ·
  refine zA hT' hT (fun k => zz s k m) (fun k hk => ?_) (fun j hj => ⟨(s.getD j 0).toNat, id, fun k hk => ?_⟩) h
  ·
   have h1 := (hf k hk).2.1
   exact ⟨h1, by rw [zm _ _ _ h1, (hf k hk).2.2.1]⟩
  · exact (hf k hk).2.2.2 ⟨j, by omega⟩ hj
theorem jT {m : Nat} {t : List Int} (hT : Tab m t) (b v : Int) (hb : 0 ≤ b ∧ b ≤ (m : Int) - 1) (hv : 0 ≤ v ∧ v ≤ 1) : ∃ t', ze (m : Int) t b v = (t', true) ∧ Tab (m - 1) t' ∧ ((lp m t).isSome = true → (lp (m - 1) t').isSome = true) := by
 have hl := hT.2.1
 have hm4 := hT.1
 obtain ⟨bb, rfl⟩ := Int.eq_ofNat_of_zero_le hb.1
 obtain ⟨vv, rfl⟩ := Int.eq_ofNat_of_zero_le hv.1
 have hf := (qd ⟨m, by omega⟩ ⟨bb, by omega⟩ (by simp only; omega) ⟨vv, by omega⟩).1
 simp only at hf
 have hh := zS (m := m) (by omega)
 have h8 : 2 ^ (m - 1) ≤ 8 := Nat.pow_le_pow_right (n := 2) (by decide) (show m - 1 ≤ 3 by omega)
 have hval : ze (m : Int) t (bb : Int) (vv : Int) = ((List.range (2 ^ (m - 1))).map fun k : Nat => t.getD (resAt (k : Int) (bb : Int) (vv : Int)).toNat 0, true) := by
  unfold ze
  rw [if_pos ⟨zI hT, hb, hv⟩]
  unfold zW
  rw [hl, hh]
  refine Prod.ext (List.map_congr_left fun k hk => ?_) rfl
  have hk' := List.mem_range.1 hk
  obtain ⟨z, hz⟩ := Int.eq_ofNat_of_zero_le (hf ⟨k, by omega⟩ hk').1
  rw [hz, rd_nat, Int.toNat_natCast]
 have hT' : Tab (m - 1) ((List.range (2 ^ (m - 1))).map fun k : Nat => t.getD (resAt (k : Int) (bb : Int) (vv : Int)).toNat 0) := zX hT (by omega) _ (fun k _ => hT.at_ _)
 refine ⟨_, hval, hT', fun h => zA hT hT' (fun k => (resAt (k : Int) (bb : Int) (vv : Int)).toNat) (fun k hk => ⟨by have := hf ⟨k, by omega⟩ hk; simp only at this; omega, zm _ _ _ hk⟩) (fun j hj => ?_) h⟩
 by_cases e : j = bb
 ·
  refine ⟨0, fun _ => vv, fun k hk => ?_⟩
  have := (hf ⟨k, by omega⟩ hk).2.2 ⟨j, by omega⟩ hj
  simp only at this
  rw [if_pos e] at this; exact this
 ·
  refine ⟨if j < bb then j else j - 1, id, fun k hk => ?_⟩
  have := (hf ⟨k, by omega⟩ hk).2.2 ⟨j, by omega⟩ hj
  simp only at this
  rw [if_neg e] at this; exact this
theorem qz : ∀ n : Fin 4, ∀ k : Fin 8, k.val < 2 ^ n.val → resAt (k.val : Int) (n.val : Int) 0 = (k.val : Int) ∧ resAt (k.val : Int) (n.val : Int) 1 = ((k.val + 2 ^ n.val : Nat) : Int) := by decide +kernel
theorem jU {m : Nat} {t u : List Int} (hT : Tab m t) (hU : Tab m u) (hm : m ≤ 3) : ze ((m : Int) + 1) (t ++ u) (m : Int) 0 = (t, true) ∧ ze ((m : Int) + 1) (t ++ u) (m : Int) 1 = (u, true) := by
 have hl := hT.2.1
 have hl2 := hU.2.1
 have h8 : 2 ^ m ≤ 8 := Nat.pow_le_pow_right (n := 2) (by decide) hm
 have hJ : isTab ((m : Int) + 1) (t ++ u) = true := by
  refine (isTab_iff _ _).2 ⟨⟨by omega, by omega⟩, ?_, fun x hx => ?_⟩
  · rw [show ((m : Int) + 1).toNat = m + 1 by omega, List.length_append, hl, hl2, Nat.pow_succ]; omega
  ·
   rcases List.mem_append.1 hx with h | h
   · exact hT.2.2 x h
   · exact hU.2.2 x h
 have hlen : (t ++ u).length / 2 = 2 ^ m := by rw [List.length_append, hl, hl2]; omega
 unfold ze
 rw [if_pos ⟨hJ, ⟨by omega, by omega⟩, by omega, by omega⟩, if_pos ⟨hJ, ⟨by omega, by omega⟩, by omega, by omega⟩]
 unfold zW
 rw [hlen]
 refine ⟨?_, ?_⟩
 ·
  congr 1
  apply List.ext_getElem
  · simp [hl]
  ·
   intro k h1 h2
   have hk : k < 2 ^ m := by simpa using h1
   simp only [List.getElem_map, List.getElem_range]
   rw [(qz ⟨m, by omega⟩ ⟨k, by omega⟩ hk).1, rd_nat, List.getD_eq_getElem?_getD, List.getElem?_append_left h2, List.getElem?_eq_getElem h2]; rfl
 ·
  congr 1
  apply List.ext_getElem
  · simp [hl2]
  ·
   intro k h1 h2
   have hk : k < 2 ^ m := by simpa using h1
   simp only [List.getElem_map, List.getElem_range]
   have hj := (qz ⟨m, by omega⟩ ⟨k, by omega⟩ hk).2
   simp only at hj
   rw [hj, rd_nat, List.getD_eq_getElem?_getD, List.getElem?_append_right (by omega), show k + 2 ^ m - t.length = k by omega, List.getElem?_eq_getElem h2]; rfl
theorem zj {m : Nat} {t : List Int} (hT : Tab m t) : zO (m : Int) t = ((lp m t).isSome, true) := by
 unfold zO
 rw [if_pos (zI hT), Int.toNat_natCast]
theorem kw (n : Int) (t s : List Int) (ht : t.length ≤ 40) (hs : s.length ≤ 40) (hf : isTab n t = true) : Ev (fun k => laws_FnTables.j4 k n t s (zd n t s).1 (zd n t s).2 (zO n t).1 false) true := by
 obtain ⟨m, rfl, hT⟩ := isTab_tab hf
 by_cases c : setB (m : Int) s = true
 ·
  obtain ⟨t', e1, hT', e2, e3⟩ := jP hT c
  have hl' := hT'.len
  rw [e1, zj hT]
  have h1 : Ev (fun k => impl_FlipBits.f k (m : Int) t' s) (t, true) := by rw [← e2]; exact jW (m : Int) t' s (by omega) (by omega)
  have h2 : Ev (fun k => impl_IsThreshold.f k (m : Int) t') ((lp m t').isSome, true) := by rw [← zj hT']; exact zP (m : Int) t' (by omega)
  refine Ev.step (fun k => laws_FnTables.j4.eq_2 ..) (evn (by decide) (evp rfl (evb h1 (evb h2 (evp rfl (evp rfl (evb (zu _ _ (by simp only; omega)) (evp (decide_eq_true rfl) (evs ?_)))))))))
  simp only [e3, beq_self_eq_true]
 ·
  have e : zd (m : Int) t s = ([], false) := by unfold zd; rw [if_neg (fun h => c h.2)]
  rw [e]
  exact Ev.step (fun k => laws_FnTables.j4.eq_2 ..) (evn (by decide) (evn (by decide) (evs rfl)))
theorem kx (n : Int) (t s : List Int) (ht : t.length ≤ 40) (hs : s.length ≤ 40) : Ev (fun k => laws_FnTables.j3 k n t s (zd n t s).1 (zd n t s).2 (zb n t).1 (zb n t).2) true := by
 by_cases hf : isTab n t = true
 ·
  have h4 := kw n t s ht hs hf
  obtain ⟨m, rfl, hT⟩ := isTab_tab hf
  obtain ⟨t', e1, hT', e2, e3⟩ := jR hT
  have hl' := hT'.len
  rw [e1]
  have h1 : Ev (fun k => impl_DualTable.f k (m : Int) t') (t, true) := by rw [← e2]; exact jn (m : Int) t' (by omega)
  have h2 := zP (m : Int) t (by omega)
  have h3 := zP (m : Int) t' (by omega)
  refine Ev.step (fun k => laws_FnTables.j3.eq_2 ..) (evp rfl (evb h1 (evb h2 (evb h3 (evp rfl (evb (zu _ _ (by simp only; omega)) (evp (decide_eq_true rfl) ?_)))))))
  rw [show ((zO (m : Int) t).1 != (zO (m : Int) t').1) = false by rw [zj hT, zj hT', e3]; simp]
  exact h4
 ·
  have e : zb n t = ([], false) := by unfold zb; rw [if_neg hf]
  rw [e]
  exact Ev.step (fun k => laws_FnTables.j3.eq_2 ..) (evn (by decide) (evs rfl))
theorem ky (n : Int) (t s : List Int) (ht : t.length ≤ 40) (hs : s.length ≤ 40) (c : Int) (o : List Int) (b v : Int) (ho : o.length ≤ 40) : Ev (fun k => laws_FnTables.j2 k n t s (zd n t s).1 (zd n t s).2 (zb n t).1 (zb n t).2 c o (ze c o b v).1 (ze c o b v).2) true := by
 have h3 := kx n t s ht hs
 by_cases hf : isTab c o = true ∧ (0 ≤ b ∧ b ≤ c - 1) ∧ (0 ≤ v ∧ v ≤ 1)
 ·
  obtain ⟨m, rfl, hT⟩ := isTab_tab hf.1
  obtain ⟨t', e1, hT', e2⟩ := jT hT b v hf.2.1 hf.2.2
  have hl' := hT'.len
  have hm4 := hT.1
  rw [e1]
  have hw : wrap64 ((m : Int) - 1) = ((m - 1 : Nat) : Int) := by rw [w64 (by omega) (by omega)]; omega
  have h1 := zP (m : Int) o (by omega)
  have h2 := zP ((m - 1 : Nat) : Int) t' (by omega)
  rw [zj hT] at h1
  rw [zj hT'] at h2
  refine Ev.step (fun k => laws_FnTables.j2.eq_2 ..) (evp rfl (evb h1 ?_))
  rw [hw]
  refine evb h2 (evp rfl ?_)
  by_cases c1 : (lp m o).isSome = true
  rotate_left
  · exact evn c1 h3
  exact evp c1 (evp (e2 c1) h3)
 ·
  have e : ze c o b v = ([], false) := by unfold ze; rw [if_neg hf]
  rw [e]
  exact Ev.step (fun k => laws_FnTables.j2.eq_2 ..) (evn (by decide) h3)
theorem kz (n : Int) (t s : List Int) (ht : t.length ≤ 40) (hs : s.length ≤ 40) (c : Int) (o : List Int) (b v : Int) (ho : o.length ≤ 40) (g : Int) (q r : List Int) (hq : q.length ≤ 40) (hr : r.length ≤ 40) : Ev (fun k => laws_FnTables.j1 k n t s (zd n t s).1 (zd n t s).2 (zb n t).1 (zb n t).2 g q (zg g q r).1 (zg g q r).2 c o (ze c o b v).1 (ze c o b v).2) true := by
 have h2 := ky n t s ht hs c o b v ho
 by_cases hf : isTab g q = true ∧ zf g.toNat r = true
 ·
  obtain ⟨m, rfl, hT⟩ := isTab_tab hf.1
  have hp := hf.2
  rw [Int.toNat_natCast] at hp
  obtain ⟨t', e1, hT', e2⟩ := jS hT hp
  have hl' := hT'.len
  rw [e1]
  have a1 := zP (m : Int) q (by omega)
  have a2 := zP (m : Int) t' (by omega)
  rw [zj hT] at a1
  rw [zj hT'] at a2
  exact Ev.step (fun k => laws_FnTables.j1.eq_2 ..) (evp rfl (evb a1 (evb a2 (evp rfl (evn (by simp only [e2]; simp) h2)))))
 ·
  have e : zg g q r = ([], false) := by unfold zg; rw [if_neg hf]
  rw [e]
  exact Ev.step (fun k => laws_FnTables.j1.eq_2 ..) (evn (by decide) h2)
theorem kA (n : Int) (t s : List Int) (ht : t.length ≤ 40) (hs : s.length ≤ 40) (c : Int) (o : List Int) (b v : Int) (ho : o.length ≤ 40) (g : Int) (q r : List Int) (hq : q.length ≤ 40) (hr : r.length ≤ 40) (d : Int) (x y : List Int) (hx : x.length ≤ 40) (hy : y.length ≤ 40) : Ev (fun k => laws_FnTables.j0 k n t s (zd n t s).1 (zd n t s).2 (zb n t).1 (zb n t).2 g q (zg g q r).1 (zg g q r).2 c o (ze c o b v).1 (ze c o b v).2 d x y (zo d x y).1 (zo d x y).2 false) true := by
 have h1 := kz n t s ht hs c o b v ho g q r hq hr
 by_cases hf : isTab d x = true ∧ isTab d y = true ∧ d ≠ 4
 ·
  obtain ⟨m, rfl, hT⟩ := isTab_tab hf.1
  obtain ⟨m', hmm, hU⟩ := isTab_tab hf.2.1
  obtain rfl : m = m' := by omega
  have hm4 := hT.1
  have hj := jU hT hU (by have := hf.2.2; omega)
  have e : zo (m : Int) x y = (x ++ y, true) := by unfold zo; rw [if_pos hf]
  have hw : wrap64 ((m : Int) + 1) = (m : Int) + 1 := w64 (by omega) (by omega)
  have a1 : Ev (fun k => impl_RestrictBit.f k ((m : Int) + 1) (x ++ y) (m : Int) 0) (x, true) := by rw [← hj.1]; exact qT _ _ _ _ (by rw [List.length_append]; omega)
  have a2 : Ev (fun k => impl_RestrictBit.f k ((m : Int) + 1) (x ++ y) (m : Int) 1) (y, true) := by rw [← hj.2]; exact qT _ _ _ _ (by rw [List.length_append]; omega)
  rw [e]
  refine Ev.step (fun k => laws_FnTables.j0.eq_2 ..) (evn (by decide) (evp rfl ?_))
  rw [hw]
  exact evb a1 (evb a2 (evp rfl (evp rfl (evb (zu _ _ (by simp only; omega)) (evp (decide_eq_true rfl) (evb (zu _ _ (by simp only; omega)) (evp (decide_eq_true rfl) h1)))))))
 ·
  have e : zo d x y = ([], false) := by unfold zo; rw [if_neg hf]
  rw [e]
  exact Ev.step (fun k => laws_FnTables.j0.eq_2 ..) (evn (by decide) (evn (by decide) h1))
theorem law (l0 : List Int) (hb : ∀ x ∈ l0, (Lit.int .u8 x).wf = true) : Ev (fun k => laws_FnTables.f k l0) true := by
 unfold laws_FnTables.f laws_vBig.f
 simp only [Option.bind_some]
 by_cases c : (l0.length : Int) > 65536
 · exact evp (decide_eq_true c) (evs rfl)
 have hl := kl l0 (by omega) hb
 refine evn (by simpa using c) ?_
 have bne_self : ∀ b : Bool, ¬ (b != b) = true := fun b => by cases b <;> decide
 obtain ⟨l1, hc1, hl1⟩ := kE hl
 obtain ⟨l2, hc2, hl2⟩ := kF hl
 obtain ⟨⟨n, t, s⟩, hd1, ht, hs⟩ := kS hl
 obtain ⟨⟨g, q, r⟩, hd2, hq, hr⟩ := kT hl1
 obtain ⟨⟨c, o, b, v⟩, hd3, ho⟩ := kU hl2
 obtain ⟨⟨d, x, y⟩, hd4, hx, hy⟩ := kV hl1
 simp only at ht hs hq hr ho hx hy
 have w1 := qZ n t s
 have w2 := qS n t
 have w3 := jl g q r
 have w4 := jo c o b v
 have w5 := jp d x y
 refine evb hd1 (evb (jW n t s (by omega) (by omega)) (evb (kC n t s (by omega) (by omega)) (evb (jn n t (by omega)) (evb (kv n t (by omega)) (evb (evc hc1) (evb hd2 (evb (jJ g q r (by omega) (by omega)) (evb (jI g q r (by omega) (by omega)) (evb (evc hc2) (evb hd3 (evb (qT c o b v (by omega)) (evb (kP c o b v (by omega)) (evb (evc hc1) (evb hd4 (evb (kQ d x y (by omega) (by omega)) (evb (kR d x y (by omega) (by omega)) ?_))))))))))))))))
 refine evn (bne_self _) (evb (zu _ _ (by omega)) (evp (decide_eq_true rfl) (evn (bne_self _) (evb (zu _ _ (by omega)) (evp (decide_eq_true rfl) (evn (bne_self _) (evb (zu _ _ (by omega)) (evp (decide_eq_true rfl) (evn (bne_self _) (evb (zu _ _ (by omega)) (evp (decide_eq_true rfl) (evn (bne_self _) (evb (zu _ _ (by omega)) ?_)))))))))))))
 rw [decide_eq_true rfl]
 exact kA n t s ht (by omega) c o b v ho g q r hq (by omega) d x y hx hy
end Go.Proofs.Ytmfmgnpefjmieaa.LFnTables
