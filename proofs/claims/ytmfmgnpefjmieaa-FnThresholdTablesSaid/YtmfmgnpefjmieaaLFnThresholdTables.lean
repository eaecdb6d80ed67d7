-- Own text.
import Derived.Test.YtmfmgnpefjmieaaMFnThresholdTablesx22
import Derived.Test.YtmfmgnpefjmieaaZFnThresholdTablesBase
namespace Go.Proofs.Ytmfmgnpefjmieaa.LFnThresholdTables
open Go Go.RowKit Go.Proofs.Ytmfmgnpefjmieaa.Base Go.Proofs.Ytmfmgnpefjmieaa.PFnThresholdTables Go.Proofs.YtmfmgnpefjmieaaW.PrintWords Go.Proofs.YtmfmgnpefjmieaaW.PrintLast Go.Proofs.YtmfmgnpefjmieaaW.PrintMore
set_option linter.unusedVariables false
set_option linter.unusedSimpArgs false
set_option maxRecDepth 4000
theorem zx (a b c : Int) : spec_l1In.f a b c = some (decide (b ≤ a ∧ a ≤ c)) := by
 unfold spec_l1In.f; split <;> simp_all <;> omega
theorem zH (a b c : Int) : impl_within.f a b c = some (decide (b ≤ a ∧ a ≤ c)) := by
 unfold impl_within.f; split <;> simp_all <;> omega
theorem ji (l : List Int) (hx : l.length < 4611686018427387904) : ∀ (d i : Nat), i + d = l.length →
  Ev (fun k => spec_l2Table.l0 k l (i : Int)) ((l.drop i).all fun x => decide (0 ≤ x ∧ x ≤ 1)) := by
 intro d
 induction d with
 | zero =>
  intro i hi
  refine Ev.step (fun k => spec_l2Table.l0.eq_2 ..) (evn (by omega) (evs ?_))
  simp [List.drop_of_length_le (show l.length ≤ i by omega)]
 | succ d ih =>
  intro i hi
  refine Ev.step (fun k => spec_l2Table.l0.eq_2 ..) (evp (by omega) (evp (by omega) ?_))
  rw [w64s i (by omega), rd_nat, zx, List.drop_eq_getElem_cons (show i < l.length by omega)]
  simp only [List.getD_eq_getElem?_getD, List.getElem?_eq_getElem (show i < l.length by omega), Option.getD_some, Option.bind_some, List.all_cons]
  by_cases e : 0 ≤ l[i] ∧ l[i] ≤ 1
  · refine evp (by simpa using e) (evr (ih (i + 1) (by omega)) (by simp [e]))
  · refine evn (by simpa using e) (evs (by simp [e]))
theorem zm (n : Int) (l : List Int) (hx : l.length < 4611686018427387904) : Ev (fun k => spec_l2Table.f k n l) (isTab n l) := by
 unfold spec_l2Table.f isTab
 rw [zx]
 simp only [Option.bind_some]
 by_cases h : 0 ≤ n ∧ n ≤ 4
 ·
  refine evp (by simpa using h) (evp h.1 (Ev.step (fun k => spec_l2Table.j0.eq_2 ..) ?_))
  obtain ⟨m, rfl⟩ := Int.eq_ofNat_of_zero_le h.1
  rw [shl1 m (by omega)]
  by_cases e : l.length = 2 ^ m
  · refine evn (by simp [e]) (evr (ji l hx l.length 0 (by omega)) (by simp [e]; omega))
  · refine evp (by simp; exact_mod_cast e) (evs (by simp [e]))
 · refine evn (by simpa using h) (Ev.step (fun k => spec_l2Table.j0.eq_2 ..) (evp rfl (evs (by simp [h]))))
theorem qp (lo up : Int) (l : List Int) (hx : l.length < 4611686018427387904) : ∀ (d i : Nat), i + d = l.length →
  Ev (fun k => impl_allWithin.l0 k lo up l (l.length : Int) (i : Int)) ((l.drop i).all fun x => decide (lo ≤ x ∧ x ≤ up)) := by
 intro d
 induction d with
 | zero =>
  intro i hi
  refine Ev.step (fun k => impl_allWithin.l0.eq_2 ..) (evn (by omega) (evs ?_))
  simp [List.drop_of_length_le (show l.length ≤ i by omega)]
 | succ d ih =>
  intro i hi
  refine Ev.step (fun k => impl_allWithin.l0.eq_2 ..) (evp (by omega) (evp (by omega) (evp (by omega) ?_)))
  rw [w64s i (by omega), rd_nat, zH, List.drop_eq_getElem_cons (show i < l.length by omega)]
  simp only [List.getD_eq_getElem?_getD, List.getElem?_eq_getElem (show i < l.length by omega), Option.getD_some, Option.bind_some, List.all_cons]
  by_cases e : lo ≤ l[i] ∧ l[i] ≤ up
  · refine evp (by simpa using e) (evr (ih (i + 1) (by omega)) (by simp [e]))
  · refine evn (by simpa using e) (evs (by simp [e]))
theorem zz (l : List Int) (lo up : Int) (hx : l.length < 4611686018427387904) : Ev (fun k => impl_allWithin.f k l lo up) (l.all fun x => decide (lo ≤ x ∧ x ≤ up)) := by
 unfold impl_allWithin.f
 exact qp lo up l hx l.length 0 (by omega)
theorem zu (n : Int) (l : List Int) (hx : l.length < 4611686018427387904) : Ev (fun k => impl_isTable.f k n l) (isTab n l) := by
 unfold impl_isTable.f isTab
 rw [zH]
 simp only [Option.bind_some]
 by_cases h : 0 ≤ n ∧ n ≤ 4
 ·
  obtain ⟨m, rfl⟩ := Int.eq_ofNat_of_zero_le h.1
  refine evp (by simpa using h) (evp h.1 ?_)
  rw [shl1 m (by omega)]
  by_cases e : l.length = 2 ^ m
  · refine evp (by exact_mod_cast e) (evb (zz l 0 1 hx) (evs (by simp [e]; omega)))
  · refine evn (by exact_mod_cast e) (evs (by simp [e]))
 · refine evn (by simpa using h) (evs (by simp [h]))
theorem qY (a b c d : Nat) (ha : a < 2 ^ 63) (hb : b < 2 ^ 63) (hc : c < 2 ^ 63) (hd : d < 2 ^ 63) :
  impl_sameSum.f (a : Int) (b : Int) (c : Int) (d : Int) = some (decide (a &&& b = c &&& d) && decide (a ||| b = c ||| d)) := by
 unfold impl_sameSum.f
 rw [and_nat a b ha hb, and_nat c d hc hd, or_nat a b ha hb, or_nat c d hc hd]
 by_cases e : a &&& b = c &&& d
 ·
  rw [if_pos (by rw [e]), decide_eq_true e, Bool.true_and]
  by_cases e' : a ||| b = c ||| d
  · simp [e']
  · rw [decide_eq_false e']; congr 1; simp only [beq_eq_false_iff_ne, ne_eq]; omega
 · rw [if_neg (by omega), decide_eq_false e, Bool.false_and]
def zI (r : Option (List Int)) : List Int × Bool := (r.getD [], r.isSome)
theorem jU {m : Nat} {l : List Int} (h : Tab m l) (x x' : Int) (a b c : Nat) (ha : a < l.length) (hb : b < l.length) (hc : c < l.length) (r : Option (List Int))
  (hr : Ev (fun k => impl_FindTrade.l2 k l (l.length : Int) (a : Int) (b : Int) x x' (l.length : Int) ((c + 1 : Nat) : Int)) (zI r)) : ∀ (n d : Nat), d + n = l.length →
  Ev (fun k => impl_FindTrade.l3 k l (l.length : Int) (a : Int) (b : Int) (c : Int) (d : Int) x x' (l.length : Int) (c : Int)) (zI (s3 l a b c d n r)) := by
 have hlen := h.len
 intro n
 induction n with
 | zero =>
  intro d hd
  refine Ev.step (fun k => impl_FindTrade.l3.eq_2 ..) (evn (by omega) ?_)
  rw [w64s c (by omega)]
  exact hr
 | succ n ih =>
  intro d hd
  have p1 := h.at_ a; have p2 := h.at_ b; have p3 := h.at_ c; have p4 := h.at_ d
  refine Ev.step (fun k => impl_FindTrade.l3.eq_2 ..) (evp (by omega) (evp (by omega) (evp (by omega) (evp (by omega) (evp (by omega) ?_)))))
  rw [rd_nat, rd_nat, rd_nat, rd_nat, w64s d (by omega), w64 (x := l.getD a 0 + l.getD b 0) (by omega) (by omega), w64 (x := l.getD c 0 + l.getD d 0) (by omega) (by omega)]
  have no : tcond l a b c d = false → Ev (fun k => impl_FindTrade.l3 k l (l.length : Int) (a : Int) (b : Int) (c : Int) ((d + 1 : Nat) : Int) x x' (l.length : Int) (c : Int)) (zI (s3 l a b c d (n + 1) r)) := by
   intro e
   refine evr (ih (d + 1) (by omega)) ?_
   simp only [s3]; rw [if_neg (by simp [e])]
  by_cases e1 : l.getD a 0 + l.getD b 0 = 2
  ·
   refine evp e1 (evp (by omega) (evp (by omega) (evp (by omega) (evp (by omega) ?_))))
   by_cases e2 : l.getD c 0 + l.getD d 0 = 0
   ·
    refine evp e2 ?_
    rw [qY a b c d (by omega) (by omega) (by omega) (by omega)]
    simp only [Option.bind_some]
    by_cases e3 : (decide (a &&& b = c &&& d) && decide (a ||| b = c ||| d)) = true
    ·
     refine evp e3 (evs ?_)
     simp only [s3]; rw [if_pos (by unfold tcond; rw [decide_eq_true e1, decide_eq_true e2, e3]; rfl)]; rfl
    · exact evn e3 (no (by unfold tcond; rw [decide_eq_true e1, decide_eq_true e2]; simpa using e3))
   · exact evn e2 (no (by unfold tcond; rw [decide_eq_false e2]; simp))
  · exact evn e1 (no (by unfold tcond; rw [decide_eq_false e1]; simp))
theorem jV {m : Nat} {l : List Int} (h : Tab m l) (x x' : Int) (a b : Nat) (hx' : x' = (a : Int)) (ha : a < l.length) (hb : b < l.length) (r : Option (List Int))
  (hr : Ev (fun k => impl_FindTrade.l1 k l (l.length : Int) (a : Int) ((b + 1 : Nat) : Int) x x') (zI r)) : ∀ (n c : Nat), c + n = l.length →
  Ev (fun k => impl_FindTrade.l2 k l (l.length : Int) (a : Int) (b : Int) x x' (l.length : Int) (c : Int)) (zI (s2 l a b c n r)) := by
 have hlen := h.len
 intro n
 induction n with
 | zero =>
  intro c hc
  refine Ev.step (fun k => impl_FindTrade.l2.eq_2 ..) (evn (by omega) ?_)
  rw [w64s b (by omega)]
  exact hr
 | succ n ih =>
  intro c hc
  refine Ev.step (fun k => impl_FindTrade.l2.eq_2 ..) (evp (by omega) ?_)
  exact jU h x x' a b c ha hb (by omega) _ (ih (c + 1) (by omega)) (l.length - c) c (by omega)
theorem jW {m : Nat} {l : List Int} (h : Tab m l) (a : Nat) (ha : a < l.length) (r : Option (List Int))
  (hr : Ev (fun k => impl_FindTrade.l0 k l (l.length : Int) (l.length : Int) ((a + 1 : Nat) : Int)) (zI r)) : ∀ (n b : Nat), b + n = l.length →
  Ev (fun k => impl_FindTrade.l1 k l (l.length : Int) (a : Int) (b : Int) (l.length : Int) (a : Int)) (zI (s1 l a b n r)) := by
 have hlen := h.len
 intro n
 induction n with
 | zero =>
  intro b hb
  refine Ev.step (fun k => impl_FindTrade.l1.eq_2 ..) (evn (by omega) ?_)
  rw [w64s a (by omega)]
  exact hr
 | succ n ih =>
  intro b hb
  refine Ev.step (fun k => impl_FindTrade.l1.eq_2 ..) (evp (by omega) ?_)
  exact jV h _ _ a b rfl ha (by omega) _ (ih (b + 1) (by omega)) l.length 0 (by omega)
theorem jX {m : Nat} {l : List Int} (h : Tab m l) : ∀ (n a : Nat), a + n = l.length →
  Ev (fun k => impl_FindTrade.l0 k l (l.length : Int) (l.length : Int) (a : Int)) (zI (s0 l a n)) := by
 intro n
 induction n with
 | zero =>
  intro a ha
  exact Ev.step (fun k => impl_FindTrade.l0.eq_2 ..) (evn (by omega) (evs rfl))
 | succ n ih =>
  intro a ha
  refine Ev.step (fun k => impl_FindTrade.l0.eq_2 ..) (evp (by omega) ?_)
  exact jW h a (by omega) _ (ih (a + 1) (by omega)) (l.length - a) a (by omega)
theorem zS0 (n : Int) (l : List Int) (hx : l.length < 4611686018427387904) : Ev (fun k => impl_FindTrade.f k n l) (trade n l) := by
 unfold impl_FindTrade.f trade
 refine evb (zu n l hx) ?_
 by_cases e : isTab n l = true
 ·
  obtain ⟨m, rfl, h⟩ := isTab_tab e
  refine evp e (evr (jX h l.length 0 (by omega)) ?_)
  rw [if_pos e]; rfl
 · refine evn e (evs (by simp [e]))
theorem jj (m : Nat) (hm : m ≤ 4) (a b c d : Nat) (ha : a < 2 ^ 62) (hb : b < 2 ^ 62) (hc : c < 2 ^ 62) (hd : d < 2 ^ 62) : ∀ (n i : Nat), i + n = m →
  Ev (fun k => spec_l5Trade.l1 k (m : Int) [(a : Int), (b : Int), (c : Int), (d : Int)] (i : Int)) ((List.range' i n).all fun i => decide (bit a i + bit b i = bit c i + bit d i)) := by
 intro n
 induction n with
 | zero =>
  intro i hi
  exact Ev.step (fun k => spec_l5Trade.l1.eq_2 ..) (evn (by omega) (evs (by simp)))
 | succ n ih =>
  intro i hi
  have u1 := bit_lt a i; have u2 := bit_lt b i; have u3 := bit_lt c i; have u4 := bit_lt d i
  refine Ev.step (fun k => spec_l5Trade.l1.eq_2 ..) (evp (by omega) (evp (by simp) (evp (by omega) (evp (by simp) (evp (by simp) (evp (by simp) ?_))))))
  rw [show rd [(a : Int), (b : Int), (c : Int), (d : Int)] 0 = (a : Int) from rfl, show rd [(a : Int), (b : Int), (c : Int), (d : Int)] 1 = (b : Int) from rfl, show rd [(a : Int), (b : Int), (c : Int), (d : Int)] 2 = (c : Int) from rfl, show rd [(a : Int), (b : Int), (c : Int), (d : Int)] 3 = (d : Int) from rfl,
   digit a i (by omega) (by omega), digit b i (by omega) (by omega), digit c i (by omega) (by omega), digit d i (by omega) (by omega), w64s i (by omega), w64 (x := (bit a i : Int) + (bit b i : Int)) (by omega) (by omega), w64 (x := (bit c i : Int) + (bit d i : Int)) (by omega) (by omega)]
  by_cases e : bit a i + bit b i = bit c i + bit d i
  ·
   refine evp (by omega) (evr (ih (i + 1) (by omega)) ?_)
   simp [List.range'_succ, e]
  ·
   refine evn (by omega) (evs ?_)
   simp [List.range'_succ, e]
theorem qZ {m : Nat} {l : List Int} (h : Tab m l) (a b c d : Nat) (ha : a < l.length) (hb : b < l.length) (hc : c < l.length) (hd : d < l.length) (hab : a ≤ b) (hcd : c ≤ d) :
  Ev (fun k => spec_l5Trade.f k (m : Int) l [(a : Int), (b : Int), (c : Int), (d : Int)]) (tcond l a b c d) := by
 have hlen := h.len
 have r0 : rd [(a : Int), (b : Int), (c : Int), (d : Int)] 0 = (a : Int) := rfl
 have r1 : rd [(a : Int), (b : Int), (c : Int), (d : Int)] 1 = (b : Int) := rfl
 have r2 : rd [(a : Int), (b : Int), (c : Int), (d : Int)] 2 = (c : Int) := rfl
 have r3 : rd [(a : Int), (b : Int), (c : Int), (d : Int)] 3 = (d : Int) := rfl
 have hw : wrap64 ((l.length : Int) - 1) = (l.length : Int) - 1 := w64 (by omega) (by omega)
 have ok : ∀ x : Nat, x < l.length → decide (0 ≤ (x : Int) ∧ (x : Int) ≤ (l.length : Int) - 1) = true := fun x hx => by simp; omega
 have p1 := h.at_ a; have p2 := h.at_ b; have p3 := h.at_ c; have p4 := h.at_ d
 have W1 : wrap64 (0 + 1) = 1 := w64 (by omega) (by omega)
 have W2 : wrap64 (1 + 1) = 2 := w64 (by omega) (by omega)
 have W3 : wrap64 (2 + 1) = 3 := w64 (by omega) (by omega)
 have W4 : wrap64 (3 + 1) = 4 := w64 (by omega) (by omega)
 unfold spec_l5Trade.f
 refine Ev.step (fun k => spec_l5Trade.l0.eq_2 ..) (evp (by simp) (evp (by decide) ?_))
 rw [r0, hw, zx, W1]; simp only [Option.bind_some]
 refine evp (ok a ha) (Ev.step (fun k => spec_l5Trade.l0.eq_2 ..) (evp (by simp) (evp (by decide) ?_)))
 rw [r1, hw, zx, W2]; simp only [Option.bind_some]
 refine evp (ok b hb) (Ev.step (fun k => spec_l5Trade.l0.eq_2 ..) (evp (by simp) (evp (by decide) ?_)))
 rw [r2, hw, zx, W3]; simp only [Option.bind_some]
 refine evp (ok c hc) (Ev.step (fun k => spec_l5Trade.l0.eq_2 ..) (evp (by simp) (evp (by decide) ?_)))
 rw [r3, hw, zx, W4]; simp only [Option.bind_some]
 refine evp (ok d hd) (Ev.step (fun k => spec_l5Trade.l0.eq_2 ..) (evn (by simp) (evp (by simp) (evp (by simp) (evp (by simp) ?_)))))
 rw [r0, r1, r2, r3, rd_nat, rd_nat, rd_nat, rd_nat, w64 (x := l.getD a 0 + l.getD b 0) (by omega) (by omega), w64 (x := l.getD c 0 + l.getD d 0) (by omega) (by omega)]
 refine evn (by omega) (evp (by simp) (evp (by simp) (evn (by omega) (evp (by omega) (evp (by omega) (evp (by omega) (evp (by omega) ?_)))))))
 by_cases e1 : l.getD a 0 + l.getD b 0 = 2
 ·
  refine evp e1 (evp (by omega) (evp (by omega) (evp (by omega) (evp (by omega) (Ev.step (fun k => spec_l5Trade.j1.eq_2 ..) ?_)))))
  by_cases e2 : l.getD c 0 + l.getD d 0 = 0
  ·
   refine evn (by simpa using e2) (evr (jj m h.1 a b c d (by omega) (by omega) (by omega) (by omega) m 0 (by omega)) ?_)
   unfold tcond
   rw [decide_eq_true e1, decide_eq_true e2, Bool.true_and, Bool.true_and, ← List.range_eq_range', Bool.eq_iff_iff]
   have := same_sum (h.2.1 ▸ ha) (h.2.1 ▸ hb) (h.2.1 ▸ hc) (h.2.1 ▸ hd)
   simpa using this
  ·
   refine evp (by simpa using e2) (evs ?_)
   unfold tcond; rw [decide_eq_false e2]; simp
 ·
  refine evn e1 (Ev.step (fun k => spec_l5Trade.j1.eq_2 ..) (evp rfl (evs ?_)))
  unfold tcond; rw [decide_eq_false e1]; simp
def zJ (r : Option (List Int)) : List Int := r.getD []
theorem jY {m : Nat} {l : List Int} (h : Tab m l) (a b c : Nat) (hab : a ≤ b) (ha : a < l.length) (hb : b < l.length) (hc : c < l.length) (r : Option (List Int))
  (hr : Ev (fun k => spec_l5Find.l2 k (m : Int) l (a : Int) (b : Int) ((c + 1 : Nat) : Int)) (zJ r)) : ∀ (n d : Nat), d + n = l.length → c ≤ d →
  Ev (fun k => spec_l5Find.l3 k (m : Int) l (a : Int) (b : Int) (c : Int) (d : Int)) (zJ (s3 l a b c d n r)) := by
 have hlen := h.len
 intro n
 induction n with
 | zero =>
  intro d hd hcd
  refine Ev.step (fun k => spec_l5Find.l3.eq_2 ..) (evn (by omega) ?_)
  rw [w64s c (by omega)]
  exact hr
 | succ n ih =>
  intro d hd hcd
  refine Ev.step (fun k => spec_l5Find.l3.eq_2 ..) (evp (by omega) (evb (evc rfl) (evb (qZ h a b c d ha hb hc (by omega) hab hcd) ?_)))
  rw [w64s d (by omega)]
  by_cases e : tcond l a b c d = true
  ·
   refine evp e (evs ?_)
   simp only [s3]; rw [if_pos e]; rfl
  ·
   refine evn e (evr (ih (d + 1) (by omega) (by omega)) ?_)
   simp only [s3]; rw [if_neg e]
theorem jZ {m : Nat} {l : List Int} (h : Tab m l) (a b : Nat) (hab : a ≤ b) (ha : a < l.length) (hb : b < l.length) (r : Option (List Int))
  (hr : Ev (fun k => spec_l5Find.l1 k (m : Int) l (a : Int) ((b + 1 : Nat) : Int)) (zJ r)) : ∀ (n c : Nat), c + n = l.length →
  Ev (fun k => spec_l5Find.l2 k (m : Int) l (a : Int) (b : Int) (c : Int)) (zJ (s2 l a b c n r)) := by
 have hlen := h.len
 intro n
 induction n with
 | zero =>
  intro c hc
  refine Ev.step (fun k => spec_l5Find.l2.eq_2 ..) (evn (by omega) (Ev.step (fun k => spec_l5Find.j3.eq_2 ..) (evn (by simp) ?_)))
  rw [w64s b (by omega)]
  exact hr
 | succ n ih =>
  intro c hc
  have p1 := h.at_ a; have p2 := h.at_ b
  refine Ev.step (fun k => spec_l5Find.l2.eq_2 ..) (evp (by omega) (evp (by omega) (evp (by omega) ?_)))
  rw [rd_nat, rd_nat]
  have no : l.getD a 0 + l.getD b 0 ≠ 2 → Ev (fun k => spec_l5Find.l1 k (m : Int) l (a : Int) (wrap64 ((b : Int) + 1))) (zJ (s2 l a b c (n + 1) r)) := by
   intro e
   rw [w64s b (by omega), s2_no l a b e]
   exact hr
  by_cases e1 : l.getD a 0 = 1
  ·
   refine evp e1 (evp (by omega) (evp (by omega) (Ev.step (fun k => spec_l5Find.j3.eq_2 ..) ?_)))
   by_cases e2 : l.getD b 0 = 1
   ·
    refine evp (by simpa using e2) ?_
    exact jY h a b c hab ha hb (by omega) _ (ih (c + 1) (by omega)) (l.length - c) c (by omega) (Nat.le_refl _)
   · exact evn (by simpa using e2) (no (by omega))
  · exact evn e1 (Ev.step (fun k => spec_l5Find.j3.eq_2 ..) (evn (by simp) (no (by omega))))
theorem ka {m : Nat} {l : List Int} (h : Tab m l) (a : Nat) (ha : a < l.length) (r : Option (List Int))
  (hr : Ev (fun k => spec_l5Find.l0 k (m : Int) l ((a + 1 : Nat) : Int)) (zJ r)) : ∀ (n b : Nat), b + n = l.length → a ≤ b →
  Ev (fun k => spec_l5Find.l1 k (m : Int) l (a : Int) (b : Int)) (zJ (s1 l a b n r)) := by
 have hlen := h.len
 intro n
 induction n with
 | zero =>
  intro b hb hab
  refine Ev.step (fun k => spec_l5Find.l1.eq_2 ..) (evn (by omega) ?_)
  rw [w64s a (by omega)]
  exact hr
 | succ n ih =>
  intro b hb hab
  refine Ev.step (fun k => spec_l5Find.l1.eq_2 ..) (evp (by omega) ?_)
  exact jZ h a b hab ha (by omega) _ (ih (b + 1) (by omega) (by omega)) l.length 0 (by omega)
theorem kb {m : Nat} {l : List Int} (h : Tab m l) : ∀ (n a : Nat), a + n = l.length →
  Ev (fun k => spec_l5Find.l0 k (m : Int) l (a : Int)) (zJ (s0 l a n)) := by
 intro n
 induction n with
 | zero =>
  intro a ha
  exact Ev.step (fun k => spec_l5Find.l0.eq_2 ..) (evn (by omega) (evs rfl))
 | succ n ih =>
  intro a ha
  refine Ev.step (fun k => spec_l5Find.l0.eq_2 ..) (evp (by omega) ?_)
  exact ka h a (by omega) _ (ih (a + 1) (by omega)) (l.length - a) a (by omega) (Nat.le_refl _)
theorem jy {m : Nat} {l : List Int} (h : Tab m l) : Ev (fun k => spec_l5Find.f k (m : Int) l) ((s0 l 0 l.length).getD []) := by
 unfold spec_l5Find.f
 exact kb h l.length 0 (by omega)
theorem zT0 (n : Int) (l : List Int) (hx : l.length < 4611686018427387904) : Ev (fun k => spec_FindTrade.f k n l) (trade n l) := by
 unfold spec_FindTrade.f trade
 refine evb (zm n l hx) ?_
 by_cases e : isTab n l = true
 ·
  obtain ⟨m, rfl, h⟩ := isTab_tab e
  refine evp e (evb (jy h) (evs ?_))
  rw [if_pos e]
  cases e' : s0 l 0 l.length with
  | none => rfl
  | some t => have := s0_len l _ _ t e'; simp; omega
 · refine evn e (evs (by simp [e]))
theorem zU0 (l : List Int) (h : l.length < 17592186044416) : spec_l1Own.f l = some l := by
 unfold spec_l1Own.f
 simp only [Option.bind_some]
 rw [if_pos (by simpa using h)]; rfl
theorem zi0 (l : List Int) (h : l.length < 17592186044416) : impl_copied.f l = some l := by
 unfold impl_copied.f
 simp only [Option.bind_some]
 rw [if_pos (by simpa using h)]; rfl
theorem kJ (x : Int) : impl_isLabel.f x = some (decide (x = 1 ∨ x = -1)) := by
 unfold impl_isLabel.f
 by_cases e : x = 1
 · rw [if_pos e, decide_eq_true (.inl e)]
 · rw [if_neg e]; congr 1; rw [Bool.eq_iff_iff]; simp [e]
theorem kc (a b : List Int) (M : Int) (hM : 0 ≤ M ∧ M ≤ 1000000000000) (hab : ∀ i, -M ≤ a.getD i 0 * b.getD i 0 ∧ a.getD i 0 * b.getD i 0 ≤ M) (hl : a.length ≤ 1000) (hb : a.length ≤ b.length) : ∀ (d i : Nat) (s : Int), i + d = a.length → -(M * i) ≤ s → s ≤ M * i →
  Ev (fun k => spec_l2Dot.l0 k a b s (i : Int)) (s + dot (a.drop i) (b.drop i)) := by
 intro d
 induction d with
 | zero =>
  intro i s hi h0 hs
  exact Ev.step (fun k => spec_l2Dot.l0.eq_2 ..) (evn (by omega) (evs (by rw [List.drop_of_length_le (show a.length ≤ i by omega)]; simp [dot])))
 | succ d ih =>
  intro i s hi h0 hs
  have hm := hab i
  have hMi : M * (i : Int) ≤ 1000000000000 * 1000 := Int.mul_le_mul hM.2 (by omega) (by omega) (by omega)
  have hMs : M * ((i + 1 : Nat) : Int) = M * i + M := by rw [show ((i + 1 : Nat) : Int) = (i : Int) + 1 by omega, Int.mul_add]; omega
  refine Ev.step (fun k => spec_l2Dot.l0.eq_2 ..) (evp (by omega) (evp (by omega) (evp (by omega) ?_)))
  rw [rd_nat, rd_nat, w64s i (by omega), w64 (x := a.getD i 0 * b.getD i 0) (by omega) (by omega), w64 (x := s + a.getD i 0 * b.getD i 0) (by omega) (by omega)]
  refine evr (ih (i + 1) _ (by omega) (by omega) (by omega)) ?_
  rw [List.drop_eq_getElem_cons (show i < a.length by omega), List.drop_eq_getElem_cons (show i < b.length by omega)]
  simp only [List.getD_eq_getElem?_getD, List.getElem?_eq_getElem (show i < a.length by omega), List.getElem?_eq_getElem (show i < b.length by omega), Option.getD_some, dot]; omega
theorem ja {l : List Int} {A : Int} (hA : 0 ≤ A) (h : ∀ x ∈ l, -A ≤ x ∧ x ≤ A) (i : Nat) : -A ≤ l.getD i 0 ∧ l.getD i 0 ≤ A := by
 by_cases hi : i < l.length
 · rw [List.getD_eq_getElem?_getD, List.getElem?_eq_getElem hi]; exact h _ (List.getElem_mem hi)
 · rw [List.getD_eq_getElem?_getD, List.getElem?_eq_none (by omega)]; simp; omega
theorem kD (a b : List Int) (A B : Int) (hA : 0 ≤ A ∧ A ≤ 1000000) (hB : 0 ≤ B ∧ B ≤ 1000000) (ha : ∀ x ∈ a, -A ≤ x ∧ x ≤ A) (hb : ∀ x ∈ b, -B ≤ x ∧ x ≤ B) (hl : a.length ≤ 1000) (hab : a.length ≤ b.length) : Ev (fun k => spec_l2Dot.f k a b) (dot a b) := by
 unfold spec_l2Dot.f
 have hM : A * B ≤ 1000000 * 1000000 := Int.mul_le_mul hA.2 hB.2 hB.1 (by omega)
 have hM0 := Int.mul_nonneg hA.1 hB.1
 exact evr (kc a b (A * B) ⟨hM0, by omega⟩ (fun i => mul_bd (ja hA.1 ha i) (ja hB.1 hb i)) hl hab a.length 0 0 (by omega) (by simp) (by simp)) (by simp)
theorem jk (a b : List Int) (M : Int) (hM : 0 ≤ M ∧ M ≤ 1000000000000) (hab : ∀ i, -M ≤ a.getD i 0 * b.getD i 0 ∧ a.getD i 0 * b.getD i 0 ≤ M) (hl : a.length ≤ 1000) (hb : a.length ≤ b.length) : ∀ (d i : Nat) (s : Int), i + d = a.length → -(M * i) ≤ s → s ≤ M * i →
  Ev (fun k => impl_product.l0 k b s a (a.length : Int) (i : Int)) (s + dot (a.drop i) (b.drop i)) := by
 intro d
 induction d with
 | zero =>
  intro i s hi h0 hs
  exact Ev.step (fun k => impl_product.l0.eq_2 ..) (evn (by omega) (evs (by rw [List.drop_of_length_le (show a.length ≤ i by omega)]; simp [dot])))
 | succ d ih =>
  intro i s hi h0 hs
  have hm := hab i
  have hMi : M * (i : Int) ≤ 1000000000000 * 1000 := Int.mul_le_mul hM.2 (by omega) (by omega) (by omega)
  have hMs : M * ((i + 1 : Nat) : Int) = M * i + M := by rw [show ((i + 1 : Nat) : Int) = (i : Int) + 1 by omega, Int.mul_add]; omega
  refine Ev.step (fun k => impl_product.l0.eq_2 ..) (evp (by omega) (evp (by omega) (evp (by omega) (evp (by omega) ?_))))
  rw [rd_nat, rd_nat, w64s i (by omega), w64 (x := a.getD i 0 * b.getD i 0) (by omega) (by omega), w64 (x := s + a.getD i 0 * b.getD i 0) (by omega) (by omega)]
  refine evr (ih (i + 1) _ (by omega) (by omega) (by omega)) ?_
  rw [List.drop_eq_getElem_cons (show i < a.length by omega), List.drop_eq_getElem_cons (show i < b.length by omega)]
  simp only [List.getD_eq_getElem?_getD, List.getElem?_eq_getElem (show i < a.length by omega), List.getElem?_eq_getElem (show i < b.length by omega), Option.getD_some, dot]; omega
theorem qq {l : List Int} {A : Int} (hA : 0 ≤ A) (h : ∀ x ∈ l, -A ≤ x ∧ x ≤ A) (i : Nat) : -A ≤ l.getD i 0 ∧ l.getD i 0 ≤ A := by
 by_cases hi : i < l.length
 · rw [List.getD_eq_getElem?_getD, List.getElem?_eq_getElem hi]; exact h _ (List.getElem_mem hi)
 · rw [List.getD_eq_getElem?_getD, List.getElem?_eq_none (by omega)]; simp; omega
theorem jb (a b : List Int) (A B : Int) (hA : 0 ≤ A ∧ A ≤ 1000000) (hB : 0 ≤ B ∧ B ≤ 1000000) (ha : ∀ x ∈ a, -A ≤ x ∧ x ≤ A) (hb : ∀ x ∈ b, -B ≤ x ∧ x ≤ B) (hl : a.length ≤ 1000) (hab : a.length ≤ b.length) : Ev (fun k => impl_product.f k a b) (dot a b) := by
 unfold impl_product.f
 have hM : A * B ≤ 1000000 * 1000000 := Int.mul_le_mul hA.2 hB.2 hB.1 (by omega)
 have hM0 := Int.mul_nonneg hA.1 hB.1
 exact evr (jk a b (A * B) ⟨hM0, by omega⟩ (fun i => mul_bd (qq hA.1 ha i) (qq hB.1 hb i)) hl hab a.length 0 0 (by omega) (by simp) (by simp)) (by simp)
theorem zj0 (a : List Int) (b : Int) (x : List Int) (A B : Int) (hA : 0 ≤ A ∧ A ≤ 1000000) (hB : 0 ≤ B ∧ B ≤ 1000000) (ha : ∀ x ∈ a, -A ≤ x ∧ x ≤ A) (hb : ∀ y ∈ x, -B ≤ y ∧ y ≤ B) (hl : a.length ≤ 1000) (hab : a.length ≤ x.length) : Ev (fun k => spec_l2Side.f k a b x) (sideV a b x) := by
 unfold spec_l2Side.f sideV
 refine evb (kD a x A B hA hB ha hb hl hab) ?_
 by_cases e : dot a x ≥ b
 · exact evp e (evs (by rw [if_pos e]))
 · exact evn e (evs (by rw [if_neg e]))
theorem zV0 (a : List Int) (b : Int) (x : List Int) (A B : Int) (hA : 0 ≤ A ∧ A ≤ 1000000) (hB : 0 ≤ B ∧ B ≤ 1000000) (ha : ∀ x ∈ a, -A ≤ x ∧ x ≤ A) (hb : ∀ y ∈ x, -B ≤ y ∧ y ≤ B) (hl : a.length ≤ 1000) (hab : a.length ≤ x.length) : Ev (fun k => impl_Plane_side.f k a b x) (sideV a b x) := by
 unfold impl_Plane_side.f sideV
 refine evb (jb a x A B hA hB ha hb hl hab) ?_
 by_cases e : dot a x ≥ b
 · exact evp e (evs (by rw [if_pos e]))
 · exact evn e (evs (by rw [if_neg e]))
theorem qk (n k : Nat) (hn : n ≤ 8) (hk : k < 2 ^ 62) : ∀ (d i : Nat) (out : List Int), i + d = n → out.length = i →
  Ev (fun f => spec_l2BitPoint.l0 f (n : Int) (k : Int) out (i : Int)) (out ++ (List.range' i d).map fun i => (bit k i : Int)) := by
 intro d
 induction d with
 | zero =>
  intro i out hi ho
  exact Ev.step (fun k => spec_l2BitPoint.l0.eq_2 ..) (evn (by omega) (evs (by simp)))
 | succ d ih =>
  intro i out hi ho
  refine Ev.step (fun k => spec_l2BitPoint.l0.eq_2 ..) (evp (by omega) (evp (by omega) (evp (by omega) ?_)))
  rw [digit k i (by omega) (by omega), w64s i (by omega)]
  refine evr (ih (i + 1) _ (by omega) (by simp; omega)) ?_
  simp [List.range'_succ]
theorem zT (n k : Nat) (hn : n ≤ 8) (hk : k < 2 ^ 62) : Ev (fun f => spec_l2BitPoint.f f (n : Int) (k : Int)) (bitPt n k) := by
 unfold spec_l2BitPoint.f bitPt
 refine evr (qk n k hn hk n 0 [] (by omega) rfl) ?_
 rw [List.range_eq_range']; rfl
theorem qT (n k : Nat) (hn : n ≤ 8) (hk : k < 2 ^ 62) : ∀ (d i : Nat) (out : List Int), i + d = n → out.length = i →
  Ev (fun f => impl_bitPoint.l0 f (k : Int) out (n : Int) (i : Int)) (out ++ (List.range' i d).map fun i => (bit k i : Int)) := by
 intro d
 induction d with
 | zero =>
  intro i out hi ho
  exact Ev.step (fun k => impl_bitPoint.l0.eq_2 ..) (evn (by omega) (evs (by simp)))
 | succ d ih =>
  intro i out hi ho
  refine Ev.step (fun k => impl_bitPoint.l0.eq_2 ..) (evp (by omega) (evp (by omega) (evp (by omega) ?_)))
  rw [digit k i (by omega) (by omega), w64s i (by omega)]
  refine evr (ih (i + 1) _ (by omega) (by simp; omega)) ?_
  simp [List.range'_succ]
theorem zQ (n k : Nat) (hn : n ≤ 8) (hk : k < 2 ^ 62) : Ev (fun f => impl_bitPoint.f f (n : Int) (k : Int)) (bitPt n k) := by
 unfold impl_bitPoint.f bitPt
 refine evr (qT n k hn hk n 0 [] (by omega) rfl) ?_
 rw [List.range_eq_range']; rfl
theorem qr (n : Nat) (hn : n ≤ 4) (a : List Int) (b : Int) (A : Int) (hA : 0 ≤ A ∧ A ≤ 1000000) (ha : ∀ x ∈ a, -A ≤ x ∧ x ≤ A) (hl : a.length ≤ n) : ∀ (d c : Nat) (out : List Int), c + d = 2 ^ n → out.length = c →
  Ev (fun k => spec_l2TableOf.l0 k (n : Int) out (c : Int) a b) (out ++ (List.range' c d).map fun k => if dot a (bitPt n k) ≥ b then 1 else 0) := by
 have hp := pow4 n hn
 intro d
 induction d with
 | zero =>
  intro c out hc ho
  refine Ev.step (fun k => spec_l2TableOf.l0.eq_2 ..) (evp (by omega) ?_)
  rw [shl1 n (by omega)]
  exact evn (by omega) (evs (by simp))
 | succ d ih =>
  intro c out hc ho
  refine Ev.step (fun k => spec_l2TableOf.l0.eq_2 ..) (evp (by omega) ?_)
  rw [shl1 n (by omega), w64s c (by omega)]
  refine evp (by omega) (evb (zT n c (by omega) (by omega)) (evb (zj0 a b _ A 1 hA (by omega) ha (bitPt_in n c) (by omega) (by rw [bitPt_len]; exact hl)) (evp (by omega) ?_)))
  have hv : wrap64 (Int.tdiv (wrap64 (sideV a b (bitPt n c) + 1)) 2) = if dot a (bitPt n c) ≥ b then 1 else 0 := by
   unfold sideV
   split
   · rw [w64 (x := 1 + 1) (by omega) (by omega), show Int.tdiv (1 + 1) 2 = 1 from rfl, w64 (by omega) (by omega)]
   · rw [w64 (x := -1 + 1) (by omega) (by omega), show Int.tdiv (-1 + 1) 2 = 0 from rfl, w64 (by omega) (by omega)]
  rw [hv]
  refine evr (ih (c + 1) _ (by omega) (by simp; omega)) ?_
  simp [List.range'_succ]
theorem jz (n : Nat) (hn : n ≤ 4) (a : List Int) (b : Int) (A : Int) (hA : 0 ≤ A ∧ A ≤ 1000000) (ha : ∀ x ∈ a, -A ≤ x ∧ x ≤ A) (hl : a.length ≤ n) : Ev (fun k => spec_l2TableOf.f k (n : Int) a b) (tabOf n a b) := by
 unfold spec_l2TableOf.f tabOf
 refine evr (qr n hn a b A hA ha hl (2 ^ n) 0 [] (by omega) rfl) ?_
 rw [List.range_eq_range']; rfl
theorem jl (n : Nat) (hn : n ≤ 4) (a : List Int) (b : Int) (A : Int) (hA : 0 ≤ A ∧ A ≤ 1000000) (ha : ∀ x ∈ a, -A ≤ x ∧ x ≤ A) (hl : a.length = n) : ∀ (d c : Nat) (out : List Int), c + d = 2 ^ n → out.length = c →
  Ev (fun k => impl_Plane_table.l0 k (n : Int) out ((2 ^ n : Nat) : Int) (c : Int) a b) (out ++ (List.range' c d).map fun k => if dot a (bitPt n k) ≥ b then 1 else 0) := by
 have hp := pow4 n hn
 intro d
 induction d with
 | zero =>
  intro c out hc ho
  exact Ev.step (fun k => impl_Plane_table.l0.eq_2 ..) (evn (by omega) (evs (by simp)))
 | succ d ih =>
  intro c out hc ho
  refine Ev.step (fun k => impl_Plane_table.l0.eq_2 ..) ?_
  rw [w64s c (by omega)]
  refine evp (by omega) (evb (zQ n c (by omega) (by omega)) (evb (zV0 a b _ A 1 hA (by omega) ha (bitPt_in n c) (by omega) (by rw [bitPt_len]; omega)) (evp (by omega) ?_)))
  have hv : wrap64 (Int.tdiv (wrap64 (sideV a b (bitPt n c) + 1)) 2) = if dot a (bitPt n c) ≥ b then 1 else 0 := by
   unfold sideV
   split
   · rw [w64 (x := 1 + 1) (by omega) (by omega), show Int.tdiv (1 + 1) 2 = 1 from rfl, w64 (by omega) (by omega)]
   · rw [w64 (x := -1 + 1) (by omega) (by omega), show Int.tdiv (-1 + 1) 2 = 0 from rfl, w64 (by omega) (by omega)]
  rw [hv]
  refine evr (ih (c + 1) _ (by omega) (by simp; omega)) ?_
  simp [List.range'_succ]
theorem kK (a : List Int) (b : Int) (hn : a.length ≤ 4) (A : Int) (hA : 0 ≤ A ∧ A ≤ 1000000) (ha : ∀ x ∈ a, -A ≤ x ∧ x ≤ A) : Ev (fun k => impl_Plane_table.f k a b) (tabOf a.length a b) := by
 unfold impl_Plane_table.f tabOf
 rw [shl1 a.length (by omega)]
 refine evr (jl a.length hn a b A hA ha rfl (2 ^ a.length) 0 [] (by omega) rfl) ?_
 rw [List.range_eq_range']; rfl
theorem qs (l : List Int) (b : Int) (hb : 0 ≤ b ∧ b ≤ 1000000000) (hx : l.length < 4611686018427387904) : ∀ (d i : Nat), i + d = l.length →
  Ev (fun k => spec_l2Numbers.l0 k l b (i : Int)) (inB (-b) b (l.drop i)) := by
 intro d
 induction d with
 | zero =>
  intro i hi
  exact Ev.step (fun k => spec_l2Numbers.l0.eq_2 ..) (evn (by omega) (evs (by rw [List.drop_of_length_le (show l.length ≤ i by omega)]; rfl)))
 | succ d ih =>
  intro i hi
  refine Ev.step (fun k => spec_l2Numbers.l0.eq_2 ..) (evp (by omega) (evp (by omega) ?_))
  rw [w64s i (by omega), rd_nat, w64 (x := -b) (by omega) (by omega), zx, List.drop_eq_getElem_cons (show i < l.length by omega)]
  simp only [List.getD_eq_getElem?_getD, List.getElem?_eq_getElem (show i < l.length by omega), Option.getD_some, Option.bind_some, inB, List.all_cons]
  by_cases e : -b ≤ l[i] ∧ l[i] ≤ b
  · exact evp (by simpa using e) (evr (ih (i + 1) (by omega)) (by rw [decide_eq_true e]; rfl))
  · exact evn (by simpa using e) (evs (by rw [decide_eq_false e]; rfl))
theorem jA (l : List Int) (b : Int) (hb : 0 ≤ b ∧ b ≤ 1000000000) (hx : l.length < 4611686018427387904) : Ev (fun k => spec_l2Numbers.f k l b) (inB (-b) b l) := by
 unfold spec_l2Numbers.f
 exact qs l b hb hx l.length 0 (by omega)
theorem zY (l : List Int) (b : Int) (hl : l.length < 4611686018427387904) : Ev (fun k => spec_l2Plane.f k l b) (planeB l b) := by
 unfold spec_l2Plane.f planeB
 rw [zx, zx]; simp only [Option.bind_some]
 by_cases e : 1 ≤ l.length ∧ l.length ≤ 4
 ·
  refine evp (by simp; omega) (evb (jA l 99 (by omega) hl) ?_)
  rw [decide_eq_true e, Bool.true_and]
  by_cases e' : inB (-99) 99 l = true
  · exact evp e' (evs (by rw [e', Bool.true_and]))
  · exact evn e' (evs (by rw [Bool.eq_false_iff.2 e']; rfl))
 · exact evn (by simp; omega) (evs (by rw [decide_eq_false e]; rfl))
theorem kd (l : List Int) (b : Int) (hl : l.length < 4611686018427387904) : Ev (fun k => impl_IsPlane.f k l b) (planeB l b) := by
 unfold impl_IsPlane.f planeB
 rw [zH, zH]; simp only [Option.bind_some]
 by_cases e : 1 ≤ l.length ∧ l.length ≤ 4
 ·
  refine evp (by simp; omega) (evb (zz l (-99) 99 hl) ?_)
  rw [decide_eq_true e, Bool.true_and]
  by_cases e' : inB (-99) 99 l = true
  · exact evp e' (evs (by rw [e', Bool.true_and]))
  · exact evn e' (evs (by rw [Bool.eq_false_iff.2 e']; rfl))
 · exact evn (by simp; omega) (evs (by rw [decide_eq_false e]; rfl))
theorem jB (l : List Int) (b : Int) (hl : l.length < 4611686018427387904) : Ev (fun k => impl_PlaneTable.f k l b) (planeTab l b) := by
 unfold impl_PlaneTable.f planeTab
 refine evb (kd l b hl) ?_
 by_cases e : planeB l b = true
 ·
  have h := (planeB_iff l b).1 e
  exact evp e (evb (kK l b h.1.2 99 (by omega) h.2.1) (evs (by rw [if_pos e])))
 · exact evn e (evs (by rw [if_neg e]))
theorem ke (r : List Int) (hr : r.length ≤ 1048576) : Ev (fun k => impl_IsPoint.f k r) (pointB r) := by
 unfold impl_IsPoint.f pointB
 rw [zH]; simp only [Option.bind_some]
 by_cases e : 1 ≤ r.length ∧ r.length ≤ 4
 ·
  refine evp (by simp; omega) (evb (zz r (-9) 9 (by omega)) (evs ?_))
  rw [decide_eq_true e, Bool.true_and]; rfl
 · exact evn (by simp; omega) (evs (by rw [decide_eq_false e, Bool.false_and]))
theorem kE (l : List (List Int)) (i : Nat) : rd_L2 l (i : Int) = rdl l i := by simp [rd_L2, rdl]
theorem qt (p : List (List Int)) (y : List Int) (hx : p.length ≤ 1048576) (hr : ∀ r ∈ p, (r.length : Int) ≤ 1048576) (hy : y.length = p.length) : ∀ (d i : Nat), i + d = p.length →
  Ev (fun k => impl_IsSample.l0 k p (p.length : Int) (i : Int) p y) ((List.range' i d).all fun i => spok p i && lab1 (y.getD i 0)) := by
 intro d
 induction d with
 | zero =>
  intro i hi
  exact Ev.step (fun k => impl_IsSample.l0.eq_2 ..) (evn (by omega) (evs (by simp)))
 | succ d ih =>
  intro i hi
  have hri := hr _ (rdl_mem p i (by omega))
  refine Ev.step (fun k => impl_IsSample.l0.eq_2 ..) (evp (by omega) (evp (by omega) (evp (by omega) ?_)))
  rw [kE, show rd_L2 p 0 = rdl p 0 from kE p 0, List.range'_succ, List.all_cons]
  refine evb (ke _ (by omega)) ?_
  by_cases e1 : pointB (rdl p i) = true
  ·
   refine evp e1 (evp (by omega) ?_)
   by_cases e2 : (rdl p i).length = (rdl p 0).length
   ·
    refine evp (by omega) (evp (by omega) ?_)
    rw [rd_nat, kJ]; simp only [Option.bind_some]
    by_cases e3 : lab1 (y.getD i 0) = true
    ·
     refine evp e3 ?_
     rw [w64s i (by omega)]
     refine evr (ih (i + 1) (by omega)) ?_
     rw [show (spok p i && lab1 (y.getD i 0)) = true by unfold spok; rw [e1, decide_eq_true e2, e3]; rfl]; rfl
    ·
     refine evn e3 (evs ?_)
     rw [Bool.eq_false_iff.2 e3, Bool.and_false]; rfl
   ·
    refine evn (by omega) (evs ?_)
    rw [show spok p i = false by unfold spok; rw [decide_eq_false e2, Bool.and_false]]; rfl
  ·
   refine evn e1 (evs ?_)
   rw [show spok p i = false by unfold spok; rw [Bool.eq_false_iff.2 e1]; rfl]; rfl
theorem jC (p : List (List Int)) (y : List Int) (hx : p.length ≤ 1048576) (hr : ∀ r ∈ p, (r.length : Int) ≤ 1048576) : Ev (fun k => impl_IsSample.f k p y) (sampB p y) := by
 unfold impl_IsSample.f sampB
 have no : ∀ b, b = false → Ev (fun k => impl_IsSample.j0 k true p y) b := fun b e => Ev.step (fun k => impl_IsSample.j0.eq_2 ..) (evp rfl (evs e.symm))
 by_cases e1 : p.length ≤ 16
 ·
  refine evn (by omega) ?_
  by_cases e2 : y.length = p.length
  ·
   refine Ev.step (fun k => impl_IsSample.j0.eq_2 ..) (evn (by simp [e2]) (evr (qt p y hx hr e2 p.length 0 (by omega)) ?_))
   rw [decide_eq_true e1, decide_eq_true e2, ← List.range_eq_range', all_both, labB_range, e2, Bool.true_and, Bool.true_and, Bool.and_comm]
  ·
   rw [show ((y.length : Int) != (p.length : Int)) = true by simp; omega]
   exact no _ (by simp [e2])
 · exact evp (by omega) (no _ (by simp [e1]))
theorem jm (l : List (List Int)) (i : Nat) : rd_L2 l (i : Int) = rdl l i := by simp [rd_L2, rdl]
theorem qu (n i : Nat) (L : List (List Int)) (hL : ∀ v ∈ L, v.length ≤ 8) (hLL : L.length ≤ 100000) (j : Nat) (hj : j < L.length) (R : List (List Int)) : ∀ (d : Nat) (x : Int) (out : List (List Int)), x + d = 4 → -3 ≤ x → out.length ≤ 1000000 + (7 - d) →
  Ev (fun k => spec_l5Weights.l1 k (n : Int) L (i : Int) (out ++ (List.range d).map fun e : Nat => rdl L j ++ [x + (e : Int)]) (((j + 1 : Nat) : Int))) R → Ev (fun k => spec_l5Weights.l2 k (n : Int) L (i : Int) out (j : Int) x) R := by
 intro d
 induction d with
 | zero =>
  intro x out hx _ _ h
  refine Ev.step (fun k => spec_l5Weights.l2.eq_2 ..) (evn (by omega) ?_)
  rw [w64s j (by omega)]
  simpa using h
 | succ d ih =>
  intro x out hx h3 ho h
  have hv := hL _ (rdl_mem L j hj)
  refine Ev.step (fun k => spec_l5Weights.l2.eq_2 ..) (evp (by omega) (evp (by omega) (evp (by omega) ?_)))
  rw [jm]
  refine evb (evc (zU0 _ (by omega))) (evp (by omega) (evp (by omega) ?_))
  rw [w64 (x := x + 1) (by omega) (by omega)]
  refine ih (x + 1) _ (by omega) (by omega) (by simp; omega) ?_
  rw [List.range_succ_eq_map] at h
  simpa [Function.comp_def, Int.add_assoc, Int.add_comm 1] using h
theorem qv (n i : Nat) (L : List (List Int)) (hi : i < 4611686018427387904) (hL : ∀ v ∈ L, v.length ≤ 8) (hLL : L.length ≤ 100000) (R : List (List Int)) : ∀ (d j : Nat) (out : List (List Int)), j + d = L.length → out.length = j * 7 →
  Ev (fun k => spec_l5Weights.l0 k (n : Int) (out ++ wlong 3 (L.drop j)) (((i + 1 : Nat) : Int))) R → Ev (fun k => spec_l5Weights.l1 k (n : Int) L (i : Int) out (j : Int)) R := by
 intro d
 induction d with
 | zero =>
  intro j out hj _ h
  refine Ev.step (fun k => spec_l5Weights.l1.eq_2 ..) (evn (by omega) ?_)
  rw [w64s i (by omega)]
  rw [List.drop_of_length_le (show L.length ≤ j by omega)] at h
  simpa [wlong] using h
 | succ d ih =>
  intro j out hj ho h
  refine Ev.step (fun k => spec_l5Weights.l1.eq_2 ..) (evp (by omega) ?_)
  refine qu n i L hL hLL j (by omega) R 7 (-3) out (by omega) (by omega) (by omega) ?_
  refine ih (j + 1) _ (by omega) (by simp; omega) ?_
  rw [rdl_drop L j (by omega)] at h
  have e : wlong 3 (rdl L j :: L.drop (j + 1)) = ((List.range 7).map fun e : Nat => rdl L j ++ [(-3 : Int) + (e : Int)]) ++ wlong 3 (L.drop (j + 1)) := by
   simp only [wlong, List.flatMap_cons]
   congr 1
  rw [e, ← List.append_assoc] at h
  exact h
theorem qf (i : Nat) (h : i ≤ 4) : (wts 3 i).length ≤ 100000 := by
 rw [wts_length]
 have : (2 * 3 + 1) ^ i ≤ (2 * 3 + 1) ^ 4 := Nat.pow_le_pow_right (by decide) h
 omega
theorem qw (n : Nat) (hn : n ≤ 4) : ∀ (d i : Nat), i + d = n → Ev (fun k => spec_l5Weights.l0 k (n : Int) (wts 3 i) (i : Int)) (wts 3 n) := by
 intro d
 induction d with
 | zero =>
  intro i hi
  refine Ev.step (fun k => spec_l5Weights.l0.eq_2 ..) (evn (by omega) (evs ?_))
  rw [show i = n by omega]
 | succ d ih =>
  intro i hi
  refine Ev.step (fun k => spec_l5Weights.l0.eq_2 ..) (evp (by omega) ?_)
  refine qv n i (wts 3 i) (by omega) (fun v hv => by rw [wts_len 3 i v hv]; omega) (qf i (by omega)) _ (wts 3 i).length 0 [] (by omega) rfl ?_
  rw [List.drop_zero, List.nil_append, wts_long]
  exact ih (i + 1) (by omega)
theorem jD (n : Nat) (hn : n ≤ 4) : Ev (fun k => spec_l5Weights.f k (n : Int)) (wts 3 n) := by
 unfold spec_l5Weights.f
 exact qw n hn n 0 (by omega)
theorem jE (l : List Int) (hb : ∀ x ∈ l, -9 ≤ x ∧ x ≤ 9) (hl : l.length ≤ 8) : ∀ (d i : Nat), i + d = l.length → Ev (fun k => spec_l5Size.l0 k l (impl_leastPlane.sz (l.take i)) (i : Int)) (impl_leastPlane.sz l) := by
 intro d
 induction d with
 | zero =>
  intro i hi
  refine Ev.step (fun k => spec_l5Size.l0.eq_2 ..) (evn (by omega) (evs ?_))
  rw [List.take_of_length_le (by omega)]
 | succ d ih =>
  intro i hi
  have hs := impl_leastPlane.sz_bd 9 (l.take i) (fun x hx => hb x (List.mem_of_mem_take hx))
  rw [List.length_take] at hs
  have hx := hb (l.getD i 0) (by rw [List.getD_eq_getElem?_getD, List.getElem?_eq_getElem (by omega)]; exact List.getElem_mem _)
  refine Ev.step (fun k => spec_l5Size.l0.eq_2 ..) (evp (by omega) (evp (by omega) ?_))
  rw [rd_nat, w64s i (by omega), w64 (x := -l.getD i 0) (by omega) (by omega)]
  have hm : spec_l1Most.f (l.getD i 0) (-l.getD i 0) = some (impl_leastPlane.ab (l.getD i 0)) := by
   unfold spec_l1Most.f impl_leastPlane.ab
   by_cases c : l.getD i 0 < -l.getD i 0
   · rw [if_pos c, if_neg (by omega)]
   ·
    rw [if_neg c]
    by_cases c' : l.getD i 0 > -l.getD i 0
    · rw [if_pos c']
    · rw [if_neg c', show -l.getD i 0 = l.getD i 0 by omega]
  refine evb (evc hm) ?_
  have ha : 0 ≤ impl_leastPlane.ab (l.getD i 0) ∧ impl_leastPlane.ab (l.getD i 0) ≤ 9 := by
   unfold impl_leastPlane.ab
   split <;> omega
  rw [w64 (by omega) (by omega), ← impl_leastPlane.sz_take l i (by omega)]
  exact ih (i + 1) (by omega)
theorem qx (l : List Int) (hb : ∀ x ∈ l, -9 ≤ x ∧ x ≤ 9) (hl : l.length ≤ 8) : Ev (fun k => spec_l5Size.f k l) (impl_leastPlane.sz l) := by
 unfold spec_l5Size.f
 exact jE l hb hl l.length 0 (by omega)
def zc (n : Nat) (w : List Int) : List Int := (List.range (2 ^ n)).map fun k => dot w (bitPt n k)
theorem zK (n : Nat) (w : List Int) : (zc n w).length = 2 ^ n := by simp [zc]
theorem zn (n : Nat) (w : List Int) (k : Nat) (h : k < 2 ^ n) : (zc n w).getD k 0 = dot w (bitPt n k) := by simp [zc, List.getD_eq_getElem?_getD, h]
theorem zL (n : Nat) (w : List Int) (hn : n ≤ 4) (hw : ∀ x ∈ w, -9 ≤ x ∧ x ≤ 9) (hl : w.length = n) (k : Nat) : -36 ≤ dot w (bitPt n k) ∧ dot w (bitPt n k) ≤ 36 := by
 have := dot_bd 9 1 (by omega) (by omega) w (bitPt n k) hw (bitPt_in n k)
 omega
theorem ql (n : Nat) (hn : n ≤ 4) (w : List Int) (hw : ∀ x ∈ w, -9 ≤ x ∧ x ≤ 9) (hl : w.length = n) : ∀ (d c : Nat) (out : List Int), c + d = 2 ^ n → out.length = c →
  Ev (fun k => impl_productsOf.l0 k (n : Int) w out ((2 ^ n : Nat) : Int) (c : Int)) (out ++ (List.range' c d).map fun k => dot w (bitPt n k)) := by
 have hp := pow4 n hn
 intro d
 induction d with
 | zero =>
  intro c out hc ho
  exact Ev.step (fun k => impl_productsOf.l0.eq_2 ..) (evn (by omega) (evs (by simp)))
 | succ d ih =>
  intro c out hc ho
  refine Ev.step (fun k => impl_productsOf.l0.eq_2 ..) (evp (by omega) ?_)
  rw [w64s c (by omega)]
  refine evb (zQ n c (by omega) (by omega)) (evb (jb w _ 9 1 (by omega) (by omega) hw (bitPt_in n c) (by omega) (by rw [bitPt_len]; omega)) (evp (by omega) ?_))
  refine evr (ih (c + 1) _ (by omega) (by simp; omega)) ?_
  simp [List.range'_succ]
theorem jn (n : Nat) (hn : n ≤ 4) (w : List Int) (hw : ∀ x ∈ w, -9 ≤ x ∧ x ≤ 9) (hl : w.length = n) : Ev (fun k => impl_productsOf.f k (n : Int) w) (zc n w) := by
 unfold impl_productsOf.f zc
 have hp := pow4 n hn
 refine evp (by omega) ?_
 rw [shl1 n (by omega)]
 refine evr (ql n hn w hw hl (2 ^ n) 0 [] (by omega) rfl) ?_
 rw [List.range_eq_range']; rfl
def gp (t p : List Int) : Nat → Int × Int
 | 0 => (1000000000, -1000000000)
 | i + 1 => if t.getD i 0 = 1 then (mn (gp t p i).1 (p.getD i 0), (gp t p i).2) else ((gp t p i).1, mx (gp t p i).2 (p.getD i 0))
theorem zk0 (t p : List Int) (hl : t.length = p.length) (hx : t.length ≤ 1048576) : ∀ (d i : Nat), i + d = t.length → Ev (fun k => impl_gap.l0 k p (gp t p i).1 (gp t p i).2 t (t.length : Int) (i : Int)) (gp t p t.length) := by
 intro d
 induction d with
 | zero =>
  intro i hi
  refine Ev.step (fun k => impl_gap.l0.eq_2 ..) (evn (by omega) (evs ?_))
  rw [show i = t.length by omega]
 | succ d ih =>
  intro i hi
  have h := ih (i + 1) (by omega)
  simp only [gp] at h
  refine Ev.step (fun k => impl_gap.l0.eq_2 ..) (evp (by omega) (evp (by omega) (evp (by omega) ?_)))
  rw [rd_nat, rd_nat, w64s i (by omega)]
  by_cases e : t.getD i 0 = 1
  ·
   rw [if_pos e] at h
   exact evp e (evp (by omega) h)
  ·
   rw [if_neg e] at h
   exact evn e (evp (by omega) h)
theorem gap (t p : List Int) (hl : t.length = p.length) (hx : t.length ≤ 1048576) : Ev (fun k => impl_gap.f k t p) (gp t p t.length) := by
 unfold impl_gap.f
 exact zk0 t p hl hx t.length 0 (by omega)
theorem kF (t p : List Int) (B : Int) (hB : 0 ≤ B ∧ B ≤ 100000) (hp : ∀ i, -B ≤ p.getD i 0 ∧ p.getD i 0 ≤ B) : ∀ i, ((gp t p i).1 = 1000000000 ∨ -B ≤ (gp t p i).1 ∧ (gp t p i).1 ≤ B) ∧ ((gp t p i).2 = -1000000000 ∨ -B ≤ (gp t p i).2 ∧ (gp t p i).2 ≤ B) := by
 intro i
 induction i with
 | zero => exact ⟨.inl rfl, .inl rfl⟩
 | succ i ih =>
  have := hp i
  simp only [gp, mn, mx]
  split
  ·
   refine ⟨.inr ?_, ih.2⟩
   simp only
   split <;> omega
  ·
   refine ⟨ih.1, .inr ?_⟩
   simp only
   split <;> omega
def qm (x : Int) (c : Nat) (i : Nat) (v : Int) : Prop := (c = 0 ∧ x = 1000000000) ∨ (0 < c ∧ c ≤ i ∧ x = v ∧ -36 ≤ v ∧ v ≤ 36)
def qo (x : Int) (c : Nat) (i : Nat) (v : Int) : Prop := (c = 0 ∧ x = -1000000000) ∨ (0 < c ∧ c ≤ i ∧ x = v ∧ -36 ≤ v ∧ v ≤ 36)
theorem jo (n : Nat) (hn : n ≤ 4) (t w : List Int) (ht : t.length = 2 ^ n) (hw : ∀ x ∈ w, -9 ≤ x ∧ x ≤ 9) (hl : w.length = n) : ∀ (d i a b : Nat) (x y : Int), i + d = t.length → qm (gp t (zc n w) i).1 a i x → qo (gp t (zc n w) i).2 b i y →
  ∃ x' y' : Int, Ev (fun k => spec_l5Parts.l0 k (n : Int) t w (a : Int) (b : Int) x y (i : Int)) (x', y', decide ((gp t (zc n w) t.length).1 > (gp t (zc n w) t.length).2)) ∧
   ((gp t (zc n w) t.length).1 = 1000000000 ∨ (gp t (zc n w) t.length).1 = x') ∧ ((gp t (zc n w) t.length).2 = -1000000000 ∨ (gp t (zc n w) t.length).2 = y') := by
 have hp := pow4 n hn
 intro d
 induction d with
 | zero =>
  intro i a b x y hi h1 h0
  rw [show i = t.length by omega] at h1 h0
  refine ⟨x, y, Ev.step (fun k => spec_l5Parts.l0.eq_2 ..) (evn (by omega) ?_), ?_, ?_⟩
  ·
   rcases h1 with ⟨rfl, e1⟩ | ⟨c1, c2, e1, b1⟩
   ·
    refine evp (by omega) (evs ?_)
    rw [e1, decide_eq_true]
    rcases h0 with ⟨_, e0⟩ | ⟨_, _, e0, b0⟩ <;> omega
   ·
    refine evn (by omega) ?_
    rcases h0 with ⟨rfl, e0⟩ | ⟨d1, d2, e0, b0⟩
    ·
     refine evp (by omega) (evs ?_)
     rw [e0, decide_eq_true]; omega
    · exact evn (by omega) (evs (by rw [e1, e0]))
  ·
   rcases h1 with ⟨_, e1⟩ | ⟨_, _, e1, _⟩
   · exact .inl e1
   · exact .inr e1
  ·
   rcases h0 with ⟨_, e0⟩ | ⟨_, _, e0, _⟩
   · exact .inl e0
   · exact .inr e0
 | succ d ih =>
  intro i a b x y hi h1 h0
  have hd := zL n w hn hw hl i
  have hpi := zn n w i (by omega)
  have go : ∀ (a' b' : Nat) (x' y' : Int), qm (gp t (zc n w) (i + 1)).1 a' (i + 1) x' → qo (gp t (zc n w) (i + 1)).2 b' (i + 1) y' → Ev (fun k => spec_l5Parts.l0 k (n : Int) t w (a' : Int) (b' : Int) x' y' ((i + 1 : Nat) : Int)) = Ev (fun k => spec_l5Parts.l0 k (n : Int) t w (a' : Int) (b' : Int) x' y' ((i + 1 : Nat) : Int)) := fun _ _ _ _ _ _ => rfl
  have up1 : ∀ (c : Nat) (v : Int) (z : Int), qm z c i v → qm z c (i + 1) v := fun c v z h => by rcases h with h | ⟨q1, q2, q3⟩; exact .inl h; exact .inr ⟨q1, by omega, q3⟩
  have up0 : ∀ (c : Nat) (v : Int) (z : Int), qo z c i v → qo z c (i + 1) v := fun c v z h => by rcases h with h | ⟨q1, q2, q3⟩; exact .inl h; exact .inr ⟨q1, by omega, q3⟩
  have pre : ∀ (R : Int × Int × Bool), Ev (fun k => if t.getD i 0 = 1 then (if (a : Int) = 0 then (spec_l5Parts.l0 k (n : Int) t w (((a + 1 : Nat) : Int)) (b : Int) (dot w (bitPt n i)) y (((i + 1 : Nat) : Int))) else (if dot w (bitPt n i) < x then (spec_l5Parts.l0 k (n : Int) t w (((a + 1 : Nat) : Int)) (b : Int) (dot w (bitPt n i)) y (((i + 1 : Nat) : Int))) else (spec_l5Parts.l0 k (n : Int) t w (((a + 1 : Nat) : Int)) (b : Int) x y (((i + 1 : Nat) : Int))))) else (if (b : Int) = 0 then (spec_l5Parts.l0 k (n : Int) t w (a : Int) (((b + 1 : Nat) : Int)) x (dot w (bitPt n i)) (((i + 1 : Nat) : Int))) else (if dot w (bitPt n i) > y then (spec_l5Parts.l0 k (n : Int) t w (a : Int) (((b + 1 : Nat) : Int)) x (dot w (bitPt n i)) (((i + 1 : Nat) : Int))) else (spec_l5Parts.l0 k (n : Int) t w (a : Int) (((b + 1 : Nat) : Int)) x y (((i + 1 : Nat) : Int)))))) R → Ev (fun k => spec_l5Parts.l0 k (n : Int) t w (a : Int) (b : Int) x y (i : Int)) R := by
   intro R h
   have ha : a ≤ i := by rcases h1 with ⟨e, _⟩ | ⟨_, e, _⟩ <;> omega
   have hb : b ≤ i := by rcases h0 with ⟨e, _⟩ | ⟨_, e, _⟩ <;> omega
   refine Ev.step (fun k => spec_l5Parts.l0.eq_2 ..) (evp (by omega) (evb (zT n i (by omega) (by omega)) (evb (kD w _ 9 1 (by omega) (by omega) hw (bitPt_in n i) (by omega) (by rw [bitPt_len]; omega)) (evp (by omega) ?_))))
   rw [rd_nat, w64s i (by omega), w64s a (by omega), w64s b (by omega)]
   exact h
  by_cases e : t.getD i 0 = 1
  ·
   have hg1 : (gp t (zc n w) (i + 1)).1 = mn (gp t (zc n w) i).1 (dot w (bitPt n i)) := by simp only [gp, if_pos e, hpi]
   have hg2 : (gp t (zc n w) (i + 1)).2 = (gp t (zc n w) i).2 := by simp only [gp, if_pos e]
   rcases h1 with ⟨rfl, e1⟩ | ⟨c1, c2, e1, b1⟩
   ·
    obtain ⟨x', y', he, h⟩ := ih (i + 1) (0 + 1) b (dot w (bitPt n i)) y (by omega) (by rw [hg1, e1]; refine .inr ⟨by omega, by omega, ?_, hd⟩; unfold mn; rw [if_pos (by omega)]) (by rw [hg2]; exact up0 _ _ _ h0)
    exact ⟨x', y', pre _ (evp e (evp (by omega) he)), h⟩
   ·
    by_cases c : dot w (bitPt n i) < x
    ·
     obtain ⟨x', y', he, h⟩ := ih (i + 1) (a + 1) b (dot w (bitPt n i)) y (by omega) (by rw [hg1, e1]; refine .inr ⟨by omega, by omega, ?_, hd⟩; unfold mn; rw [if_pos c]) (by rw [hg2]; exact up0 _ _ _ h0)
     exact ⟨x', y', pre _ (evp e (evn (by omega) (evp c he))), h⟩
    ·
     obtain ⟨x', y', he, h⟩ := ih (i + 1) (a + 1) b x y (by omega) (by rw [hg1, e1]; refine .inr ⟨by omega, by omega, ?_, b1⟩; unfold mn; rw [if_neg c]) (by rw [hg2]; exact up0 _ _ _ h0)
     exact ⟨x', y', pre _ (evp e (evn (by omega) (evn c he))), h⟩
  ·
   have hg1 : (gp t (zc n w) (i + 1)).1 = (gp t (zc n w) i).1 := by simp only [gp, if_neg e]
   have hg2 : (gp t (zc n w) (i + 1)).2 = mx (gp t (zc n w) i).2 (dot w (bitPt n i)) := by simp only [gp, if_neg e, hpi]
   rcases h0 with ⟨rfl, e0⟩ | ⟨c1, c2, e0, b0⟩
   ·
    obtain ⟨x', y', he, h⟩ := ih (i + 1) a (0 + 1) x (dot w (bitPt n i)) (by omega) (by rw [hg1]; exact up1 _ _ _ h1) (by rw [hg2, e0]; refine .inr ⟨by omega, by omega, ?_, hd⟩; unfold mx; rw [if_pos (by omega)])
    exact ⟨x', y', pre _ (evn e (evp (by omega) he)), h⟩
   ·
    by_cases c : dot w (bitPt n i) > y
    ·
     obtain ⟨x', y', he, h⟩ := ih (i + 1) a (b + 1) x (dot w (bitPt n i)) (by omega) (by rw [hg1]; exact up1 _ _ _ h1) (by rw [hg2, e0]; refine .inr ⟨by omega, by omega, ?_, hd⟩; unfold mx; rw [if_pos (by omega)])
     exact ⟨x', y', pre _ (evn e (evn (by omega) (evp c he))), h⟩
    ·
     obtain ⟨x', y', he, h⟩ := ih (i + 1) a (b + 1) x y (by omega) (by rw [hg1]; exact up1 _ _ _ h1) (by rw [hg2, e0]; refine .inr ⟨by omega, by omega, ?_, b0⟩; unfold mx; rw [if_neg (by omega)])
     exact ⟨x', y', pre _ (evn e (evn (by omega) (evn c he))), h⟩
def gpv (n : Nat) (t w : List Int) : Int × Int := gp t (zc n w) t.length
theorem jc (n : Nat) (hn : n ≤ 4) (t w : List Int) (ht : t.length = 2 ^ n) (hw : ∀ x ∈ w, -9 ≤ x ∧ x ≤ 9) (hl : w.length = n) : ∃ x' y' : Int, Ev (fun k => spec_l5Parts.f k (n : Int) t w) (x', y', decide ((gpv n t w).1 > (gpv n t w).2)) ∧ ((gpv n t w).1 = 1000000000 ∨ (gpv n t w).1 = x') ∧ ((gpv n t w).2 = -1000000000 ∨ (gpv n t w).2 = y') := by
 unfold spec_l5Parts.f
 exact jo n hn t w ht hw hl t.length 0 0 0 0 0 (by omega) (.inl ⟨rfl, rfl⟩) (.inl ⟨rfl, rfl⟩)
def zd (n : Nat) (t : List Int) (o : Option (List Int)) (v : List Int) : Option (List Int) :=
 if (o.all fun b => decide (impl_leastPlane.sz v < impl_leastPlane.sz b)) && decide ((gpv n t v).1 > (gpv n t v).2) then some v else o
def lp (n : Nat) (t : List Int) : Option (List Int) := (wts 3 n).foldl (zd n t) none
def bnd (n : Nat) (t v : List Int) : Int := if (gpv n t v).1 = 1000000000 then (gpv n t v).2 + 1 else (gpv n t v).1
def lpS (n : Nat) (t : List Int) : Option (List Int) → List Int × Int × Int
 | none => ([], 0, 1000000000)
 | some v => (v, bnd n t v, impl_leastPlane.sz v)
def okw (n : Nat) (v : List Int) : Prop := v.length = n ∧ ∀ x ∈ v, -9 ≤ x ∧ x ≤ 9
theorem jF {n : Nat} {v : List Int} (hn : n ≤ 4) (h : okw n v) : 0 ≤ impl_leastPlane.sz v ∧ impl_leastPlane.sz v ≤ 36 := by
 have := impl_leastPlane.sz_bd 9 v h.2
 have := h.1
 omega
theorem zZ (n : Nat) : ∀ v ∈ wts 3 n, okw n v := fun v hv => ⟨wts_len 3 n v hv, fun x hx => by have := wts_bd 3 n v hv x hx; omega⟩
theorem qy {n : Nat} {t : List Int} {o : Option (List Int)} {v : List Int} (ho : ∀ b, o = some b → okw n b) (hv : okw n v) : ∀ b, zd n t o v = some b → okw n b := by
 intro b h
 unfold zd at h
 split at h
 · cases h; exact hv
 · exact ho b h
theorem qz {n : Nat} (hn : n ≤ 4) {t v : List Int} (hv : okw n v) : ((gpv n t v).1 = 1000000000 ∨ -36 ≤ (gpv n t v).1 ∧ (gpv n t v).1 ≤ 36) ∧ ((gpv n t v).2 = -1000000000 ∨ -36 ≤ (gpv n t v).2 ∧ (gpv n t v).2 ≤ 36) := by
 refine kF t (zc n v) 36 (by omega) (fun i => ?_) t.length
 by_cases h : i < 2 ^ n
 · rw [zn n v i h]; exact zL n v hn hv.2 hv.1 i
 · rw [List.getD_eq_getElem?_getD, List.getElem?_eq_none (by rw [zK]; omega)]; simp
theorem jG (n : Nat) (hn : n ≤ 4) (t : List Int) (ht : t.length = 2 ^ n) (o : Option (List Int)) (v : List Int) (ho : ∀ b, o = some b → okw n b) (hv : okw n v) :
  Ev (fun k => impl_leastPlane.step k t (n : Int) (lpS n t o) v) (lpS n t (zd n t o v)) := by
 have hp := pow4 n hn
 have hz := jF hn hv
 have hg := qz (t := t) hn hv
 unfold impl_leastPlane.step zd
 by_cases c : impl_leastPlane.sz v ≥ (lpS n t o).2.2
 ·
  refine evp c (evs ?_)
  cases o with
  | none => simp only [lpS] at c; omega
  | some b =>
   simp only [lpS] at c
   rw [show (Option.all (fun b => decide (impl_leastPlane.sz v < impl_leastPlane.sz b)) (some b)) = false by simp; omega, Bool.false_and]; rfl
 ·
  refine evn c (evb (jn n hn v hv.2 hv.1) (evb (gap t _ (by rw [zK, ht]) (by omega)) ?_))
  have ha : (o.all fun b => decide (impl_leastPlane.sz v < impl_leastPlane.sz b)) = true := by
   cases o with
   | none => rfl
   | some b => simp only [lpS] at c; simp; omega
  rw [ha, Bool.true_and]
  show Ev (fun k => if (gpv n t v).1 ≤ (gpv n t v).2 then _ else _) _
  by_cases c2 : (gpv n t v).1 ≤ (gpv n t v).2
  · exact evp c2 (evs (by rw [decide_eq_false (by omega)]; rfl))
  refine evn c2 (evb (evc (zi0 v (by have := hv.1; omega))) (evs ?_))
  rw [decide_eq_true (by omega), if_pos rfl]
  show (v, (if (gpv n t v).1 = 1000000000 then wrap64 ((gpv n t v).2 + 1) else (gpv n t v).1), impl_leastPlane.sz v) = (v, bnd n t v, impl_leastPlane.sz v)
  unfold bnd
  by_cases c3 : (gpv n t v).1 = 1000000000
  rotate_left
  · rw [if_neg c3, if_neg c3]
  rw [if_pos c3, if_pos c3, w64 (by omega) (by omega)]
theorem jH (n : Nat) (hn : n ≤ 4) (t : List Int) (ht : t.length = 2 ^ n) : ∀ (L : List (List Int)) (o : Option (List Int)), (∀ v ∈ L, okw n v) → (∀ b, o = some b → okw n b) →
  Ev (fun k => L.foldlM (impl_leastPlane.step k t (n : Int)) (lpS n t o)) (lpS n t (L.foldl (zd n t) o)) := by
 intro L
 induction L with
 | nil => intro o _ _; exact evs rfl
 | cons v L ih =>
  intro o hL ho
  simp only [List.foldlM_cons, List.foldl_cons]
  exact evb (jG n hn t ht o v ho (hL v (by simp))) (ih _ (fun x hx => hL x (by simp [hx])) (qy ho (hL v (by simp))))
theorem kf (n : Nat) (t : List Int) : ∀ (L : List (List Int)) (o : Option (List Int)), (∀ v ∈ L, okw n v) → (∀ b, o = some b → okw n b) → ∀ b, L.foldl (zd n t) o = some b → okw n b := by
 intro L
 induction L with
 | nil => intro o _ ho; exact ho
 | cons v L ih => intro o hL ho; exact ih _ (fun x hx => hL x (by simp [hx])) (qy ho (hL v (by simp)))
theorem zv (n : Nat) (t : List Int) : ∀ b, lp n t = some b → okw n b := kf n t _ _ (zZ n) (fun b h => by cases h)
theorem zE (n : Nat) (hn : n ≤ 4) (t : List Int) (ht : t.length = 2 ^ n) : Ev (fun k => impl_leastPlane.f k (n : Int) t) ((lpS n t (lp n t)).1, (lpS n t (lp n t)).2.1, (lpS n t (lp n t)).2.2, (lp n t).isSome) := by
 unfold impl_leastPlane.f
 refine evp (by omega) ?_
 rw [Int.toNat_natCast]
 refine evb (jH n hn t ht (wts 3 n) none (zZ n) (fun b h => by cases h)) (evs ?_)
 show ((lpS n t (lp n t)).1, (lpS n t (lp n t)).2.1, (lpS n t (lp n t)).2.2, _) = _
 have : decide ((lpS n t (lp n t)).2.2 < 1000000000) = (lp n t).isSome := by
  cases h : lp n t with
  | none => simp [lpS]
  | some v => have := jF hn (zv n t v h); exact decide_eq_true (show impl_leastPlane.sz v < 1000000000 by omega)
 exact congrArg (fun b => ((lpS n t (lp n t)).1, (lpS n t (lp n t)).2.1, (lpS n t (lp n t)).2.2, b)) this
theorem zl {n : Int} {l : List Int} (h : isTab n l = true) : ∃ m : Nat, n = m ∧ m ≤ 4 ∧ l.length = 2 ^ m ∧ l.length ≤ 16 := by
 obtain ⟨h1, h2, _⟩ := (isTab_iff n l).1 h
 refine ⟨n.toNat, by omega, by omega, h2, ?_⟩
 have := pow4 n.toNat (by omega)
 omega
theorem jp (n : Nat) (hn : n ≤ 4) (t : List Int) (ht : t.length = 2 ^ n) (L : List (List Int)) (hL : ∀ v ∈ L, okw n v) (hLL : L.length ≤ 100000) : ∀ (d i : Nat) (o : Option (List Int)), i + d = L.length → (∀ b, o = some b → okw n b) →
  Ev (fun k => spec_l5Least.l0 k (n : Int) t L (o.getD []) o.isSome (i : Int)) (((L.drop i).foldl (zd n t) o).getD [], ((L.drop i).foldl (zd n t) o).isSome) := by
 intro d
 induction d with
 | zero =>
  intro i o hi ho
  refine Ev.step (fun k => spec_l5Least.l0.eq_2 ..) (evn (by omega) (evs ?_))
  rw [List.drop_of_length_le (show L.length ≤ i by omega)]; rfl
 | succ d ih =>
  intro i o hi ho
  have hv := hL _ (rdl_mem L i (by omega))
  rw [rdl_drop L i (by omega), List.foldl_cons]
  have skip : zd n t o (rdl L i) = o → Ev (fun k => spec_l5Least.l0 k (n : Int) t L (o.getD []) o.isSome (((i + 1 : Nat) : Int))) (((L.drop (i + 1)).foldl (zd n t) (zd n t o (rdl L i))).getD [], ((L.drop (i + 1)).foldl (zd n t) (zd n t o (rdl L i))).isSome) := fun e => by
   rw [e]; exact ih (i + 1) o (by omega) ho
  have take : zd n t o (rdl L i) = some (rdl L i) → Ev (fun k => spec_l5Least.l0 k (n : Int) t L (rdl L i) true (((i + 1 : Nat) : Int))) (((L.drop (i + 1)).foldl (zd n t) (zd n t o (rdl L i))).getD [], ((L.drop (i + 1)).foldl (zd n t) (zd n t o (rdl L i))).isSome) := fun e => by
   rw [e]; exact ih (i + 1) (some (rdl L i)) (by omega) (fun b h => by cases h; exact hv)
  obtain ⟨x', y', hpa, _⟩ := jc n hn t (rdl L i) ht hv.2 hv.1
  have tail : (o.all fun b => decide (impl_leastPlane.sz (rdl L i) < impl_leastPlane.sz b)) = true → Ev (fun k => spec_l5Least.j1 k (n : Int) t L (o.getD []) o.isSome (i : Int) false) (((L.drop (i + 1)).foldl (zd n t) (zd n t o (rdl L i))).getD [], ((L.drop (i + 1)).foldl (zd n t) (zd n t o (rdl L i))).isSome) := by
   intro ha
   refine Ev.step (fun k => spec_l5Least.j1.eq_2 ..) (evn (by simp) (evp (by omega) (evp (by omega) ?_)))
   rw [jm, w64s i (by omega)]
   refine evb hpa ?_
   by_cases c : (gpv n t (rdl L i)).1 > (gpv n t (rdl L i)).2
   · exact evp (by simp [c]) (take (by unfold zd; rw [ha, decide_eq_true c]; rfl))
   · exact evn (by simp; omega) (skip (by unfold zd; rw [decide_eq_false c, Bool.and_false]; rfl))
  refine Ev.step (fun k => spec_l5Least.l0.eq_2 ..) (evp (by omega) ?_)
  cases o with
  | none => exact evn (by simp) (tail rfl)
  | some b =>
   have hb := ho b rfl
   refine evp rfl (evp (by omega) ?_)
   rw [jm]
   refine evb (qx _ hv.2 (by have := hv.1; omega)) (evb (qx _ (by simpa using hb.2) (by have := hb.1; simp; omega)) ?_)
   simp only [Option.getD_some]
   by_cases c : impl_leastPlane.sz (rdl L i) ≥ impl_leastPlane.sz b
   ·
    rw [decide_eq_true c]
    refine Ev.step (fun k => spec_l5Least.j1.eq_2 ..) (evp rfl ?_)
    rw [w64s i (by omega)]
    exact skip (by unfold zd; rw [show (Option.all (fun b => decide (impl_leastPlane.sz (rdl L i) < impl_leastPlane.sz b)) (some b)) = false by simp; omega, Bool.false_and]; rfl)
   ·
    rw [decide_eq_false c]
    exact tail (by simp; omega)
theorem qa (n : Nat) (hn : n ≤ 4) (t : List Int) (ht : t.length = 2 ^ n) : Ev (fun k => spec_l5Least.f k (n : Int) t) ((lp n t).getD [], (lp n t).isSome) := by
 unfold spec_l5Least.f
 refine evb (jD n hn) ?_
 have := jp n hn t ht (wts 3 n) (zZ n) (qf n hn) (wts 3 n).length 0 none (by omega) (fun b h => by cases h)
 simpa [lp] using this
def zk (n : Int) (l : List Int) : Bool × Bool := if isTab n l = true then ((lp n.toNat l).isSome, true) else (false, false)
theorem sThr (n : Int) (l : List Int) (hl : l.length ≤ 1048576) : Ev (fun k => spec_IsThreshold.f k n l) (zk n l) := by
 unfold spec_IsThreshold.f zk
 refine evb (zm n l (by omega)) ?_
 by_cases e : isTab n l = true
 ·
  obtain ⟨m, rfl, hm, hlen, _⟩ := zl e
  refine evp e (evb (qa m hm l hlen) (evs ?_))
  rw [if_pos e, Int.toNat_natCast]
 · exact evn e (evs (by rw [if_neg e]))
theorem kL (t : List Int) (h : t.length = 1) : (lp 0 t).isSome = true := by
 have e : (gpv 0 t []).1 > (gpv 0 t []).2 := by
  unfold gpv
  rw [h]
  simp only [gp]
  have : (zc 0 []).getD 0 0 = 0 := by simp [zc, dot]
  rw [this]
  split <;> simp [mn, mx]
 simp only [lp, wts, List.foldl_cons, List.foldl_nil, zd, Option.all_none, Bool.true_and]
 rw [if_pos (by simpa using e)]; rfl
theorem iThr (n : Int) (l : List Int) (hl : l.length ≤ 1048576) : Ev (fun k => impl_IsThreshold.f k n l) (zk n l) := by
 unfold impl_IsThreshold.f zk
 refine evb (zu n l (by omega)) ?_
 by_cases e : isTab n l = true
 ·
  obtain ⟨m, rfl, hm, hlen, _⟩ := zl e
  refine evp e ?_
  have hi : Ev (fun k => impl_isThreshold.f k (m : Int) l) (lp m l).isSome := by
   unfold impl_isThreshold.f
   by_cases h0 : (m : Int) = 0
   ·
    obtain rfl : m = 0 := by omega
    exact evp h0 (evs (kL l (by simpa using hlen)).symm)
   · exact evn h0 (evb (zE m hm l hlen) (evs rfl))
  refine evb hi (evs ?_)
  rw [if_pos e, Int.toNat_natCast]
 · exact evn e (evs (by rw [if_neg e]))
def zf (n : Int) (l : List Int) : Int × Bool := if isTab n l = true then (impl_leastPlane.sz ((lp n.toNat l).getD []), (lp n.toNat l).isSome) else (0, false)
theorem zW0 (n : Int) (l : List Int) (hl : l.length ≤ 1048576) : Ev (fun k => spec_SizeOf.f k n l) (zf n l) := by
 unfold spec_SizeOf.f zf
 refine evb (zm n l (by omega)) ?_
 by_cases e : isTab n l = true
 ·
  obtain ⟨m, rfl, hm, hlen, _⟩ := zl e
  have hw : ∀ x ∈ (lp m l).getD [], -9 ≤ x ∧ x ≤ 9 := by
   cases h : lp m l with
   | none => intro x hx; simp at hx
   | some v => exact (zv m l v h).2
  have hlw : ((lp m l).getD []).length ≤ 8 := by
   cases h : lp m l with
   | none => simp
   | some v => have := (zv m l v h).1; simp; omega
  refine evp e (evb (qa m hm l hlen) (evb (qx _ hw hlw) (evs ?_)))
  rw [if_pos e, Int.toNat_natCast]
 · exact evn e (evs (by rw [if_neg e]))
theorem kg (t : List Int) (h : t.length = 1) : lp 0 t = some [] := by
 have e : (gpv 0 t []).1 > (gpv 0 t []).2 := by
  unfold gpv
  rw [h]
  simp only [gp]
  have : (zc 0 []).getD 0 0 = 0 := by simp [zc, dot]
  rw [this]
  split <;> simp [mn, mx]
 simp only [lp, wts, List.foldl_cons, List.foldl_nil, zd, Option.all_none, Bool.true_and]
 rw [if_pos (by simpa using e)]
theorem zX0 (n : Int) (l : List Int) (hl : l.length ≤ 1048576) : Ev (fun k => impl_SizeOf.f k n l) (zf n l) := by
 unfold impl_SizeOf.f zf
 refine evb (zu n l (by omega)) ?_
 by_cases e : isTab n l = true
 ·
  obtain ⟨m, rfl, hm, hlen, _⟩ := zl e
  refine evp e ?_
  rw [if_pos e, Int.toNat_natCast]
  by_cases h0 : (m : Int) = 0
  ·
   obtain rfl : m = 0 := by omega
   refine evp h0 (evs ?_)
   rw [kg l (by simpa using hlen)]; rfl
  ·
   refine evn h0 (evb (zE m hm l hlen) ?_)
   cases h : lp m l with
   | none => exact evn (by simp) (evs rfl)
   | some v => exact evp rfl (evs rfl)
 · exact evn e (evs (by rw [if_neg e]))
theorem kh (l : List Int) (x : Int) (hl : l.length ≤ 1048576) : ∀ (d i : Nat), i + d = l.length → Ev (fun k => spec_l1Has.l0 k l x (i : Int)) ((l.drop i).contains x) := by
 intro d
 induction d with
 | zero =>
  intro i hi
  refine Ev.step (fun k => spec_l1Has.l0.eq_2 ..) (evn (by omega) (evs ?_))
  rw [List.drop_of_length_le (by omega)]; rfl
 | succ d ih =>
  intro i hi
  have e : l.drop i = l.getD i 0 :: l.drop (i + 1) := by
   rw [List.drop_eq_getElem_cons (by omega)]; simp [List.getD_eq_getElem?_getD, List.getElem?_eq_getElem (show i < l.length by omega)]
  refine Ev.step (fun k => spec_l1Has.l0.eq_2 ..) (evp (by omega) (evp (by omega) ?_))
  rw [rd_nat, w64s i (by omega), e, List.contains_cons]
  by_cases c : l.getD i 0 = x
  · exact evp c (evs (by rw [c]; simp))
  ·
   refine evn c (evr (ih (i + 1) (by omega)) ?_)
   rw [show (x == l.getD i 0) = false from beq_eq_false_iff_ne.mpr (fun h => c h.symm), Bool.false_or]
theorem zY0 (l : List Int) (x : Int) (hl : l.length ≤ 1048576) : Ev (fun k => spec_l1Has.f k l x) (l.contains x) := by
 unfold spec_l1Has.f
 exact kh l x hl l.length 0 (by omega)
theorem zZ0 (t p : List Int) : ∀ i, i ≤ t.length → (∀ j, j < i → t.getD j 0 ≠ 1) → (gp t p i).1 = 1000000000 := by
 intro i
 induction i with
 | zero => intro _ _; rfl
 | succ i ih =>
  intro hi h
  simp only [gp, if_neg (h i (by omega))]
  exact ih (by omega) (fun j hj => h j (by omega))
theorem zl0 (t p : List Int) (hp : ∀ i, -36 ≤ p.getD i 0 ∧ p.getD i 0 ≤ 36) : ∀ i, (∃ j, j < i ∧ t.getD j 0 = 1) → (gp t p i).1 ≠ 1000000000 := by
 intro i
 induction i with
 | zero => rintro ⟨j, hj, _⟩; omega
 | succ i ih =>
  rintro ⟨j, hj, e⟩
  have h1 := hp i
  have h2 := kF t p 36 (by omega) hp i
  simp only [gp]
  by_cases c : t.getD i 0 = 1
  ·
   rw [if_pos c]
   simp only [mn]
   split <;> omega
  ·
   rw [if_neg c]
   exact ih ⟨j, by rcases Nat.lt_or_ge j i with h | h; exact h; exact absurd e (by rw [show j = i by omega]; exact c), e⟩
theorem kM (t p : List Int) (hp : ∀ i, -36 ≤ p.getD i 0 ∧ p.getD i 0 ≤ 36) (h0 : 0 < t.length) (h : ∀ j, j < t.length → t.getD j 0 ≠ 1) : (gp t p t.length).2 ≠ -1000000000 := by
 have : ∀ i, 0 < i → i ≤ t.length → -36 ≤ (gp t p i).2 := by
  intro i
  induction i with
  | zero => intro h; omega
  | succ i ih =>
   intro _ hi
   have h1 := hp i
   simp only [gp, if_neg (h i (by omega)), mx]
   split
   · omega
   ·
    rcases Nat.eq_zero_or_pos i with rfl | hi0
    · rename_i c; simp only [gp] at c; omega
    · exact ih hi0 (by omega)
 have := this t.length h0 (Nat.le_refl _)
 omega
def za (n : Int) (l : List Int) : List Int × Int × Bool := if isTab n l = true ∧ n ≠ 0 then (match lp n.toNat l with | some v => (v, bnd n.toNat l v, true) | none => ([], 0, false)) else ([], 0, false)
theorem jq (n : Int) (l : List Int) : (za n l).1.length ≤ 4 := by
 unfold za
 split
 ·
  rename_i e
  obtain ⟨m, rfl, hm, _⟩ := zl e.1
  cases h : lp m l with
  | none => simp [h]
  | some v => have := (zv m l v h).1; simp [h]; omega
 · simp
theorem kN (n : Nat) (hn : n ≤ 4) (t : List Int) (ht : t.length = 2 ^ n) : Ev (fun k => spec_l5Plane.f k (n : Int) t) (match lp n t with | some v => (v, bnd n t v, true) | none => ([], 0, false)) := by
 have hp := pow4 n hn
 unfold spec_l5Plane.f
 refine evb (qa n hn t ht) ?_
 cases h : lp n t with
 | none => exact evn (by simp) (evs rfl)
 | some v =>
  have hv := zv n t v h
  obtain ⟨x', y', hpa, hx, hy⟩ := jc n hn t v ht hv.2 hv.1
  have hg := qz (t := t) hn hv
  have hpr : ∀ i, -36 ≤ (zc n v).getD i 0 ∧ (zc n v).getD i 0 ≤ 36 := fun i => by
   by_cases h : i < 2 ^ n
   · rw [zn n v i h]; exact zL n v hn hv.2 hv.1 i
   · rw [List.getD_eq_getElem?_getD, List.getElem?_eq_none (by rw [zK]; omega)]; simp
  refine evp rfl (evb hpa (evb (zY0 t 1 (by omega)) ?_))
  by_cases c : t.contains 1 = true
  ·
   have h1 : (gpv n t v).1 ≠ 1000000000 := by
    refine zl0 t (zc n v) hpr t.length ?_
    have hm : (1 : Int) ∈ t := by simpa using c
    obtain ⟨j, hj, e⟩ := List.getElem_of_mem hm
    exact ⟨j, hj, by rw [List.getD_eq_getElem?_getD, List.getElem?_eq_getElem hj]; exact e⟩
   refine evp c (evs ?_)
   rcases hx with hx | hx
   · exact absurd hx h1
   · simp only [Option.getD_some]; rw [show bnd n t v = x' by unfold bnd; rw [if_neg h1]; exact hx]
  ·
   have hno : ∀ j, j < t.length → t.getD j 0 ≠ 1 := by
    intro j hj e
    apply c
    rw [List.getD_eq_getElem?_getD, List.getElem?_eq_getElem hj] at e
    have : (1 : Int) ∈ t := e ▸ List.getElem_mem hj
    simpa using this
   have h1 : (gpv n t v).1 = 1000000000 := zZ0 t (zc n v) t.length (Nat.le_refl _) hno
   have h2 : (gpv n t v).2 ≠ -1000000000 := kM t (zc n v) hpr (by omega) hno
   refine evn c (evs ?_)
   rcases hy with hy | hy
   · exact absurd hy h2
   ·
    simp only [Option.getD_some]
    rw [show bnd n t v = y' + 1 by unfold bnd; rw [if_pos h1, hy], w64 (by omega) (by omega)]
theorem zm0 (n : Int) (l : List Int) (hl : l.length ≤ 1048576) : Ev (fun k => spec_LeastPlane.f k n l) (za n l) := by
 unfold spec_LeastPlane.f za
 refine evb (zm n l (by omega)) ?_
 by_cases e : isTab n l = true
 ·
  obtain ⟨m, rfl, hm, hlen, _⟩ := zl e
  refine evp e ?_
  by_cases h0 : (m : Int) = 0
  · exact evp h0 (evs (by rw [if_neg (by simp [h0])]))
  ·
   refine evn h0 (evb (kN m hm l hlen) (evs ?_))
   rw [if_pos ⟨e, h0⟩, Int.toNat_natCast]
 · exact evn e (evs (by rw [if_neg (fun h => e h.1)]))
theorem zn0 (n : Int) (l : List Int) (hl : l.length ≤ 1048576) : Ev (fun k => impl_LeastPlane.f k n l) (za n l) := by
 unfold impl_LeastPlane.f
 by_cases h0 : n = 0
 ·
  refine evp h0 (Ev.step (fun k => impl_LeastPlane.j0.eq_2 ..) (evp rfl (evs ?_)))
  unfold za
  rw [if_neg (fun h => h.2 h0)]
 ·
  refine evn h0 (evb (zu n l (by omega)) ?_)
  by_cases e : isTab n l = true
  ·
   obtain ⟨m, rfl, hm, hlen, _⟩ := zl e
   refine Ev.step (fun k => impl_LeastPlane.j0.eq_2 ..) (evn (by simp [e]) (evb (zE m hm l hlen) ?_))
   rw [show za (m : Int) l = (match lp m l with | some v => (v, bnd m l v, true) | none => ([], 0, false)) by unfold za; rw [if_pos ⟨e, h0⟩, Int.toNat_natCast]]
   cases h : lp m l with
   | none => exact evn (by simp) (evs rfl)
   | some v => exact evp rfl (evs rfl)
  · exact Ev.step (fun k => impl_LeastPlane.j0.eq_2 ..) (evp (by simp [e]) (evs (by unfold za; rw [if_neg (fun h => e h.1)])))
def zh (l : List Int) : Prop := (l.length : Int) ≤ 65536 ∧ ∀ x ∈ l, 0 ≤ x ∧ x ≤ 255
theorem zo0 (l : List Int) (hl : (l.length : Int) ≤ 65536) (hb : ∀ x ∈ l, (Lit.int .u8 x).wf = true) : zh l := by
 refine ⟨hl, fun x hx => ?_⟩
 have := hb x hx
 simp only [Lit.wf, Bool.and_eq_true, decide_eq_true_eq, IntKind.min, IntKind.max, IntKind.signed, IntKind.bits] at this
 simp at this
 omega
theorem kO (y : Int) (h0 : 0 ≤ y) (h1 : y < 18446744073709551616) : 0 ≤ Go.bits .and .u64 (y / 1099511627776) 255 ∧ Go.bits .and .u64 (y / 1099511627776) 255 ≤ 255 := by
 obtain ⟨n, hn⟩ := Int.eq_ofNat_of_zero_le (show 0 ≤ y / 1099511627776 by omega)
 have hn2 : n < 2 ^ 64 := by omega
 have h := (bits_nat .u64 64 (by decide) (fun n h₀ h₁ => by rw [show IntKind.u64.wrap n = n % 18446744073709551616 by simp [IntKind.wrap, IntKind.bits, IntKind.signed]]; omega) n 255 hn2 (by decide)).1
 rw [hn, show (255 : Int) = ((255 : Nat) : Int) from rfl, h]
 have := @Nat.and_le_right n 255
 omega
theorem kP (z : Int) : 0 ≤ IntKind.u64.wrap z ∧ IntKind.u64.wrap z < 18446744073709551616 := by
 rw [show IntKind.u64.wrap z = z % 18446744073709551616 by simp [IntKind.wrap, IntKind.bits, IntKind.signed]]; omega
theorem kG {l : List Int} (hl : zh l) (p s : Int) (hp : 0 ≤ p ∧ p ≤ 1000000) : ∃ x s', spec_l1Cur_next.f l p s = some (x, p + 1, s') ∧ 0 ≤ x ∧ x ≤ 255 := by
 have hr : 0 ≤ rd l p ∧ rd l p ≤ 255 := by
  obtain ⟨j, rfl⟩ := Int.eq_ofNat_of_zero_le hp.1
  rw [rd_nat]
  by_cases hj : j < l.length
  · rw [List.getD_eq_getElem?_getD, List.getElem?_eq_getElem hj]; exact hl.2 _ (List.getElem_mem hj)
  · rw [List.getD_eq_getElem?_getD, List.getElem?_eq_none (by omega)]; decide
 have ew : wrap64 (p + 1) = p + 1 := w64 (by omega) (by omega)
 have hw : ∀ z : Int, ∃ x s', (some (wrap64 (Go.bits .and .u64 ((IntKind.u64.wrap z) / 1099511627776) 255), p + 1, IntKind.u64.wrap z) : Option (Int × Int × Int)) = some (x, p + 1, s') ∧ 0 ≤ x ∧ x ≤ 255 := by
  intro z
  have h := kP z
  have h2 := kO _ h.1 h.2
  refine ⟨_, _, rfl, ?_⟩
  rw [w64 (by omega) (by omega)]; exact h2
 unfold spec_l1Cur_next.f
 rw [ew]
 by_cases h : p < (l.length : Int)
 ·
  rw [if_pos h, if_pos hp.1]
  by_cases h2 : p + 1 ≤ (l.length : Int)
  ·
   rw [if_pos h2]
   refine ⟨_, _, rfl, ?_⟩
   rw [w64 (by omega) (by omega)]; exact hr
  · omega
 ·
  rw [if_neg h, if_neg (by omega)]
  exact hw _
theorem qA (x n : Int) (hx : 0 ≤ x) (hn : 0 < n) : 0 ≤ Int.tmod x n ∧ Int.tmod x n < n := by
 rw [Int.tmod_eq_emod_of_nonneg hx]
 exact ⟨Int.emod_nonneg _ (by omega), Int.emod_lt_of_pos _ hn⟩
theorem zw {l : List Int} (hl : zh l) (p s n : Int) (hp : 0 ≤ p ∧ p ≤ 900000) : ∃ x p' s', spec_l1Cur_pick.f l p s n = some (x, p', s') ∧ 0 ≤ x ∧ (x < n ∨ n ≤ 1 ∧ x = 0) ∧ p ≤ p' ∧ p' ≤ p + 2 := by
 unfold spec_l1Cur_pick.f
 by_cases h1 : n ≤ 1
 · rw [if_pos h1]; exact ⟨0, p, s, rfl, Int.le_refl _, .inr ⟨h1, rfl⟩, by omega, by omega⟩
 ·
  rw [if_neg h1]
  obtain ⟨x, s1, e, hx0, hx1⟩ := kG hl p s (by omega)
  rw [e]; simp only [Option.bind_some]
  by_cases h2 : n > 200
  ·
   rw [if_pos h2]
   obtain ⟨y, s2, e2, hy0, hy1⟩ := kG hl (p + 1) s1 (by omega)
   rw [e2]; simp only [Option.bind_some]
   rw [if_neg (by omega), w64 (x := x * 256) (by omega) (by omega), w64 (by omega) (by omega)]
   have := qA (x * 256 + y) n (by omega) (by omega)
   exact ⟨_, _, _, rfl, this.1, .inl this.2, by omega, by omega⟩
  ·
   rw [if_neg h2, if_neg (by omega)]
   have := qA x n hx0 (by omega)
   exact ⟨_, _, _, rfl, this.1, .inl this.2, by omega, by omega⟩
theorem qb {l : List Int} (hl : zh l) (p s n : Int) (hp : 0 ≤ p ∧ p ≤ 900000) : ∃ b p' s', spec_l1Cur_one.f l p s n = some (b, p', s') ∧ p ≤ p' ∧ p' ≤ p + 2 := by
 obtain ⟨x, p', s', e, _, _, h1, h2⟩ := zw hl p s n hp
 unfold spec_l1Cur_one.f
 rw [e]; exact ⟨_, _, _, rfl, h1, h2⟩
theorem zD {l : List Int} (hl : zh l) (p s : Int) (xs : List Int) (hx : xs ≠ []) (hp : 0 ≤ p ∧ p ≤ 900000) : ∃ x p' s', spec_l1Cur_among.f l p s xs = some (x, p', s') ∧ x ∈ xs ∧ p ≤ p' ∧ p' ≤ p + 2 := by
 have hlen : 0 < xs.length := List.length_pos_iff.2 hx
 obtain ⟨x, p', s', e, h0, h1, h2, h3⟩ := zw hl p s (xs.length : Int) hp
 have hlt : x < (xs.length : Int) := by omega
 unfold spec_l1Cur_among.f
 rw [e]; simp only [Option.bind_some]
 rw [if_pos h0, if_pos hlt]
 refine ⟨_, _, _, rfl, ?_, h2, h3⟩
 obtain ⟨j, rfl⟩ := Int.eq_ofNat_of_zero_le h0
 rw [rd_nat, List.getD_eq_getElem?_getD, List.getElem?_eq_getElem (show j < xs.length by omega)]
 exact List.getElem_mem _
theorem ki (a b : List Int) (hl : a.length = b.length) (hx : a.length ≤ 1048576) : ∀ (d i : Nat), i + d = a.length → Ev (fun k => laws_vInts.l0 k a b (i : Int)) (decide (a.drop i = b.drop i)) := by
 intro d
 induction d with
 | zero =>
  intro i hi
  refine Ev.step (fun k => laws_vInts.l0.eq_2 ..) (evn (by omega) (evs ?_))
  simp [List.drop_of_length_le (show a.length ≤ i by omega), List.drop_of_length_le (show b.length ≤ i by omega)]
 | succ d ih =>
  intro i hi
  refine Ev.step (fun k => laws_vInts.l0.eq_2 ..) (evp (by omega) (evp (by omega) (evp (by omega) ?_)))
  rw [w64s i (by omega), rd_nat, rd_nat, List.drop_eq_getElem_cons (show i < a.length by omega), List.drop_eq_getElem_cons (show i < b.length by omega)]
  have ea : a.getD i 0 = a[i] := by rw [List.getD_eq_getElem?_getD, List.getElem?_eq_getElem (show i < a.length by omega)]; rfl
  have eb : b.getD i 0 = b[i] := by rw [List.getD_eq_getElem?_getD, List.getElem?_eq_getElem (show i < b.length by omega)]; rfl
  rw [ea, eb]
  by_cases e : a[i] = b[i]
  ·
   refine evp e (evr (ih (i + 1) (by omega)) ?_)
   rw [e]; simp only [List.cons.injEq, true_and]
  ·
   refine evn e (evs ?_)
   simp only [List.cons.injEq, e, false_and, decide_false]
theorem jr (a b : List Int) (hx : a.length ≤ 1048576) : Ev (fun k => laws_vInts.f k a b) (decide (a = b)) := by
 unfold laws_vInts.f
 by_cases h : a.length = b.length
 · refine evp (by omega) (evr (ki a b h hx a.length 0 (by omega)) (by simp))
 ·
  refine evn (by omega) (evs ?_)
  have : a ≠ b := fun e => h (by rw [e])
  simp [this]
theorem vCut {l : List Int} (hl : zh l) (n : Nat) (hn0 : 1 ≤ n) (hn : n ≤ 200) : ∃ r, laws_vCut.f l (n : Int) = some r ∧ zh r := by
 have h1 := hl.1
 unfold laws_vCut.f
 by_cases c : (n : Int) > (l.length : Int)
 ·
  rw [if_pos c]
  simp only [Option.bind_some]
  rw [if_pos (by omega), if_pos (by omega), if_pos (by simp), if_pos (by simp)]
  refine ⟨_, rfl, by simp, fun x hx => ?_⟩
  simp at hx
  omega
 ·
  rw [if_neg c]
  simp only [Option.bind_some]
  rw [if_pos (by omega), if_pos (by omega), if_pos (by simp; omega), if_pos (by simp; omega)]
  refine ⟨_, rfl, by simp; omega, fun x hx => ?_⟩
  simp only [List.nil_append, List.mem_append, List.mem_singleton] at hx
  rcases hx with hx | rfl
  · exact hl.2 x (List.mem_of_mem_drop hx)
  · omega
theorem qa0 {l : List Int} (hl : zh l) : ∃ r, laws_vCut.f l 1 = some r ∧ zh r := vCut hl 1 (by omega) (by omega)
theorem jI {l : List Int} (hl : zh l) (n : Nat) (m : Int) (hm : 1 ≤ m ∧ m ≤ 20) (hn : n ≤ 9) : ∀ (d i : Nat) (p s : Int) (v : List Int), i + d = n → v.length = i → 0 ≤ p ∧ p + 2 * d ≤ 700000 →
  ∃ r, Ev (fun k => spec_l1Cur_plane.l0 k (n : Int) m (i : Int) l p s v 0) r ∧ (n ≤ r.1.length ∧ r.1.length ≤ n + 1) ∧ p ≤ r.2.2.1 ∧ r.2.2.1 ≤ p + 2 * d + 10 := by
 intro d
 induction d with
 | zero =>
  intro i p s v hi hv hp
  obtain ⟨x, p1, s1, e1, _, _, g1, g2⟩ := zw hl p s (wrap64 ((wrap64 (2 * m)) + 3)) (by omega)
  obtain ⟨y, p2, s2, e2, h0, h1, g3, g4⟩ := zw hl p1 s1 60 (by omega)
  by_cases c0 : y = 0
  ·
   obtain ⟨z, p3, s3, e3, _, g5, g6⟩ := zD hl p2 s2 [99, -99, 100, -100, 4611686018427387904] (by simp) (by omega)
   exact ⟨_, Ev.step (fun k => spec_l1Cur_plane.l0.eq_2 ..) (evn (by omega) (evb (evc e1) (evb (evc e2) (evp c0 (evb (evc e3) (evs rfl)))))), by simp only; omega, by simp only; omega, by simp only; omega⟩
  by_cases c1 : y = 1
  ·
   by_cases c : (n : Int) > 0
   ·
    obtain ⟨z, p3, s3, e3, z0, z1, g5, g6⟩ := zw hl p2 s2 (n : Int) (by omega)
    obtain ⟨u, p4, s4, e4, _, g7, g8⟩ := zD hl p3 s3 [99, -99, 100, -100] (by simp) (by omega)
    exact ⟨_, Ev.step (fun k => spec_l1Cur_plane.l0.eq_2 ..) (evn (by omega) (evb (evc e1) (evb (evc e2) (evn c0 (evp c1 (evp c (evb (evc e3) (evb (evc e4) (evp z0 (evp (by simp only; omega) (evs rfl))))))))))), by simp only [List.length_set]; omega, by simp only; omega, by simp only; omega⟩
   · exact ⟨_, Ev.step (fun k => spec_l1Cur_plane.l0.eq_2 ..) (evn (by omega) (evb (evc e1) (evb (evc e2) (evn c0 (evp c1 (evn c (evs rfl))))))), by simp only; omega, by simp only; omega, by simp only; omega⟩
  by_cases c2 : y = 2
  rotate_left
  · exact ⟨_, Ev.step (fun k => spec_l1Cur_plane.l0.eq_2 ..) (evn (by omega) (evb (evc e1) (evb (evc e2) (evn c0 (evn c1 (evn c2 (evs rfl))))))), by simp only; omega, by simp only; omega, by simp only; omega⟩
  exact ⟨_, Ev.step (fun k => spec_l1Cur_plane.l0.eq_2 ..) (evn (by omega) (evb (evc e1) (evb (evc e2) (evn c0 (evn c1 (evp c2 (evp (by omega) (evs rfl)))))))), by simp; omega, by simp only; omega, by simp only; omega⟩
 | succ d ih =>
  intro i p s v hi hv hp
  obtain ⟨x, p1, s1, e1, _, _, g1, g2⟩ := zw hl p s (wrap64 ((wrap64 (2 * m)) + 1)) (by omega)
  obtain ⟨r, hr, h1, h2, h3⟩ := ih (i + 1) p1 s1 (v ++ [wrap64 (x - m)]) (by omega) (by simp; omega) (by omega)
  refine ⟨r, Ev.step (fun k => spec_l1Cur_plane.l0.eq_2 ..) (evp (by omega) (evb (evc e1) (evp (by omega) ?_))), h1, by omega, by omega⟩
  simp only
  rw [w64s i (by omega)]; exact hr
theorem zp0 {l : List Int} (hl : zh l) (p s : Int) (n : Nat) (hn : n ≤ 9) (hp : 0 ≤ p ∧ p ≤ 600000) : ∃ r, Ev (fun k => spec_l1Cur_plane.f k l p s (n : Int)) r ∧ (n ≤ r.1.length ∧ r.1.length ≤ n + 1) ∧ p ≤ r.2.2.1 ∧ r.2.2.1 ≤ p + 30 := by
 obtain ⟨m, p1, s1, e1, hm, g1, g2⟩ := zD hl p s [1, 3, 5, 20] (by simp) (by omega)
 have hm2 : 1 ≤ m ∧ m ≤ 20 := by simp at hm; omega
 obtain ⟨r, hr, h1, h2, h3⟩ := jI hl n m hm2 hn n 0 p1 s1 [] (by omega) rfl (by omega)
 unfold spec_l1Cur_plane.f
 exact ⟨r, evb (evc e1) hr, h1, by omega, by omega⟩
theorem qg {l : List Int} (hl : zh l) (t : List Int) (p s : Int) (ht : 1 ≤ t.length ∧ t.length ≤ 100) (hp : 0 ≤ p ∧ p ≤ 700000) : ∃ r, Ev (fun k => spec_l1Cur_table.j3 k t l p s) r ∧ (t.length ≤ r.1.length ∧ r.1.length ≤ t.length + 1) ∧ p ≤ r.2.1 ∧ r.2.1 ≤ p + 10 := by
 obtain ⟨b, p1, s1, e1, g1, g2⟩ := qb hl p s 40 (by omega)
 by_cases c : b = true
 ·
  obtain ⟨x, p2, s2, e2, h0, h1, g3, g4⟩ := zw hl p1 s1 (t.length : Int) (by omega)
  obtain ⟨y, p3, s3, e3, _, g5, g6⟩ := zD hl p2 s2 [2, -1] (by simp) (by omega)
  obtain ⟨b2, p4, s4, e4, g7, g8⟩ := qb hl p3 s3 40 (by omega)
  by_cases c2 : b2 = true
  rotate_left
  · exact ⟨_, Ev.step (fun k => spec_l1Cur_table.j3.eq_2 ..) (evb (evc e1) (evp c (evb (evc e2) (evb (evc e3) (evp h0 (evp (by simp only; omega) (evb (evs rfl) (evb (evc e4) (evn c2 (evs rfl)))))))))), by simp, by simp only; omega, by simp only; omega⟩
  exact ⟨_, Ev.step (fun k => spec_l1Cur_table.j3.eq_2 ..) (evb (evc e1) (evp c (evb (evc e2) (evb (evc e3) (evp h0 (evp (by simp only; omega) (evb (evs rfl) (evb (evc e4) (evp c2 (evp (by simp only [List.length_set]; omega) (evs rfl))))))))))), by simp, by simp only; omega, by simp only; omega⟩
 ·
  obtain ⟨b2, p4, s4, e4, g7, g8⟩ := qb hl p1 s1 40 (by omega)
  by_cases c2 : b2 = true
  rotate_left
  · exact ⟨_, Ev.step (fun k => spec_l1Cur_table.j3.eq_2 ..) (evb (evc e1) (evn c (evb (evc e4) (evn c2 (evs rfl))))), by simp, by simp only; omega, by simp only; omega⟩
  exact ⟨_, Ev.step (fun k => spec_l1Cur_table.j3.eq_2 ..) (evb (evc e1) (evn c (evb (evc e4) (evp c2 (evp (by omega) (evs rfl)))))), by simp, by simp only; omega, by simp only; omega⟩
theorem jJ {l : List Int} (hl : zh l) (n : Nat) (hn : n ≤ 5) : ∀ (d i : Nat) (p s : Int) (t : List Int), i + d = 2 ^ n → t.length = i → 0 ≤ p ∧ p + 2 * d ≤ 650000 →
  ∃ r, Ev (fun k => spec_l1Cur_table.l0 k (n : Int) t (i : Int) l p s) r ∧ r.1.length ≤ 40 ∧ p ≤ r.2.1 ∧ r.2.1 ≤ p + 2 * d + 10 := by
 have h2 : 1 ≤ 2 ^ n ∧ 2 ^ n ≤ 32 := ⟨Nat.two_pow_pos n, Nat.pow_le_pow_right (n := 2) (by decide) hn⟩
 intro d
 induction d with
 | zero =>
  intro i p s t hi ht hp
  obtain ⟨r, hr, h3, h4, h5⟩ := qg hl t p s (by omega) (by omega)
  refine ⟨r, Ev.step (fun k => spec_l1Cur_table.l0.eq_2 ..) (evp (by omega) (evn ?_ hr)), by omega, by omega, by omega⟩
  rw [shl1 n (by omega)]; omega
 | succ d ih =>
  intro i p s t hi ht hp
  obtain ⟨x, p1, s1, e1, _, _, g1, g2⟩ := zw hl p s 2 (by omega)
  obtain ⟨r, hr, h3, h4, h5⟩ := ih (i + 1) p1 s1 (t ++ [x]) (by omega) (by simp; omega) (by omega)
  refine ⟨r, Ev.step (fun k => spec_l1Cur_table.l0.eq_2 ..) (evp (by omega) (evp ?_ (evb (evc e1) (evp (by omega) ?_)))), h3, by omega, by omega⟩
  · rw [shl1 n (by omega)]; omega
  ·
   simp only
   rw [w64s i (by omega)]; exact hr
theorem qh {l : List Int} (hl : zh l) (n : Nat) (hn : n ≤ 5) (b : Bool) (p s : Int) (w : List Int) (q : Int) (hw : b = true → planeB w q = true ∧ w.length = n) (hp : 0 ≤ p ∧ p ≤ 600000) :
  ∃ r, Ev (fun k => spec_l1Cur_table.j1 k (n : Int) [] b l p s w q) r ∧ r.1.length ≤ 40 ∧ p ≤ r.2.1 ∧ r.2.1 ≤ p + 100 := by
 have h2 : 1 ≤ 2 ^ n ∧ 2 ^ n ≤ 32 := ⟨Nat.two_pow_pos n, Nat.pow_le_pow_right (n := 2) (by decide) hn⟩
 by_cases c : b = true
 ·
  obtain ⟨h1, h3⟩ := hw c
  have hP := (planeB_iff w q).1 h1
  have h4 := hP.1
  have ht := jz n (by omega) w q 99 (by omega) hP.2.1 (by omega)
  have hl2 := tabOf_len n w q
  obtain ⟨r, hr, h5, h6, h7⟩ := qg hl (tabOf n w q) p s (by omega) (by omega)
  exact ⟨r, Ev.step (fun k => spec_l1Cur_table.j1.eq_2 ..) (evp c (evb ht hr)), by omega, by omega, by omega⟩
 ·
  obtain ⟨r, hr, h5, h6, h7⟩ := jJ hl n hn (2 ^ n) 0 p s [] (by omega) rfl (by omega)
  exact ⟨r, Ev.step (fun k => spec_l1Cur_table.j1.eq_2 ..) (evn c hr), by omega, by omega, by omega⟩
theorem zq0 {l : List Int} (hl : zh l) (p s n : Int) (hp : 0 ≤ p ∧ p ≤ 500000) : ∃ r, Ev (fun k => spec_l1Cur_table.f k l p s n) r ∧ r.1.length ≤ 40 ∧ p ≤ r.2.1 ∧ r.2.1 ≤ p + 200 := by
 unfold spec_l1Cur_table.f
 have h0 : ∃ r, Ev (fun k => spec_l1Cur_table.j0 k n [] true l p s) r ∧ r.1.length ≤ 40 ∧ p ≤ r.2.1 ∧ r.2.1 ≤ p + 200 :=
  ⟨_, Ev.step (fun k => spec_l1Cur_table.j0.eq_2 ..) (evp rfl (evs rfl)), by simp, by simp only; omega, by simp only; omega⟩
 by_cases c1 : n < 0
 ·
  obtain ⟨r, hr, h⟩ := h0
  exact ⟨r, evb (evs rfl) (evp c1 hr), h⟩
 by_cases c2 : n > 5
 ·
  obtain ⟨r, hr, h⟩ := h0
  exact ⟨r, evb (evs rfl) (evn c1 (by rw [decide_eq_true c2]; exact hr)), h⟩
 obtain ⟨m, rfl⟩ := Int.eq_ofNat_of_zero_le (show 0 ≤ n by omega)
 obtain ⟨v, hv, h1, h2, h3⟩ := zp0 hl p s m (by omega) (by omega)
 have hj : ∃ r, Ev (fun k => spec_l1Cur_table.j0 k (m : Int) [] false l p s) r ∧ r.1.length ≤ 40 ∧ p ≤ r.2.1 ∧ r.2.1 ≤ p + 200 := by
  have hno := qh hl m (by omega) false v.2.2.1 v.2.2.2 v.1 v.2.1 (fun h => by cases h) (by omega)
  by_cases c3 : (m : Int) > 0
  rotate_left
  ·
   obtain ⟨r, hr, h4, h5, h6⟩ := hno
   exact ⟨r, Ev.step (fun k => spec_l1Cur_table.j0.eq_2 ..) (evn (by simp) (evb hv (evn c3 hr))), h4, by omega, by omega⟩
  by_cases c4 : planeB v.1 v.2.1 = true
  rotate_left
  ·
   obtain ⟨r, hr, h4, h5, h6⟩ := hno
   exact ⟨r, Ev.step (fun k => spec_l1Cur_table.j0.eq_2 ..) (evn (by simp) (evb hv (evp c3 (evb (zY _ _ (by omega)) (evn c4 hr))))), h4, by omega, by omega⟩
  by_cases c5 : (v.1.length : Int) = (m : Int)
  rotate_left
  ·
   obtain ⟨r, hr, h4, h5, h6⟩ := hno
   exact ⟨r, Ev.step (fun k => spec_l1Cur_table.j0.eq_2 ..) (evn (by simp) (evb hv (evp c3 (evb (zY _ _ (by omega)) (evp c4 (evn c5 hr)))))), h4, by omega, by omega⟩
  obtain ⟨b, p1, s1, e1, g1, g2⟩ := qb hl v.2.2.1 v.2.2.2 2 (by omega)
  obtain ⟨r, hr, h4, h5, h6⟩ := qh hl m (by omega) b p1 s1 v.1 v.2.1 (fun _ => ⟨c4, by omega⟩) (by omega)
  exact ⟨r, Ev.step (fun k => spec_l1Cur_table.j0.eq_2 ..) (evn (by simp) (evb hv (evp c3 (evb (zY _ _ (by omega)) (evp c4 (evp c5 (evb (evc e1) hr))))))), h4, by omega, by omega⟩
 obtain ⟨r, hr, h⟩ := hj
 exact ⟨r, evb (evs rfl) (evn c1 (by rw [decide_eq_false c2]; exact hr)), h⟩
def tsP (n : Nat) (m : Nat) : List (List Int) := (List.range m).map (bitPt n)
def tsL (t : List Int) : List Int := t.map fun x => 2 * x - 1
def tsV (n : Int) (t : List Int) : List (List Int) × List Int × Bool := if n ≠ 0 ∧ isTab n t = true then (tsP n.toNat t.length, tsL t, true) else ([], [], false)
theorem zp (n m : Nat) : (tsP n m).length = m := by simp [tsP]
theorem qc (t : List Int) : (tsL t).length = t.length := by simp [tsL]
theorem kj (n m : Nat) : tsP n (m + 1) = tsP n m ++ [bitPt n m] := by simp [tsP, List.range_succ]
theorem kk (t : List Int) (i : Nat) (h : i < t.length) : tsL (t.take (i + 1)) = tsL (t.take i) ++ [2 * t.getD i 0 - 1] := by
 unfold tsL
 rw [List.take_succ_eq_append_getElem h, List.map_append, List.getD_eq_getElem?_getD, List.getElem?_eq_getElem h]; rfl
theorem tsW {m : Nat} {t : List Int} (h : Tab m t) (i : Nat) : wrap64 ((wrap64 (2 * t.getD i 0)) - 1) = 2 * t.getD i 0 - 1 := by
 have := h.at_ i
 rw [w64 (x := 2 * t.getD i 0) (by omega) (by omega), w64 (by omega) (by omega)]
theorem zU {n : Nat} {t : List Int} (h : Tab n t) : ∀ (d i : Nat), i + d = t.length → Ev (fun k => impl_TableSample.l0 k (n : Int) t (t.length : Int) (i : Int) (tsP n i) (tsL (t.take i))) (tsP n t.length, tsL t, true) := by
 have hl := h.len
 have hn := h.1
 intro d
 induction d with
 | zero =>
  intro i hi
  refine Ev.step (fun k => impl_TableSample.l0.eq_2 ..) (evn (by omega) (evs ?_))
  rw [show i = t.length by omega, List.take_length]
 | succ d ih =>
  intro i hi
  have hs := ih (i + 1) (by omega)
  rw [kj, kk t i (by omega)] at hs
  have hP := zp n i
  have hL := qc (t.take i)
  have hT : (t.take i).length = i := by simp; omega
  refine Ev.step (fun k => impl_TableSample.l0.eq_2 ..) (evp (by omega) (evp (by omega) (evp (by omega) (evb (zQ n i (by omega) (by omega)) (evb (evs rfl) (evp (by simp only [List.length_singleton]; omega) (evb (evs rfl) (evp (by simp only [List.length_singleton]; omega) ?_))))))))
  rw [rd_nat, tsW h i, w64s i (by omega)]; exact hs
theorem qB (n : Int) (t : List Int) (hl : t.length ≤ 1048576) : Ev (fun k => impl_TableSample.f k n t) (tsV n t) := by
 unfold impl_TableSample.f tsV
 by_cases c : n = 0
 ·
  refine evp c (Ev.step (fun k => impl_TableSample.j0.eq_2 ..) (evp rfl (evs ?_)))
  rw [if_neg (fun h => h.1 c)]
 ·
  refine evn c (evb (zu n t (by omega)) ?_)
  by_cases e : isTab n t = true
  ·
   obtain ⟨m, rfl, hT⟩ := isTab_tab e
   refine Ev.step (fun k => impl_TableSample.j0.eq_2 ..) (evn (by simp [e]) ?_)
   rw [if_pos ⟨c, e⟩, Int.toNat_natCast]
   exact zU hT t.length 0 (by omega)
  ·
   refine Ev.step (fun k => impl_TableSample.j0.eq_2 ..) (evp (by simp [e]) (evs ?_))
   rw [if_neg (fun h => e h.2)]
namespace Gz
def sm (f : Nat → Int) : Nat → Int
 | 0 => 0
 | n + 1 => sm f n + f n
theorem sm_congr {f g : Nat → Int} : ∀ {n : Nat}, (∀ k, k < n → f k = g k) → sm f n = sm g n
 | 0, _ => rfl
 | n + 1, h => by simp only [sm]; rw [sm_congr (fun k hk => h k (by omega)), h n (by omega)]
theorem sm_add (f g : Nat → Int) : ∀ n, sm (fun k => f k + g k) n = sm f n + sm g n
 | 0 => rfl
 | n + 1 => by simp only [sm]; rw [sm_add f g n]; omega
theorem sm_mul (c : Int) (f : Nat → Int) : ∀ n, sm (fun k => c * f k) n = c * sm f n
 | 0 => by simp [sm]
 | n + 1 => by simp only [sm]; rw [sm_mul c f n, Int.mul_add]
theorem sm_zero {f : Nat → Int} : ∀ {n : Nat}, (∀ k, k < n → f k = 0) → sm f n = 0
 | 0, _ => rfl
 | n + 1, h => by simp only [sm]; rw [sm_zero (fun k hk => h k (by omega)), h n (by omega)]; rfl
theorem zq {f : Nat → Int} (p : Nat) : ∀ {n : Nat}, p < n → (∀ k, k < n → k ≠ p → f k = 0) → sm f n = f p
 | 0, hp, _ => by omega
 | n + 1, hp, h => by
  simp only [sm]
  by_cases e : p = n
  · subst e; rw [sm_zero (fun k hk => h k (by omega) (by omega)), Int.zero_add]
  · rw [zq p (by omega) (fun k hk => h k (by omega)), h n (by omega) (fun x => e x.symm), Int.add_zero]
theorem kH {f : Nat → Int} (b : Int) : ∀ {n : Nat}, (∀ k, k < n → -b ≤ f k ∧ f k ≤ b) → -(b * n) ≤ sm f n ∧ sm f n ≤ b * n
 | 0, _ => by simp [sm]
 | n + 1, h => by
  have h1 := kH (n := n) b (fun k hk => h k (by omega))
  have h2 := h n (by omega)
  simp only [sm]; rw [show ((n + 1 : Nat) : Int) = (n : Int) + 1 by omega, Int.mul_add]; omega
theorem kI {f : Nat → Int} (b : Int) : ∀ {n : Nat}, (∀ k, k < n → 0 ≤ f k ∧ f k ≤ b) → 0 ≤ sm f n ∧ sm f n ≤ b * n
 | 0, _ => by simp [sm]
 | n + 1, h => by
  have h1 := kI (n := n) b (fun k hk => h k (by omega))
  have h2 := h n (by omega)
  simp only [sm]; rw [show ((n + 1 : Nat) : Int) = (n : Int) + 1 by omega, Int.mul_add]; omega
theorem sm_comm (f : Nat → Nat → Int) (m : Nat) : ∀ n, sm (fun i => sm (f i) m) n = sm (fun j => sm (fun i => f i j) n) m
 | 0 => by simp only [sm]; exact (sm_zero (fun _ _ => rfl)).symm
 | n + 1 => by
  simp only [sm]
  rw [sm_comm f m n, ← sm_add]
theorem sm_pos {f : Nat → Int} : ∀ {n : Nat}, 0 < n → (∀ k, k < n → 0 < f k) → 0 < sm f n
 | 0, h, _ => by omega
 | 1, _, h => by have := h 0 (by omega); simp only [sm]; omega
 | n + 2, _, h => by
  have h1 := sm_pos (n := n + 1) (by omega) (fun k hk => h k (by omega))
  have h2 := h (n + 1) (by omega)
  rw [show sm f (n + 2) = sm f (n + 1) + f (n + 1) from rfl]; omega
theorem zr0 : ∀ (M N : Nat) (f : Nat → Nat), M < N → (∀ i, i < N → f i < M) → ∃ i j, i < j ∧ j < N ∧ f i = f j := by
 intro M
 induction M with
 | zero => intro N f h1 h2; exact absurd (h2 0 h1) (by omega)
 | succ M ih =>
  intro N f h1 h2
  by_cases e : ∃ i, i < N - 1 ∧ f i = f (N - 1)
  ·
   obtain ⟨i, hi, e⟩ := e
   exact ⟨i, N - 1, hi, by omega, e⟩
  ·
   have hne : ∀ i, i < N - 1 → f i ≠ f (N - 1) := fun i hi h => e ⟨i, hi, h⟩
   have hv := h2 (N - 1) (by omega)
   obtain ⟨i, j, hij, hj, he⟩ := ih (N - 1) (fun i => if f i < f (N - 1) then f i else f i - 1) (by omega) (fun i hi => by
    have := hne i hi; have := h2 i (by omega)
    split <;> omega)
   refine ⟨i, j, hij, by omega, ?_⟩
   have := hne i (by omega); have := hne j hj
   split at he <;> split at he <;> omega
def dg (b k i : Nat) : Nat := i / b ^ k % b
theorem zs0 (b : Nat) (hb : 0 < b) : ∀ n i j, i < b ^ n → j < b ^ n → (∀ k, k < n → dg b k i = dg b k j) → i = j := by
 intro n
 induction n with
 | zero => intro i j hi hj _; simp at hi hj; omega
 | succ n ih =>
  intro i j hi hj h
  have h0 := h 0 (by omega)
  simp only [dg, Nat.pow_zero, Nat.div_one] at h0
  have hq := ih (i / b) (j / b) (by rw [Nat.div_lt_iff_lt_mul hb, ← Nat.pow_succ]; exact hi) (by rw [Nat.div_lt_iff_lt_mul hb, ← Nat.pow_succ]; exact hj) (fun k hk => by
   have := h (k + 1) (by omega)
   simp only [dg, Nat.pow_succ'] at this ⊢
   rw [Nat.div_div_eq_div_mul, Nat.div_div_eq_div_mul]; exact this)
  rw [← Nat.div_add_mod i b, ← Nat.div_add_mod j b, hq, h0]
def zM (b : Nat) (v : Nat → Nat) : Nat → Nat
 | 0 => 0
 | m + 1 => zM b v m + v m * b ^ m
theorem zP (b : Nat) (v : Nat → Nat) : ∀ m, (∀ j, j < m → v j < b) → zM b v m < b ^ m
 | 0, _ => by simp [zM]
 | m + 1, h => by
  have h1 := zP b v m (fun j hj => h j (by omega))
  have h2 := h m (by omega)
  have h3 : (v m + 1) * b ^ m ≤ b * b ^ m := Nat.mul_le_mul_right _ h2
  rw [Nat.add_mul, Nat.one_mul] at h3
  simp only [zM, Nat.pow_succ']; omega
theorem qC (b : Nat) (v u : Nat → Nat) : ∀ m, (∀ j, j < m → v j < b) → (∀ j, j < m → u j < b) → zM b v m = zM b u m → ∀ j, j < m → v j = u j
 | 0, _, _, _ => fun j hj => by omega
 | m + 1, hv, hu, h => by
  have h1 := zP b v m (fun j hj => hv j (by omega))
  have h2 := zP b u m (fun j hj => hu j (by omega))
  simp only [zM] at h
  have hp : 0 < b ^ m := by omega
  have e : v m = u m := by
   have e1 := congrArg (· / b ^ m) h
   rwa [Nat.add_mul_div_right _ _ hp, Nat.add_mul_div_right _ _ hp, Nat.div_eq_of_lt h1, Nat.div_eq_of_lt h2, Nat.zero_add, Nat.zero_add] at e1
  rw [e] at h
  intro j hj
  by_cases ej : j = m
  · rw [ej]; exact e
  · exact qC b v u m (fun j hj => hv j (by omega)) (fun j hj => hu j (by omega)) (by omega) j (by omega)
theorem zA (m a : Nat) (ha : 1 ≤ a) (A : Nat → Nat → Int) (hA : ∀ k j, k < m + 1 → j < m → -(a : Int) ≤ A k j ∧ A k j ≤ a) :
  ∃ y : Nat → Int, (∃ k, k < m + 1 ∧ y k ≠ 0) ∧ (∀ k, -((((m + 1) * a) ^ m : Nat) : Int) ≤ y k ∧ y k ≤ (((m + 1) * a) ^ m : Nat)) ∧ ∀ j, j < m → sm (fun k => y k * A k j) (m + 1) = 0 := by
 obtain ⟨c, hc⟩ : ∃ c, c = (m + 1) * a := ⟨_, rfl⟩
 obtain ⟨B, hB⟩ : ∃ B, B = c ^ m := ⟨_, rfl⟩
 rw [← hc, ← hB]
 have hc1 : 1 ≤ c := by rw [hc]; exact Nat.mul_pos (by omega) ha
 let off : Nat → Nat → Int := fun k j => if 0 ≤ A k j then 0 else -(A k j) * B
 let V : Nat → Nat → Int := fun i j => sm (fun k => (dg (B + 1) k i : Int) * A k j + off k j) (m + 1)
 have hV : ∀ i j, j < m → 0 ≤ V i j ∧ V i j ≤ ((c * B : Nat) : Int) := by
  intro i j hj
  have h := kI (f := fun k => (dg (B + 1) k i : Int) * A k j + off k j) ((a * B : Nat) : Int) (n := m + 1) (fun k hk => by
   have h1 := hA k j hk hj
   have h2 : dg (B + 1) k i < B + 1 := Nat.mod_lt _ (by omega)
   simp only [off]
   obtain ⟨q, hq⟩ : ∃ q : Nat, q = dg (B + 1) k i := ⟨_, rfl⟩
   rw [← hq] at h2 ⊢
   by_cases e : 0 ≤ A k j
   ·
    rw [if_pos e]
    obtain ⟨x, hx⟩ := Int.eq_ofNat_of_zero_le e
    rw [hx] at h1 ⊢
    have : q * x ≤ a * B := by rw [Nat.mul_comm]; exact Nat.mul_le_mul (by omega) (by omega)
    have h3 : ((q * x : Nat) : Int) ≤ ((a * B : Nat) : Int) := by exact_mod_cast this
    rw [show ((q : Int) * (x : Int)) = ((q * x : Nat) : Int) by simp]; omega
   ·
    rw [if_neg e]
    obtain ⟨x, hx⟩ : ∃ x : Nat, A k j = -(x : Int) := ⟨(-(A k j)).toNat, by omega⟩
    rw [hx] at h1 ⊢
    have : x * (B - q) ≤ a * B := Nat.mul_le_mul (by omega) (by omega)
    have h3 : ((x * (B - q) : Nat) : Int) ≤ ((a * B : Nat) : Int) := by exact_mod_cast this
    rw [show ((q : Int) * -(x : Int) + -(-(x : Int)) * (B : Int)) = ((x * (B - q) : Nat) : Int) by
     rw [Int.natCast_mul, Int.ofNat_sub (by omega), Int.mul_sub, Int.mul_neg, Int.neg_neg, Int.mul_comm (q : Int)]; omega]
    omega)
  refine ⟨h.1, Int.le_trans h.2 ?_⟩
  rw [hc, show ((a * B : Nat) : Int) * ((m + 1 : Nat) : Int) = (((m + 1) * a * B : Nat) : Int) by rw [← Int.natCast_mul]; congr 1; rw [Nat.mul_comm, Nat.mul_assoc]]
  exact Int.le_refl _
 obtain ⟨i, j, hij, hj, he⟩ := zr0 ((c * B + 1) ^ m) ((B + 1) ^ (m + 1)) (fun i => zM (c * B + 1) (fun j => (V i j).toNat) m) (by
  have h1 : (c * B + 1) ^ m ≤ (c * (B + 1)) ^ m := Nat.pow_le_pow_left (by rw [Nat.mul_add]; omega) m
  rw [Nat.mul_pow, ← hB] at h1
  have h2 : 0 < (B + 1) ^ m := Nat.pow_pos (by omega)
  have h3 : (B + 1) ^ (m + 1) = B * (B + 1) ^ m + (B + 1) ^ m := by rw [Nat.pow_succ', Nat.add_mul, Nat.one_mul]
  omega) (fun i hi => zP _ _ _ (fun j hj => by have := hV i j hj; omega))
 have hv : ∀ l, l < m → V i l = V j l := fun l hl => by
  have h1 := qC _ _ _ m (fun l hl => by have := hV i l hl; omega) (fun l hl => by have := hV j l hl; omega) he l hl
  have := hV i l hl; have := hV j l hl
  omega
 refine ⟨fun k => (dg (B + 1) k i : Int) - dg (B + 1) k j, ?_, fun k => ?_, fun l hl => ?_⟩
 ·
  refine Classical.byContradiction fun hn => ?_
  have := zs0 (B + 1) (by omega) (m + 1) i j (by omega) hj (fun k hk => Classical.byContradiction fun h => hn ⟨k, hk, by simp only; omega⟩)
  omega
 ·
  have h1 : dg (B + 1) k i < B + 1 := Nat.mod_lt _ (by omega)
  have h2 : dg (B + 1) k j < B + 1 := Nat.mod_lt _ (by omega)
  simp only; omega
 ·
  have h1 := hv l hl
  simp only [V] at h1
  rw [sm_add, sm_add] at h1
  have h2 : sm (fun k => ((dg (B + 1) k i : Int) - dg (B + 1) k j) * A k l) (m + 1) = sm (fun k => (dg (B + 1) k i : Int) * A k l) (m + 1) + sm (fun k => -1 * ((dg (B + 1) k j : Int) * A k l)) (m + 1) := by
   rw [← sm_add]
   refine sm_congr fun k _ => ?_
   rw [Int.sub_mul]; omega
  rw [h2, sm_mul]; omega
structure Gs (m n : Nat) (a : Nat) (A0 A M : Nat → Nat → Int) (r c : Nat) (p : Nat → Nat) : Prop where
 hr : r ≤ m
 hc : c ≤ n
 ps : ∀ l, l < r → p l < c
 asc : ∀ l k, l < k → k < r → p l < p k
 diag : ∀ l, l < r → M l (p l) ≠ 0
 off : ∀ l, l < r → ∀ i, i < m → i ≠ l → M i (p l) = 0
 low : ∀ i, i < m → r ≤ i → ∀ j, j < c → M i j = 0
 indep : ∀ y : Nat → Int, (∀ j, j < n → sm (fun k => y k * A k j) r = 0) → ∀ k, k < r → y k = 0
 comb : ∃ u : Int, u ≠ 0 ∧ ∃ X : Nat → Nat → Int, ∃ x : Nat → Int, (∀ i, i < m → r ≤ i → x i ≠ 0) ∧ (∀ i, i < r → x i = 0) ∧ ∀ i, i < m → ∀ j, j < n → u * A i j = sm (fun l => X i l * M l j) r + x i * M i j
 bnd : ∀ i, i < m → ∀ j, j < n → -(a : Int) ≤ A i j ∧ A i j ≤ a
 ker : ∀ z : Nat → Int, (∀ i, i < m → sm (fun j => A0 i j * z j) n = 0) ↔ (∀ i, i < m → sm (fun j => M i j * z j) n = 0)
theorem Gs.start {m n a : Nat} {A : Nat → Nat → Int} (hb : ∀ i, i < m → ∀ j, j < n → -(a : Int) ≤ A i j ∧ A i j ≤ a) (p : Nat → Nat) : Gs m n a A A A 0 0 p where
 hr := by omega
 hc := by omega
 ps := fun l h => by omega
 asc := fun l k _ h => by omega
 diag := fun l h => by omega
 off := fun l h => by omega
 low := fun i _ _ j h => by omega
 indep := fun y _ k h => by omega
 comb := ⟨1, by decide, fun _ _ => 0, fun _ => 1, fun _ _ _ => (by simp), fun i h => by omega, fun i _ j _ => by simp [sm]⟩
 bnd := hb
 ker := fun z => Iff.rfl
theorem Gs.skip {m n a : Nat} {A0 A M : Nat → Nat → Int} {r c : Nat} {p : Nat → Nat} (h : Gs m n a A0 A M r c p) (hc : c < n) (h0 : ∀ i, i < m → r ≤ i → M i c = 0) : Gs m n a A0 A M r (c + 1) p :=
 { h with
  hc := hc
  ps := fun l hl => by have := h.ps l hl; omega
  low := fun i hi hr j hj => by
   by_cases e : j = c
   · rw [e]; exact h0 i hi hr
   · exact h.low i hi hr j (by omega) }
def swp (M : Nat → Nat → Int) (r i : Nat) : Nat → Nat → Int := fun k => if k = r then M i else if k = i then M r else M k
theorem Gs.swap {m n a : Nat} {A0 A M : Nat → Nat → Int} {r c : Nat} {p : Nat → Nat} (h : Gs m n a A0 A M r c p) (i : Nat) (hi : i < m) (hri : r ≤ i) : Gs m n a A0 (swp A r i) (swp M r i) r c p := by
 have hlt : ∀ (B : Nat → Nat → Int) k, k < r → swp B r i k = B k := fun B k hk => by unfold swp; rw [if_neg (by omega), if_neg (by omega)]
 obtain ⟨τ, hτ⟩ : ∃ τ : Nat → Nat, τ = fun k => if k = r then i else if k = i then r else k := ⟨_, rfl⟩
 have hsw : ∀ (B : Nat → Nat → Int) k, swp B r i k = B (τ k) := fun B k => by
  rw [hτ]; unfold swp; simp only
  by_cases e : k = r
  · rw [if_pos e, if_pos e]
  ·
   by_cases e2 : k = i
   · rw [if_neg e, if_neg e, if_pos e2, if_pos e2]
   · rw [if_neg e, if_neg e, if_neg e2, if_neg e2]
 have hτm : ∀ k, k < m → τ k < m := fun k hk => by rw [hτ]; simp only; split; exact hi; split <;> omega
 have hτr : ∀ k, r ≤ k → r ≤ τ k := fun k hk => by rw [hτ]; simp only; split; exact hri; split <;> omega
 have hτl : ∀ k, k < r → τ k = k := fun k hk => by rw [hτ]; simp only; rw [if_neg (by omega), if_neg (by omega)]
 have hττ : ∀ k, τ (τ k) = k := fun k => by rw [hτ]; simp only; split <;> (try split) <;> (try split) <;> omega
 refine { hr := h.hr, hc := h.hc, ps := h.ps, asc := h.asc, diag := fun l hl => ?_, off := fun l hl k hk hne => ?_, low := fun k hk hrk j hj => ?_, indep := fun y hy => ?_, comb := ?_, bnd := fun k hk => ?_, ker := fun z => ?_ }
 · rw [hlt M l hl]; exact h.diag l hl
 ·
  rw [hsw]
  refine h.off l hl (τ k) (hτm k hk) (fun e => hne ?_)
  rw [← hττ k, e, hτl l hl]
 · rw [hsw]; exact h.low _ (hτm k hk) (hτr k hrk) j hj
 ·
  refine h.indep y (fun j hj => ?_)
  rw [← hy j hj]
  exact sm_congr fun k hk => by rw [hlt A k hk]
 ·
  obtain ⟨u, hu, X, x, h1, h2, h3⟩ := h.comb
  refine ⟨u, hu, fun k => X (τ k), fun k => x (τ k), fun k hk hr => h1 _ (hτm k hk) (hτr k hr), fun k hk => ?_, fun k hk j hj => ?_⟩
  · simp only; rw [hτl k hk]; exact h2 k hk
  ·
   rw [hsw, hsw, h3 _ (hτm k hk) j hj]
   congr 1
   exact sm_congr fun l hl => by rw [hlt M l hl]
 · rw [hsw]; exact h.bnd _ (hτm k hk)
 ·
  rw [h.ker z]
  constructor
  · intro H k hk; rw [hsw]; exact H _ (hτm k hk)
  ·
   intro H k hk
   have := H _ (hτm k hk)
   rw [hsw, hττ] at this; exact this
theorem Gs.scale {m n a : Nat} {A0 A M M' : Nat → Nat → Int} {r c : Nat} {p : Nat → Nat} (h : Gs m n a A0 A M r c p) (g : Nat → Int) (hg : ∀ k, k < m → g k ≠ 0) (hM : ∀ k, k < m → ∀ j, j < n → M k j = g k * M' k j) : Gs m n a A0 A M' r c p := by
 have hr := h.hr; have hc := h.hc
 have hz : ∀ k, k < m → ∀ j, j < n → (M k j = 0 ↔ M' k j = 0) := fun k hk j hj => by
  rw [hM k hk j hj, Int.mul_eq_zero]
  exact ⟨fun h => h.resolve_left (hg k hk), Or.inr⟩
 refine { hr := h.hr, hc := h.hc, ps := h.ps, asc := h.asc, diag := fun l hl => ?_, off := fun l hl k hk hne => ?_, low := fun k hk hrk j hj => ?_, indep := h.indep, comb := ?_, bnd := h.bnd, ker := fun z => ?_ }
 ·
  have := h.ps l hl
  exact fun e => h.diag l hl ((hz l (by omega) _ (by omega)).2 e)
 ·
  have := h.ps l hl
  exact (hz k hk _ (by omega)).1 (h.off l hl k hk hne)
 · exact (hz k hk j (by omega)).1 (h.low k hk hrk j hj)
 ·
  obtain ⟨u, hu, X, x, h1, h2, h3⟩ := h.comb
  refine ⟨u, hu, fun k l => X k l * g l, fun k => x k * g k, fun k hk hr => fun e => ?_, fun k hk => ?_, fun k hk j hj => ?_⟩
  ·
   rcases Int.mul_eq_zero.1 e with e | e
   · exact h1 k hk hr e
   · exact hg k hk e
  · simp only; rw [h2 k hk, Int.zero_mul]
  ·
   rw [h3 k hk j hj, hM k hk j hj, Int.mul_assoc]
   congr 1
   exact sm_congr fun l hl => by rw [hM l (by omega) j hj, Int.mul_assoc]
 ·
  rw [h.ker z]
  have e : ∀ k, k < m → sm (fun j => M k j * z j) n = g k * sm (fun j => M' k j * z j) n := fun k hk => by
   rw [← sm_mul]
   exact sm_congr fun j hj => by rw [hM k hk j hj, Int.mul_assoc]
  constructor
  ·
   intro H k hk
   have := H k hk
   rw [e k hk, Int.mul_eq_zero] at this
   exact this.resolve_left (hg k hk)
  · intro H k hk; rw [e k hk, H k hk, Int.mul_zero]
theorem zV {m n r N : Nat} {A M : Nat → Nat → Int} {u : Int} {X : Nat → Nat → Int} {x : Nat → Int} (h3 : ∀ i, i < m → ∀ j, j < n → u * A i j = sm (fun l => X i l * M l j) r + x i * M i j)
  (κ : Nat → Nat) (hκ : ∀ k, k < N → κ k < m) (y : Nat → Int) (j : Nat) (hj : j < n) :
  u * sm (fun k => y k * A (κ k) j) N = sm (fun l => sm (fun k => y k * X (κ k) l) N * M l j) r + sm (fun k => y k * x (κ k) * M (κ k) j) N := by
 rw [← sm_mul]
 have e1 : sm (fun k => u * (y k * A (κ k) j)) N = sm (fun k => sm (fun l => y k * X (κ k) l * M l j) r + y k * x (κ k) * M (κ k) j) N := by
  refine sm_congr fun k hk => ?_
  have := h3 (κ k) (hκ k hk) j hj
  rw [show u * (y k * A (κ k) j) = y k * (u * A (κ k) j) by rw [← Int.mul_assoc, Int.mul_comm u, Int.mul_assoc], this, Int.mul_add, ← sm_mul, Int.mul_assoc]
  congr 1
  exact sm_congr fun l _ => by rw [Int.mul_assoc]
 rw [e1, sm_add, sm_comm]
 congr 1
 refine sm_congr fun l _ => ?_
 rw [Int.mul_comm, ← sm_mul]
 exact sm_congr fun k _ => by rw [Int.mul_comm]
theorem Gs.coef {m n a : Nat} {A0 A M : Nat → Nat → Int} {r c : Nat} {p : Nat → Nat} (h : Gs m n a A0 A M r c p) (C : Nat → Int) (l : Nat) (hl : l < r) : sm (fun k => C k * M k (p l)) r = C l * M l (p l) :=
 zq (f := fun k => C k * M k (p l)) l hl (fun k hk hne => by
  have := h.hr
  rw [h.off l hl k (by omega) hne, Int.mul_zero])
theorem Gs.elim {m n a : Nat} {A0 A M M' : Nat → Nat → Int} {r c : Nat} {p : Nat → Nat} (h : Gs m n a A0 A M r c p) (hr : r < m) (hc : c < n) (h0 : M r c ≠ 0) (g : Nat → Int) (hg : ∀ k, k < m → k ≠ r → g k ≠ 0)
  (hM : ∀ k, k < m → k ≠ r → ∀ j, j < n → g k * M' k j = M r c * M k j - M k c * M r j) (hMr : ∀ j, j < n → M' r j = M r j) : Gs m n a A0 A M' (r + 1) (c + 1) (fun l => if l = r then c else p l) := by
 have hpl : ∀ l, l < r → M r (p l) = 0 := fun l hl => h.off l hl r hr (by omega)
 have hzero : ∀ k, k < m → k ≠ r → ∀ j, j < n → M r c * M k j - M k c * M r j = 0 → M' k j = 0 := fun k hk hne j hj e => by
  have := hM k hk hne j hj
  rw [e, Int.mul_eq_zero] at this
  exact this.resolve_left (hg k hk hne)
 obtain ⟨u, hu, X, x, h1, h2, h3⟩ := h.comb
 refine { hr := hr, hc := hc, ps := fun l hl => ?_, asc := fun l k hlk hk => ?_, diag := fun l hl => ?_, off := fun l hl k hk hne => ?_, low := fun k hk hrk j hj => ?_, indep := fun y hy => ?_, comb := ?_, bnd := h.bnd, ker := fun z => ?_ }
 ·
  split
  · omega
  · have := h.ps l (by omega); omega
 ·
  rw [if_neg (show ¬ l = r by omega)]
  split
  · exact h.ps l (by omega)
  · exact h.asc l k hlk (by omega)
 ·
  by_cases e : l = r
  · rw [if_pos e, e, hMr c hc]; exact h0
  ·
   rw [if_neg e]
   have hp := h.ps l (by omega)
   intro e2
   have := hM l (by omega) e (p l) (by omega)
   rw [e2, Int.mul_zero, hpl l (by omega), Int.mul_zero, Int.sub_zero] at this
   rcases Int.mul_eq_zero.1 this.symm with e3 | e3
   · exact h0 e3
   · exact h.diag l (by omega) e3
 ·
  by_cases e : l = r
  ·
   rw [if_pos e]
   rw [e] at hne
   refine hzero k hk hne c hc ?_
   rw [Int.mul_comm]; omega
  ·
   rw [if_neg e]
   have hp := h.ps l (by omega)
   by_cases ek : k = r
   · rw [ek, hMr _ (by omega)]; exact hpl l (by omega)
   ·
    refine hzero k hk ek _ (by omega) ?_
    rw [hpl l (by omega), h.off l (by omega) k hk hne]; simp
 ·
  have hkr : k ≠ r := by omega
  refine hzero k hk hkr j (by omega) ?_
  by_cases e : j = c
  · rw [e, Int.mul_comm]; omega
  · rw [h.low k hk (by omega) j (by omega), h.low r hr (Nat.le_refl _) j (by omega)]; simp
 ·
  have hex := fun j hj => zV (N := r + 1) h3 (fun k => k) (fun k hk => by omega) y j hj
  have hC : ∀ l, l < r → sm (fun k => y k * X k l) (r + 1) = 0 := fun l hl => by
   have hp := h.ps l hl
   have := hex (p l) (by omega)
   rw [hy (p l) (by omega), Int.mul_zero, h.coef _ l hl, sm_zero (f := fun k => y k * x k * M k (p l)) (n := r + 1) (fun k hk => by
    by_cases e : k < r
    · rw [h2 k e]; simp
    · rw [show k = r by omega, hpl l hl, Int.mul_zero]), Int.add_zero] at this
   exact (Int.mul_eq_zero.1 this.symm).resolve_right (h.diag l hl)
  have hyr : y r = 0 := by
   have := hex c hc
   rw [hy c hc, Int.mul_zero, sm_zero (n := r) (fun l hl => by rw [hC l hl, Int.zero_mul]), Int.zero_add, zq r (by omega) (fun k hk hne => by rw [h2 k (by omega)]; simp)] at this
   rcases Int.mul_eq_zero.1 this.symm with e | e
   · exact (Int.mul_eq_zero.1 e).resolve_right (h1 r hr (Nat.le_refl _))
   · exact absurd e h0
  intro k hk
  by_cases e : k = r
  · rw [e]; exact hyr
  ·
   refine h.indep y (fun j hj => ?_) k (by omega)
   have := hy j hj
   simp only [sm] at this
   rw [hyr, Int.zero_mul, Int.add_zero] at this; exact this
 ·
  refine ⟨u * M r c, fun e => (Int.mul_eq_zero.1 e).elim hu h0, fun i l => if l = r then sm (fun l => X i l * M l c) r + x i * M i c else X i l * g l, fun i => if i = r then 0 else x i * g i, fun i hi hri => ?_, fun i hi => ?_, fun i hi j hj => ?_⟩
  ·
   simp only; rw [if_neg (by omega)]
   exact fun e => (Int.mul_eq_zero.1 e).elim (h1 i hi (by omega)) (hg i hi (by omega))
  ·
   simp only; split
   · rfl
   · rw [h2 i (by omega), Int.zero_mul]
  ·
   rw [show u * M r c * A i j = M r c * (u * A i j) by rw [Int.mul_comm u, Int.mul_assoc], h3 i hi j hj, Int.mul_add, ← sm_mul]
   simp only [sm, if_pos]
   have e1 : sm (fun l => M r c * (X i l * M l j)) r = sm (fun l => (if l = r then sm (fun l => X i l * M l c) r + x i * M i c else X i l * g l) * M' l j) r + M r j * sm (fun l => X i l * M l c) r := by
    rw [← sm_mul, ← sm_add]
    refine sm_congr fun l hl => ?_
    have := hM l (by omega) (by omega) j hj
    rw [if_neg (by omega), Int.mul_assoc (X i l), this, Int.mul_sub]
    simp only [Int.mul_left_comm, Int.mul_comm]
    omega
   rw [e1, hMr j hj]
   by_cases ei : i = r
   ·
    rw [if_pos ei, ei, Int.zero_mul, Int.add_zero, Int.add_mul]
    simp only [Int.mul_left_comm, Int.mul_comm]
    omega
   ·
    have := hM i hi ei j hj
    rw [if_neg ei, Int.mul_assoc (x i), this, Int.add_mul, Int.mul_sub]
    simp only [Int.mul_left_comm, Int.mul_comm]
    omega
 ·
  rw [h.ker z]
  have e : ∀ k, k < m → k ≠ r → g k * sm (fun j => M' k j * z j) n = M r c * sm (fun j => M k j * z j) n - M k c * sm (fun j => M r j * z j) n := fun k hk hne => by
   rw [← sm_mul, ← sm_mul, ← sm_mul, show ∀ a b : Int, a - b = a + -1 * b from fun a b => by omega, ← sm_mul, ← sm_add]
   refine sm_congr fun j hj => ?_
   rw [← Int.mul_assoc, hM k hk hne j hj, Int.sub_mul, Int.mul_assoc, Int.mul_assoc]; omega
  have er : sm (fun j => M' r j * z j) n = sm (fun j => M r j * z j) n := sm_congr fun j hj => by rw [hMr j hj]
  constructor
  ·
   intro H k hk
   by_cases ek : k = r
   · rw [ek, er]; exact H r hr
   ·
    have := e k hk ek
    rw [H k hk, H r hr] at this
    simp only [Int.mul_zero, Int.sub_self] at this
    exact (Int.mul_eq_zero.1 this).resolve_left (hg k hk ek)
  ·
   intro H k hk
   by_cases ek : k = r
   · rw [ek, ← er]; exact H r hr
   ·
    have := e k hk ek
    rw [H k hk, ← er, H r hr, Int.mul_zero, Int.mul_zero, Int.sub_zero] at this
    exact (Int.mul_eq_zero.1 this.symm).resolve_left h0
def Fair (n : Nat) (R : Nat → Int) : Prop := (∀ j, j < n → R j = 0) ∨ ∃ (e : Nat → Int) (g : Int), 1 ≤ g ∧ g ≤ 9 ∧ sm (fun j => e j * R j) n = g
theorem jd {n : Nat} {R s : Nat → Int} {u lam S : Int} (hu : u ≠ 0) (hl : lam ≠ 0) (hs : ∀ j, j < n → u * s j = lam * R j) (hS : ∀ j, j < n → -S ≤ s j ∧ s j ≤ S) (hf : Fair n R) (hS0 : 0 ≤ S) : ∀ j, j < n → -(9 * S) ≤ R j ∧ R j ≤ 9 * S := by
 rcases hf with hf | ⟨e, g, h1, h9, hg⟩
 · intro j hj; rw [hf j hj]; omega
 ·
  obtain ⟨q, hq⟩ : ∃ q, q = sm (fun j => e j * s j) n := ⟨_, rfl⟩
  have hlg : lam * g = u * q := by
   rw [← hg, hq, ← sm_mul, ← sm_mul]
   refine sm_congr fun j hj => ?_
   have := hs j hj
   rw [← Int.mul_assoc, Int.mul_comm lam, Int.mul_assoc, ← this, ← Int.mul_assoc, Int.mul_comm (e j), Int.mul_assoc]
  have hq0 : q ≠ 0 := fun e0 => by
   rw [e0, Int.mul_zero] at hlg
   rcases Int.mul_eq_zero.1 hlg with h | h
   · exact hl h
   · omega
  intro j hj
  have hk : g * s j = q * R j := by
   have : u * (g * s j) = u * (q * R j) := by
    rw [← Int.mul_assoc u q, ← hlg, Int.mul_assoc, Int.mul_left_comm lam, ← hs j hj, Int.mul_left_comm]
   exact Int.eq_of_mul_eq_mul_left hu this
  have hb := hS j hj
  have ha : (R j).natAbs ≤ (g * s j).natAbs := by
   rw [hk, Int.natAbs_mul]
   exact Nat.le_mul_of_pos_left _ (by omega)
  rw [Int.natAbs_mul] at ha
  have hc : g.natAbs * (s j).natAbs ≤ 9 * S.toNat := Nat.mul_le_mul (by omega) (by omega)
  omega
theorem prod_bd {a b x y : Int} (ha : 0 ≤ a) (hb : 0 ≤ b) (hx : -a ≤ x ∧ x ≤ a) (hy : -b ≤ y ∧ y ≤ b) : -(a * b) ≤ x * y ∧ x * y ≤ a * b := by
 have h : (x * y).natAbs ≤ a.toNat * b.toNat := by rw [Int.natAbs_mul]; exact Nat.mul_le_mul (by omega) (by omega)
 have e : ((a.toNat * b.toNat : Nat) : Int) = a * b := by rw [Int.natCast_mul, Int.toNat_of_nonneg ha, Int.toNat_of_nonneg hb]
 omega
theorem Gs.small {m n a : Nat} {A0 A M : Nat → Nat → Int} {r c : Nat} {p : Nat → Nat} (h : Gs m n a A0 A M r c p) (ha : 1 ≤ a) (hm : 1 ≤ m) (i : Nat) (hi : i < m) (hf : Fair n (M i)) :
  ∀ j, j < n → -(9 * (((m * a) ^ m : Nat) : Int)) ≤ M i j ∧ M i j ≤ 9 * (((m * a) ^ m : Nat) : Int) := by
 have hr := h.hr; have hcn := h.hc
 obtain ⟨u, hu, X, x, h1, h2, h3⟩ := h.comb
 have hma : 1 ≤ m * a := Nat.mul_pos hm ha
 have key : ∀ N, N + 1 ≤ m → ∀ (κ : Nat → Nat), (∀ k, k < N + 1 → κ k < m) → ∀ y : Nat → Int, (∀ k, -((((N + 1) * a) ^ N : Nat) : Int) ≤ y k ∧ y k ≤ (((N + 1) * a) ^ N : Nat)) → ∀ j, j < n → -(((m * a) ^ m : Nat) : Int) ≤ sm (fun k => y k * A (κ k) j) (N + 1) ∧ sm (fun k => y k * A (κ k) j) (N + 1) ≤ ((m * a) ^ m : Nat) := by
  intro N hN κ hκ y hy j hj
  have hb := kH (f := fun k => y k * A (κ k) j) ((((((N + 1) * a) ^ N : Nat) : Int)) * (a : Int)) (n := N + 1) (fun k hk => prod_bd (by omega) (by omega) (hy k) (h.bnd _ (hκ k hk) j hj))
  have e : ((((N + 1) * a) ^ N : Nat) : Int) * (a : Int) * ((N + 1 : Nat) : Int) = (((((N + 1) * a) ^ (N + 1)) : Nat) : Int) := by
   rw [Nat.pow_succ, ← Int.natCast_mul, ← Int.natCast_mul, Nat.mul_assoc, Nat.mul_comm a]
  have h4 : ((N + 1) * a) ^ (N + 1) ≤ (m * a) ^ m := Nat.le_trans (Nat.pow_le_pow_left (Nat.mul_le_mul_right a hN) _) (Nat.pow_le_pow_right hma hN)
  rw [e] at hb
  omega
 by_cases hir : r ≤ i
 ·
  obtain ⟨y, ⟨k0, hk0, hy0⟩, hyb, hys⟩ := zA r a ha (fun k j => A (if k < r then k else i) (p j)) (fun k j hk hj => by
   have := h.ps j hj
   exact h.bnd _ (by split <;> omega) _ (by omega))
  have hκ : ∀ k, k < r + 1 → (if k < r then k else i) < m := fun k hk => by split <;> omega
  have hex := fun j hj => zV (N := r + 1) h3 (fun k => if k < r then k else i) hκ y j hj
  have hx : ∀ j, sm (fun k => y k * x (if k < r then k else i) * M (if k < r then k else i) j) (r + 1) = y r * x i * M i j := fun j => by
   rw [zq r (by omega) (fun k hk hne => by rw [if_pos (by omega), h2 k (by omega)]; simp)]
   simp only [Nat.lt_irrefl, if_false]
  have hC : ∀ l, l < r → sm (fun k => y k * X (if k < r then k else i) l) (r + 1) = 0 := fun l hl => by
   have hp := h.ps l hl
   have := hex (p l) (by omega)
   rw [hys l hl, Int.mul_zero, h.coef _ l hl, hx, h.off l hl i hi (by omega), Int.mul_zero, Int.add_zero] at this
   exact (Int.mul_eq_zero.1 this.symm).resolve_right (h.diag l hl)
  have hlam : ∀ j, j < n → u * sm (fun k => y k * A (if k < r then k else i) j) (r + 1) = y r * x i * M i j := fun j hj => by
   rw [hex j hj, sm_zero (n := r) (fun l hl => by rw [hC l hl, Int.zero_mul]), Int.zero_add, hx]
  by_cases hyr : y r = 0
  ·
   exfalso
   have := h.indep y (fun j hj => by
    have := hlam j hj
    rw [hyr, Int.zero_mul, Int.zero_mul, Int.mul_eq_zero] at this
    have := this.resolve_left hu
    simp only [sm] at this
    rw [hyr, Int.zero_mul, Int.add_zero] at this
    rw [← this]
    exact sm_congr fun k hk => by rw [if_pos hk])
   by_cases e : k0 = r
   · rw [e] at hy0; exact hy0 hyr
   · exact hy0 (this k0 (by omega))
  · exact jd hu (fun e => (Int.mul_eq_zero.1 e).elim hyr (h1 i hi hir)) hlam (key r (by omega) _ hκ y hyb) hf (by omega)
 ·
  have hir' : i < r := by omega
  obtain ⟨N, rfl⟩ : ∃ N, r = N + 1 := ⟨r - 1, by omega⟩
  obtain ⟨y, ⟨k0, hk0, hy0⟩, hyb, hys⟩ := zA N a ha (fun k j => A k (p (if j < i then j else j + 1))) (fun k j hk hj => by
   have := h.ps (if j < i then j else j + 1) (by split <;> omega)
   exact h.bnd _ (by omega) _ (by omega))
  have hex := fun j hj => zV (N := N + 1) h3 (fun k => k) (fun k hk => by omega) y j hj
  have hx : ∀ j, sm (fun k => y k * x k * M k j) (N + 1) = 0 := fun j => sm_zero fun k hk => by rw [h2 k hk]; simp
  have hC : ∀ l, l < N + 1 → l ≠ i → sm (fun k => y k * X k l) (N + 1) = 0 := fun l hl hne => by
   have hp := h.ps l hl
   have := hex (p l) (by omega)
   have hs := hys (if l < i then l else l - 1) (by split <;> omega)
   rw [show (if (if l < i then l else l - 1) < i then (if l < i then l else l - 1) else (if l < i then l else l - 1) + 1) = l by by_cases e : l < i; (rw [if_pos e, if_pos e]); (rw [if_neg e, if_neg (by omega)]; omega)] at hs
   rw [hs, Int.mul_zero, h.coef _ l hl, hx, Int.add_zero] at this
   exact (Int.mul_eq_zero.1 this.symm).resolve_right (h.diag l hl)
  have hlam : ∀ j, j < n → u * sm (fun k => y k * A k j) (N + 1) = sm (fun k => y k * X k i) (N + 1) * M i j := fun j hj => by
   rw [hex j hj, hx, Int.add_zero, zq i hir' (fun l hl hne => by rw [hC l hl hne, Int.zero_mul])]
  by_cases hl0 : sm (fun k => y k * X k i) (N + 1) = 0
  ·
   exfalso
   exact hy0 (h.indep y (fun j hj => by
    have := hlam j hj
    rw [hl0, Int.zero_mul, Int.mul_eq_zero] at this
    exact this.resolve_left hu) k0 hk0)
  · exact jd hu hl0 hlam (key N (by omega) (fun k => k) (fun k hk => by omega) y hyb) hf (by omega)
def InKer (m n : Nat) (A : Nat → Nat → Int) (z : Nat → Int) : Prop := ∀ i, i < m → sm (fun j => A i j * z j) n = 0
def PosRel (m n : Nat) (A : Nat → Nat → Int) : Prop := ∃ z : Nat → Int, (∀ j, j < n → 0 < z j) ∧ InKer m n A z ∧ ∀ z', InKer m n A z' → ∀ j, j < n → ∀ k, k < n → z j * z' k = z k * z' j
theorem kQ (m n : Nat) (M : Nat → Nat → Int) : ∃ a : Nat, 1 ≤ a ∧ ∀ i, i < m → ∀ j, j < n → -(a : Int) ≤ M i j ∧ M i j ≤ a := by
 have h1 : ∀ (f : Nat → Int) (n : Nat), ∃ a : Nat, ∀ j, j < n → -(a : Int) ≤ f j ∧ f j ≤ a := by
  intro f n
  induction n with
  | zero => exact ⟨0, fun j hj => by omega⟩
  | succ n ih =>
   obtain ⟨a, ha⟩ := ih
   refine ⟨a + (f n).natAbs, fun j hj => ?_⟩
   by_cases e : j = n
   · subst e; omega
   · have := ha j (by omega); omega
 induction m with
 | zero => exact ⟨1, by omega, fun i hi => by omega⟩
 | succ m ih =>
  obtain ⟨a, h0, ha⟩ := ih
  obtain ⟨b, hb⟩ := h1 (M m) n
  refine ⟨a + b, by omega, fun i hi j hj => ?_⟩
  by_cases e : i = m
  · subst e; have := hb j hj; omega
  · have := ha i (by omega) j hj; omega
theorem qD (m : Nat) (A : Nat → Nat → Int) : ∃ y : Nat → Int, (∃ k, k < m + 1 ∧ y k ≠ 0) ∧ ∀ j, j < m → sm (fun k => y k * A k j) (m + 1) = 0 := by
 obtain ⟨a, h1, h2⟩ := kQ (m + 1) m A
 obtain ⟨y, h3, _, h4⟩ := zA m a h1 A (fun k j hk hj => h2 k hk j hj)
 exact ⟨y, h3, h4⟩
theorem zt0 {f : Nat → Int} (p q : Nat) (hpq : p ≠ q) {n : Nat} (hp : p < n) (hq : q < n) (h : ∀ k, k < n → k ≠ p → k ≠ q → f k = 0) : sm f n = f p + f q := by
 have e : sm f n = sm (fun k => (if k = p then f k else 0) + (if k = p then 0 else f k)) n := sm_congr fun k _ => by split <;> omega
 rw [e, sm_add, zq p hp (fun k _ hk => if_neg hk), zq q hq (fun k hk hne => by
  by_cases e : k = p
  · rw [if_pos e]
  · rw [if_neg e]; exact h k hk e hne), if_pos rfl, if_neg (fun e => hpq e.symm)]
section Final
variable {m n a : Nat} {A0 A M : Nat → Nat → Int} {r : Nat} {p : Nat → Nat}
theorem Gs.places (h : Gs m n a A0 A M r n p) : ∀ l, l < r → l ≤ p l ∧ p l + r ≤ l + n := by
 have h1 : ∀ l, l < r → l ≤ p l := by
  intro l
  induction l with
  | zero => intro _; omega
  | succ l ih => intro hl; have := ih (by omega); have := h.asc l (l + 1) (by omega) hl; omega
 have h2 : ∀ d l, l < r → l + d + 1 = r → p l + r ≤ l + n := by
  intro d
  induction d with
  | zero => intro l hl e; have := h.ps l hl; omega
  | succ d ih => intro l hl e; have := ih (l + 1) (by omega) (by omega); have := h.asc l (l + 1) (by omega) (by omega); omega
 exact fun l hl => ⟨h1 l hl, h2 (r - l - 1) l hl (by omega)⟩
theorem Gs.rank (h : Gs m n a A0 A M r n p) : r ≤ n := by
 by_cases e : r = 0
 · omega
 · have := h.places (r - 1) (by omega); have := h.ps (r - 1) (by omega); omega
theorem Gs.zeros (h : Gs m n a A0 A M r n p) (z : Nat → Int) : (∀ i, i < m → sm (fun j => M i j * z j) n = 0) ↔ ∀ i, i < r → sm (fun j => M i j * z j) n = 0 := by
 have := h.hr
 refine ⟨fun H i hi => H i (by omega), fun H i hi => ?_⟩
 by_cases e : i < r
 · exact H i e
 · exact sm_zero fun j hj => by rw [h.low i hi (by omega) j hj, Int.zero_mul]
def Free (n r : Nat) (p : Nat → Nat) (f : Nat) : Prop := f ≤ r ∧ (∀ l, l < f → p l = l) ∧ ∀ l, f ≤ l → l < r → p l = l + 1
theorem Gs.free_at (h : Gs m n a A0 A M r n p) (hrn : r + 1 = n) (f : Nat) (hf : f ≤ r) (h1 : ∀ l, l < f → p l = l) (h2 : f < r → p f ≠ f) : Free n r p f := by
 refine ⟨hf, h1, fun l hl hr => ?_⟩
 have hp := h.places l hr
 have hpf := h.places f (by omega)
 have h3 := h2 (by omega)
 by_cases e : l = f
 · subst e; omega
 ·
  have : ∀ d, f + d < r → f + d + 1 ≤ p (f + d) := by
   intro d
   induction d with
   | zero => intro _; simp only [Nat.add_zero]; omega
   | succ d ih => intro hd; have := ih (by omega); have := h.asc (f + d) (f + (d + 1)) (by omega) hd; omega
  have := this (l - f) (by omega)
  rw [show f + (l - f) = l by omega] at this
  omega
theorem Gs.row (h : Gs m n a A0 A M r n p) (hrn : r + 1 = n) {f : Nat} (hf : Free n r p f) (l : Nat) (hl : l < r) (z : Nat → Int) : sm (fun j => M l j * z j) n = M l (p l) * z (p l) + M l f * z f := by
 have hr := h.hr
 have hfp : p l ≠ f := by
  by_cases e : l < f
  · rw [hf.2.1 l e]; omega
  · rw [hf.2.2 l (by omega) hl]; omega
 refine zt0 (f := fun j => M l j * z j) (p l) f hfp (h.ps l hl) (by have := hf.1; omega) (fun k hk h1 h2 => ?_)
 obtain ⟨l', hl', e⟩ : ∃ l', l' < r ∧ p l' = k := by
  by_cases e : k < f
  · exact ⟨k, by have := hf.1; omega, hf.2.1 k e⟩
  · exact ⟨k - 1, by omega, by rw [hf.2.2 (k - 1) (by omega) (by omega)]; omega⟩
 rw [← e, h.off l' hl' l (by omega) (fun x => h1 (by rw [x, e])), Int.zero_mul]
theorem Gs.ker_iff (h : Gs m n a A0 A M r n p) (hrn : r + 1 = n) {f : Nat} (hf : Free n r p f) (z : Nat → Int) : InKer m n A0 z ↔ ∀ l, l < r → M l (p l) * z (p l) + M l f * z f = 0 := by
 unfold InKer
 rw [h.ker z, h.zeros z]
 exact ⟨fun H l hl => by rw [← h.row hrn hf l hl z]; exact H l hl, fun H l hl => by rw [h.row hrn hf l hl z]; exact H l hl⟩
theorem Gs.cover (h : Gs m n a A0 A M r n p) (hrn : r + 1 = n) {f : Nat} (hf : Free n r p f) (j : Nat) (hj : j < n) : j = f ∨ ∃ l, l < r ∧ p l = j := by
 by_cases e : j = f
 · exact Or.inl e
 ·
  by_cases e2 : j < f
  · exact Or.inr ⟨j, by have := hf.1; omega, hf.2.1 j e2⟩
  · exact Or.inr ⟨j - 1, by omega, by rw [hf.2.2 (j - 1) (by omega) (by omega)]; omega⟩
theorem Gs.posrel (h : Gs m n a A0 A M r n p) (hrn : r + 1 = n) {f : Nat} (hf : Free n r p f) (out : Nat → Int) (h0 : 0 < out f) (ho : ∀ l, l < r → M l (p l) * out (p l) + M l f * out f = 0) :
  PosRel m n A0 ↔ ∀ j, j < n → 0 < out j := by
 have hfn : f < n := by have := hf.1; omega
 have hmul : ∀ z, InKer m n A0 z → ∀ j, j < n → out f * z j = out j * z f := by
  intro z hz j hj
  rcases h.cover hrn hf j hj with rfl | ⟨l, hl, rfl⟩
  · rfl
  ·
   have h1 := (h.ker_iff hrn hf z).1 hz l hl
   have h2 := ho l hl
   refine Int.eq_of_mul_eq_mul_left (h.diag l hl) ?_
   have e1 : M l (p l) * (out f * z (p l)) = out f * (M l (p l) * z (p l)) := Int.mul_left_comm _ _ _
   have e2 : M l (p l) * (out (p l) * z f) = (M l (p l) * out (p l)) * z f := (Int.mul_assoc _ _ _).symm
   rw [e1, e2, show M l (p l) * z (p l) = -(M l f * z f) by omega, show M l (p l) * out (p l) = -(M l f * out f) by omega, Int.mul_neg, Int.neg_mul, Int.mul_left_comm, Int.mul_assoc]
 have hk : InKer m n A0 out := (h.ker_iff hrn hf out).2 ho
 constructor
 ·
  rintro ⟨z, hz, hzk, _⟩ j hj
  have h1 := hmul z hzk j hj
  have h2 := Int.mul_pos h0 (hz j hj)
  rw [h1] at h2
  exact Int.pos_of_mul_pos_left h2 (hz f hfn)
 ·
  intro hp
  refine ⟨out, hp, hk, fun z' hz' j hj k hk' => ?_⟩
  have h1 := hmul z' hz' j hj
  have h2 := hmul z' hz' k hk'
  refine Int.eq_of_mul_eq_mul_left (show out f ≠ 0 by omega) ?_
  rw [Int.mul_left_comm, h2, Int.mul_left_comm (out f), h1, Int.mul_left_comm]
theorem Gs.norel (h : Gs m n a A0 A M r n p) (hn : 1 ≤ n) (hrn : r + 1 ≠ n) : ¬ PosRel m n A0 := by
 rintro ⟨z, hz, hzk, hz1⟩
 have hrk := h.rank
 have hr := h.hr
 have hz2 := (h.zeros z).1 ((h.ker z).1 hzk)
 by_cases e : r = n
 ·
  have hp : ∀ l, l < n → p l = l := fun l hl => by have := h.places l (by omega); omega
  have h1 := hz2 0 (by omega)
  rw [zq (f := fun j => M 0 j * z j) 0 (by omega) (fun k hk hne => by
   have := h.off k (by omega) 0 (by omega) (fun x => hne x.symm)
   rw [hp k hk] at this
   rw [this, Int.zero_mul])] at h1
  have h2 := h.diag 0 (by omega)
  rw [hp 0 (by omega)] at h2
  have h3 := hz 0 (by omega)
  rcases Int.mul_eq_zero.1 h1 with e | e
  · exact h2 e
  · omega
 ·
  obtain ⟨y, ⟨k0, hk0, hy0⟩, hy⟩ := qD r (fun k j => M j k)
  have hyk : InKer m n A0 (fun k => if k < r + 1 then y k else 0) := by
   refine (h.ker _).2 ((h.zeros _).2 (fun i hi => ?_))
   have h1 := hy i hi
   have h2 : ∀ d, sm (fun j => M i j * (if j < r + 1 then y j else 0)) (r + 1 + d) = 0 := by
    intro d
    induction d with
    | zero =>
     rw [← h1]
     exact sm_congr fun k hk => by rw [if_pos hk, Int.mul_comm]
    | succ d ih =>
     rw [show r + 1 + (d + 1) = (r + 1 + d) + 1 by omega]
     simp only [sm]
     rw [ih, if_neg (by omega), Int.mul_zero]; rfl
   have := h2 (n - (r + 1))
   rw [show r + 1 + (n - (r + 1)) = n by omega] at this
   exact this
  have h3 := hz1 _ hyk k0 (by omega) (n - 1) (by omega)
  rw [if_neg (by omega), Int.mul_zero, if_pos hk0] at h3
  rcases Int.mul_eq_zero.1 h3.symm with e | e
  · have := hz (n - 1) (by omega); omega
  · exact hy0 e
theorem Gs.back (h : Gs m n a A0 A M r n p) (l : Nat) (hl : l < r) : ∃ t : Int, t ≠ 0 ∧ ∃ Y : Nat → Int, ∀ j, j < n → t * M l j = sm (fun k => Y k * A k j) r := by
 have hr := h.hr
 obtain ⟨u, hu, X, x, h1, h2, h3⟩ := h.comb
 obtain ⟨y, ⟨k0, hk0, hy0⟩, hy⟩ := qD r (fun k j => if k < r then X k j else if j = l then u else 0)
 have hC : ∀ j, j < r → sm (fun k => y k * X k j) r = -(y r * (if j = l then u else 0)) := fun j hj => by
  have := hy j hj
  simp only [sm] at this
  rw [sm_congr (g := fun k => y k * X k j) (fun k hk => by rw [if_pos hk]), if_neg (Nat.lt_irrefl _)] at this
  omega
 have hex : ∀ j, j < n → u * sm (fun k => y k * A k j) r = -(u * (y r * M l j)) := fun j hj => by
  have := zV (N := r) h3 (fun k => k) (fun k hk => by omega) y j hj
  rw [this, sm_zero (n := r) (f := fun k => y k * x k * M k j) (fun k hk => by rw [h2 k hk]; simp), Int.add_zero, zq l hl (fun k hk hne => by rw [hC k hk, if_neg hne]; simp), hC l hl, if_pos rfl, Int.neg_mul]
  congr 1
  rw [Int.mul_comm (y r) u, Int.mul_assoc]
 have hex2 : ∀ j, j < n → sm (fun k => y k * A k j) r = -(y r * M l j) := fun j hj => by
  refine Int.eq_of_mul_eq_mul_left hu ?_
  rw [hex j hj, Int.mul_neg]
 have hyr : y r ≠ 0 := fun e => by
  have := h.indep y (fun j hj => by rw [hex2 j hj, e]; simp)
  by_cases e0 : k0 = r
  · rw [e0] at hy0; exact hy0 e
  · exact hy0 (this k0 (by omega))
 exact ⟨-(y r), by omega, y, fun j hj => by rw [hex2 j hj, Int.neg_mul]⟩
theorem Gs.tame (h : Gs m n a A0 A M r n p) (ha : 1 ≤ a) (hrn : r + 1 = n) {f : Nat} (hf : Free n r p f) :
  ∃ z : Nat → Int, z f ≠ 0 ∧ (∀ j, -(((n * a) ^ r : Nat) : Int) ≤ z j ∧ z j ≤ ((n * a) ^ r : Nat)) ∧ ∀ l, l < r → M l (p l) * z (p l) + M l f * z f = 0 := by
 have hr := h.hr
 obtain ⟨z, ⟨k0, hk0, hz0⟩, hzb, hz⟩ := zA r a ha (fun k j => A j k) (fun k j hk hj => h.bnd j (by omega) k (by omega))
 have hrow : ∀ l, l < r → M l (p l) * z (p l) + M l f * z f = 0 := fun l hl => by
  rw [← h.row hrn hf l hl z]
  obtain ⟨t, ht, Y, hY⟩ := h.back l hl
  refine (Int.mul_eq_zero.1 (show t * sm (fun j => M l j * z j) n = 0 from ?_)).resolve_left ht
  rw [← sm_mul, sm_congr (g := fun j => sm (fun k => Y k * (A k j * z j)) r) (fun j hj => by
   rw [← Int.mul_assoc, hY j hj, Int.mul_comm, ← sm_mul]
   exact sm_congr fun k _ => by rw [Int.mul_comm (z j), Int.mul_assoc])]
  rw [sm_comm]
  refine sm_zero fun k hk => ?_
  rw [sm_mul, ← hrn, sm_congr (g := fun j => z j * A k j) (fun j _ => Int.mul_comm _ _), hz k hk, Int.mul_zero]
 refine ⟨z, fun e => ?_, fun j => by rw [← hrn]; exact hzb j, hrow⟩
 rcases h.cover hrn hf k0 (by omega) with rfl | ⟨l, hl, rfl⟩
 · exact hz0 e
 ·
  have := hrow l hl
  rw [e, Int.mul_zero, Int.add_zero] at this
  exact (Int.mul_eq_zero.1 this).elim (h.diag l hl) hz0
theorem Gs.pivot_dvd (h : Gs m n a A0 A M r n p) (hrn : r + 1 = n) {f : Nat} (hf : Free n r p f) (hfair : ∀ l, l < r → Fair n (M l)) (z : Nat → Int) (hz : ∀ l, l < r → M l (p l) * z (p l) + M l f * z f = 0) (l : Nat) (hl : l < r) : M l (p l) ∣ 2520 * z f := by
 rcases hfair l hl with h0 | ⟨e, g, h1, h9, hg⟩
 · exact absurd (h0 _ (h.ps l hl)) (h.diag l hl)
 ·
  have hrow := h.row hrn hf l hl e
  have hg' : M l (p l) * e (p l) + M l f * e f = g := by
   rw [← hrow, ← hg]; exact sm_congr fun j _ => Int.mul_comm _ _
  have hd : M l (p l) ∣ g * z f := by
   refine ⟨e (p l) * z f - e f * z (p l), ?_⟩
   have h2 := hz l hl
   have h3 : M l f * z f * e f = -(M l (p l) * z (p l)) * e f := by rw [show M l f * z f = -(M l (p l) * z (p l)) by omega]
   rw [← hg', Int.add_mul, Int.mul_sub, Int.mul_assoc (M l (p l)), Int.mul_right_comm (M l f), h3, Int.neg_mul, Int.mul_assoc, Int.mul_comm (z (p l))]
   omega
  obtain ⟨k, hk⟩ : ∃ k, 2520 = k * g := by
   have : g = 1 ∨ g = 2 ∨ g = 3 ∨ g = 4 ∨ g = 5 ∨ g = 6 ∨ g = 7 ∨ g = 8 ∨ g = 9 := by omega
   rcases this with rfl | rfl | rfl | rfl | rfl | rfl | rfl | rfl | rfl
   · exact ⟨2520, rfl⟩
   · exact ⟨1260, rfl⟩
   · exact ⟨840, rfl⟩
   · exact ⟨630, rfl⟩
   · exact ⟨504, rfl⟩
   · exact ⟨420, rfl⟩
   · exact ⟨360, rfl⟩
   · exact ⟨315, rfl⟩
   · exact ⟨280, rfl⟩
  rw [hk, Int.mul_assoc]
  exact Int.dvd_trans hd (Int.dvd_mul_left _ _)
end Final
theorem bez (a b : Nat) : ∃ x y : Int, x * a + y * b = (Nat.gcd a b : Nat) := by
 induction a, b using Nat.gcd.induction with
 | H0 n => exact ⟨0, 1, by simp⟩
 | H1 m n hm ih =>
  obtain ⟨x, y, h⟩ := ih
  refine ⟨y - x * ((n / m : Nat) : Int), x, ?_⟩
  rw [Nat.gcd_rec, ← h]
  have e : ((n % m : Nat) : Int) = (n : Int) - (m : Int) * ((n / m : Nat) : Int) := by
   have := Nat.mod_add_div n m
   have h2 : ((n % m + m * (n / m) : Nat) : Int) = (n : Int) := by rw [this]
   rw [Int.natCast_add, Int.natCast_mul] at h2; omega
  rw [e, Int.sub_mul, Int.mul_sub, Int.mul_assoc, Int.mul_comm (n / m : Nat) (m : Int)]; omega
def gl (l : List Int) : Nat := l.foldl (fun g x => Nat.gcd g x.natAbs) 0
theorem kR (l : List Int) (x : Int) : gl (l ++ [x]) = Nat.gcd (gl l) x.natAbs := by simp [gl]
theorem gl_take (l : List Int) (i : Nat) (h : i < l.length) : gl (l.take (i + 1)) = Nat.gcd (gl (l.take i)) (l.getD i 0).natAbs := by
 rw [List.take_succ_eq_append_getElem h, kR]
 simp [List.getD_eq_getElem?_getD, List.getElem?_eq_getElem h]
theorem gl_bd (l : List Int) (B : Nat) (h : ∀ j, j < l.length → (l.getD j 0).natAbs ≤ B) : ∀ i, i ≤ l.length → gl (l.take i) ≤ B := by
 intro i
 induction i with
 | zero => intro _; simp [gl]
 | succ i ih =>
  intro hi
  rw [gl_take l i (by omega)]
  have h1 := h i (by omega)
  rcases Nat.eq_zero_or_pos (l.getD i 0).natAbs with e | e
  · rw [e, Nat.gcd_zero_right]; exact ih (by omega)
  · exact Nat.le_trans (Nat.gcd_le_right _ e) h1
theorem qE (l : List Int) : ∀ i, i ≤ l.length → ∀ j, j < i → (gl (l.take i) : Int) ∣ l.getD j 0 := by
 intro i
 induction i with
 | zero => intro _ j h; omega
 | succ i ih =>
  intro hi j hj
  rw [gl_take l i (by omega)]
  by_cases e : j = i
  · subst e; exact Int.dvd_trans (Int.natCast_dvd_natCast.2 (Nat.gcd_dvd_right _ _)) (Int.natAbs_dvd.2 (Int.dvd_refl _))
  · exact Int.dvd_trans (Int.natCast_dvd_natCast.2 (Nat.gcd_dvd_left _ _)) (ih (by omega) j (by omega))
theorem zu0 (l : List Int) : ∀ i, i ≤ l.length → ∃ e : Nat → Int, sm (fun j => e j * l.getD j 0) i = (gl (l.take i) : Nat) := by
 intro i
 induction i with
 | zero => intro _; exact ⟨fun _ => 0, by simp [sm, gl]⟩
 | succ i ih =>
  intro hi
  obtain ⟨e, he⟩ := ih (by omega)
  obtain ⟨x, y, hxy⟩ := bez (gl (l.take i)) (l.getD i 0).natAbs
  have hs : ∃ s : Int, ((l.getD i 0).natAbs : Int) = s * l.getD i 0 := by
   rcases Int.natAbs_eq (l.getD i 0) with h | h
   · exact ⟨1, by omega⟩
   · exact ⟨-1, by omega⟩
  obtain ⟨s, hs⟩ := hs
  refine ⟨fun j => if j = i then y * s else x * e j, ?_⟩
  rw [gl_take l i (by omega), ← hxy]
  simp only [sm, if_true]
  rw [sm_congr (g := fun j => x * (e j * l.getD j 0)) (fun j hj => by rw [if_neg (by omega), Int.mul_assoc]), sm_mul, he, hs, Int.mul_assoc]
theorem kS (l : List Int) (h : gl l = 0) (j : Nat) : l.getD j 0 = 0 := by
 rcases Nat.lt_or_ge j l.length with hj | hj
 ·
  have := qE l l.length (Nat.le_refl _) j hj
  rw [List.take_length, h] at this
  exact Int.zero_dvd.1 this
 · rw [List.getD_eq_getElem?_getD, List.getElem?_eq_none hj]; rfl
def cut (l : List Int) : List Int := if gl l > 1 then l.map (fun x => Int.tdiv x (gl l : Int)) else l
theorem cut_len (l : List Int) : (cut l).length = l.length := by unfold cut; split <;> simp
theorem cut_at (l : List Int) : ∃ g : Int, 1 ≤ g ∧ ∀ j, l.getD j 0 = g * (cut l).getD j 0 := by
 unfold cut
 by_cases h : gl l > 1
 ·
  refine ⟨(gl l : Nat), by omega, fun j => ?_⟩
  rw [if_pos h]
  rcases Nat.lt_or_ge j l.length with hj | hj
  ·
   have hd := qE l l.length (Nat.le_refl _) j hj
   rw [List.take_length] at hd
   have e : (l.map (fun x => Int.tdiv x (gl l : Int))).getD j 0 = Int.tdiv (l.getD j 0) (gl l : Int) := by
    simp [List.getD_eq_getElem?_getD, List.getElem?_map, List.getElem?_eq_getElem hj]
   rw [e, Int.mul_tdiv_cancel' hd]
  · rw [List.getD_eq_getElem?_getD, List.getElem?_eq_none hj, List.getD_eq_getElem?_getD, List.getElem?_eq_none (by simpa using hj)]; simp
 · exact ⟨1, Int.le_refl _, fun j => by rw [if_neg h, Int.one_mul]⟩
theorem cut_fair (l : List Int) : Fair l.length (fun j => (cut l).getD j 0) := by
 obtain ⟨e, he⟩ := zu0 l l.length (Nat.le_refl _)
 rw [List.take_length] at he
 rcases Nat.eq_zero_or_pos (gl l) with h0 | h0
 ·
  refine Or.inl fun j hj => ?_
  obtain ⟨g, hg, h⟩ := cut_at l
  have := kS l h0 j
  rw [h j] at this
  exact (Int.mul_eq_zero.1 this).resolve_left (by omega)
 ·
  refine Or.inr ⟨e, 1, by omega, by omega, ?_⟩
  unfold cut
  by_cases h : gl l > 1
  ·
   rw [if_pos h]
   have hc : ∀ j, j < l.length → (gl l : Int) * (l.map (fun x => Int.tdiv x (gl l : Int))).getD j 0 = l.getD j 0 := fun j hj => by
    have hd := qE l l.length (Nat.le_refl _) j hj
    rw [List.take_length] at hd
    rw [show (l.map (fun x => Int.tdiv x (gl l : Int))).getD j 0 = Int.tdiv (l.getD j 0) (gl l : Int) by simp [List.getD_eq_getElem?_getD, List.getElem?_map, List.getElem?_eq_getElem hj], Int.mul_tdiv_cancel' hd]
   refine Int.eq_of_mul_eq_mul_left (show (gl l : Int) ≠ 0 by omega) ?_
   rw [← sm_mul, Int.mul_one]
   refine Eq.trans (sm_congr fun j hj => ?_) he
   show (gl l : Int) * (e j * (l.map (fun x => Int.tdiv x (gl l : Int))).getD j 0) = e j * l.getD j 0
   rw [Int.mul_left_comm, hc j hj]
  · rw [if_neg h, he]; omega
theorem small_fair (n : Nat) (R : Nat → Int) (h : ∀ j, j < n → -9 ≤ R j ∧ R j ≤ 9) : Fair n R := by
 by_cases c : ∀ j, j < n → R j = 0
 · exact Or.inl c
 ·
  obtain ⟨j, hj⟩ := Classical.not_forall.1 c
  obtain ⟨hj, h0⟩ := Classical.not_imp.1 hj
  have hb := h j hj
  refine Or.inr ⟨fun k => if k = j then (if 0 < R j then 1 else -1) else 0, if 0 < R j then R j else -R j, by split <;> omega, by split <;> omega, ?_⟩
  rw [zq j hj (fun k hk hne => by simp only [if_neg hne, Int.zero_mul])]
  simp only [if_true]
  split <;> omega
theorem Fair.congr {n : Nat} {R S : Nat → Int} (h : Fair n R) (e : ∀ j, j < n → S j = R j) : Fair n S := by
 rcases h with h | ⟨w, g, h1, h2, h3⟩
 · exact Or.inl fun j hj => by rw [e j hj, h j hj]
 · exact Or.inr ⟨w, g, h1, h2, by rw [← h3]; exact sm_congr fun j hj => by rw [e j hj]⟩
def mt (R : List (List Int)) : Nat → Nat → Int := fun i j => (R.getD i []).getD j 0
def pv (p : List Int) : Nat → Nat := fun l => (p.getD l 0).toNat
def Shape (m n : Nat) (R : List (List Int)) : Prop := R.length = m ∧ ∀ i, i < m → (R.getD i []).length = n
theorem Shape.set {m n : Nat} {R : List (List Int)} (h : Shape m n R) (i : Nat) (s : List Int) (hs : s.length = n) : Shape m n (R.set i s) := by
 refine ⟨by rw [List.length_set]; exact h.1, fun k hk => ?_⟩
 by_cases e : i = k
 · subst e; rw [List.getD_eq_getElem?_getD, List.getElem?_set_self (by rw [h.1]; exact hk)]; exact hs
 · rw [List.getD_eq_getElem?_getD, List.getElem?_set_ne e, ← List.getD_eq_getElem?_getD]; exact h.2 k hk
theorem getD_row (R : List (List Int)) (i k : Nat) (s : List Int) (hk : k < R.length) : (R.set i s).getD k [] = if k = i then s else R.getD k [] := by
 by_cases e : k = i
 · subst e; rw [if_pos rfl, List.getD_eq_getElem?_getD, List.getElem?_set_self hk]; rfl
 · rw [if_neg e, List.getD_eq_getElem?_getD, List.getElem?_set_ne (fun h => e h.symm), ← List.getD_eq_getElem?_getD]
theorem mt_set {m n : Nat} {R : List (List Int)} (h : Shape m n R) (i : Nat) (s : List Int) (k : Nat) (hk : k < m) : mt (R.set i s) k = if k = i then (fun j => s.getD j 0) else mt R k := by
 funext j
 unfold mt
 rw [getD_row R i k s (by rw [h.1]; exact hk)]
 by_cases e : k = i
 · rw [if_pos e, if_pos e]
 · rw [if_neg e, if_neg e]
theorem Gs.congr {m n a : Nat} {A0 A M M' : Nat → Nat → Int} {r c : Nat} {p p' : Nat → Nat} (h : Gs m n a A0 A M r c p) (hM : ∀ i, i < m → ∀ j, j < n → M' i j = M i j) (hp : ∀ l, l < r → p' l = p l) : Gs m n a A0 A M' r c p' := by
 have h1 := h.scale (M' := M') (fun _ => 1) (fun _ _ => by decide) (fun k hk j hj => by rw [hM k hk j hj, Int.one_mul])
 exact { h1 with
  ps := fun l hl => by rw [hp l hl]; exact h1.ps l hl
  asc := fun l k hlk hk => by rw [hp l (by omega), hp k hk]; exact h1.asc l k hlk hk
  diag := fun l hl => by rw [hp l hl]; exact h1.diag l hl
  off := fun l hl i hi hne => by rw [hp l hl]; exact h1.off l hl i hi hne }
theorem InKer.scale {m n : Nat} {A : Nat → Nat → Int} {z z' : Nat → Int} (h : InKer m n A z) (g : Int) (hg : g ≠ 0) (e : ∀ j, j < n → z j = g * z' j) : InKer m n A z' := fun i hi => by
 have h1 := h i hi
 rw [sm_congr (g := fun j => g * (A i j * z' j)) (fun j hj => by rw [e j hj, Int.mul_left_comm]), sm_mul] at h1
 exact (Int.mul_eq_zero.1 h1).resolve_left hg
theorem InKer.congr {m n : Nat} {A : Nat → Nat → Int} {z z' : Nat → Int} (h : InKer m n A z) (e : ∀ j, j < n → z' j = z j) : InKer m n A z' := fun i hi => by
 rw [← h i hi]; exact sm_congr fun j hj => by rw [e j hj]
theorem PosRel_congr {m n : Nat} {A B : Nat → Nat → Int} (h : ∀ i, i < m → ∀ j, j < n → A i j = B i j) : PosRel m n A ↔ PosRel m n B := by
 have e : ∀ z, InKer m n A z ↔ InKer m n B z := fun z => by
  have hsm : ∀ i, i < m → sm (fun j => A i j * z j) n = sm (fun j => B i j * z j) n := fun i hi => sm_congr fun j hj => by rw [h i hi j hj]
  exact ⟨fun h i hi => (hsm i hi).symm.trans (h i hi), fun h i hi => (hsm i hi).trans (h i hi)⟩
 unfold PosRel
 simp only [e]
end Gz
namespace Gw
theorem js (l : List Int) (i : Nat) (hi : i < 1000000) (R : Int) : ∀ (N : Nat) (x3 x5 : Int), x5.natAbs ≤ N → (∀ g' : Int, g'.natAbs = Nat.gcd x3.natAbs x5.natAbs → Ev (fun k => impl_divisor.l0 k g' l (l.length : Int) ((i + 1 : Nat) : Int)) R) → Ev (fun k => impl_divisor.l1 k x3 x5 l (l.length : Int) (i : Int)) R := by
 intro N
 induction N with
 | zero =>
  intro x3 x5 h hR
  refine Ev.step (fun k => impl_divisor.l1.eq_2 ..) (evp (by omega) ?_)
  rw [w64s i (by omega)]
  exact hR x3 (by rw [show x5.natAbs = 0 by omega, Nat.gcd_zero_right])
 | succ N ih =>
  intro x3 x5 h hR
  by_cases c : x5 = 0
  ·
   refine Ev.step (fun k => impl_divisor.l1.eq_2 ..) (evp c ?_)
   rw [w64s i (by omega)]
   exact hR x3 (by rw [c, show (0 : Int).natAbs = 0 from rfl, Nat.gcd_zero_right])
  ·
   refine Ev.step (fun k => impl_divisor.l1.eq_2 ..) (evn c ?_)
   have h5 : 0 < x5.natAbs := by omega
   have hm := Nat.mod_lt x3.natAbs h5
   refine ih x5 (Int.tmod x3 x5) (by rw [Int.natAbs_tmod]; omega) (fun g' hg => hR g' ?_)
   rw [hg, Int.natAbs_tmod, Nat.gcd_comm x3.natAbs, Nat.gcd_rec x5.natAbs x3.natAbs, Nat.gcd_comm]
theorem jt (l : List Int) (hl : l.length < 1000000) (hB : ∀ j, j < l.length → (l.getD j 0).natAbs ≤ 9223372036854775800) : ∀ (d i : Nat) (g : Int), i + d = l.length → g.natAbs = Gz.gl (l.take i) → Ev (fun k => impl_divisor.l0 k g l (l.length : Int) (i : Int)) ((Gz.gl l : Nat) : Int) := by
 intro d
 induction d with
 | zero =>
  intro i g hi hg
  have hb := Gz.gl_bd l _ hB i (by omega)
  rw [show i = l.length by omega, List.take_length] at hg
  rw [show i = l.length by omega, List.take_length] at hb
  refine Ev.step (fun k => impl_divisor.l0.eq_2 ..) (evn (by omega) (evs ?_))
  rw [w64 (by omega) (by omega), ← hg]
  unfold mx; split <;> omega
 | succ d ih =>
  intro i g hi hg
  have er : rd l (i : Int) = l.getD i 0 := by show l.getD ((i : Int)).toNat 0 = _; rw [Int.toNat_natCast]
  refine Ev.step (fun k => impl_divisor.l0.eq_2 ..) (evp (by omega) (evp (by omega) (evp (by omega) ?_)))
  rw [er]
  refine js l i (by omega) _ _ _ _ (Nat.le_refl _) (fun g' hg' => ih (i + 1) g' (by omega) ?_)
  rw [hg', Gz.gl_take l i (by omega), hg]
theorem qF (l : List Int) (hl : l.length < 1000000) (hB : ∀ j, j < l.length → (l.getD j 0).natAbs ≤ 9223372036854775800) : Ev (fun k => impl_divisor.f k l) ((Gz.gl l : Nat) : Int) := by
 unfold impl_divisor.f
 exact jt l hl hB l.length 0 0 (by omega) (by simp [Gz.gl])
def zy (f : Int → Int) (l : List Int) (i : Nat) : List Int := (l.map f).take i ++ l.drop i
theorem kl (f : Int → Int) (l : List Int) (i : Nat) (h : i ≤ l.length) : (zy f l i).length = l.length := by simp [zy]; omega
theorem kT (f : Int → Int) (l : List Int) (i : Nat) (h : i < l.length) : rd (zy f l i) (i : Int) = l.getD i 0 := by
 show (zy f l i).getD ((i : Int)).toNat 0 = _
 rw [Int.toNat_natCast]
 unfold zy
 rw [List.getD_eq_getElem?_getD, List.getElem?_append_right (by simp; omega), List.length_take, List.length_map, Nat.min_eq_left (by omega), Nat.sub_self, List.getElem?_drop, List.getD_eq_getElem?_getD, Nat.add_zero]
theorem km (f : Int → Int) (l : List Int) (i : Nat) (h : i < l.length) : (zy f l i).set i (f (l.getD i 0)) = zy f l (i + 1) := by
 unfold zy
 rw [List.set_append_right _ _ (by simp; omega), List.length_take, List.length_map, Nat.min_eq_left (by omega), Nat.sub_self, List.drop_eq_getElem_cons h, List.set_cons_zero, List.take_succ_eq_append_getElem (by simpa using h), List.append_assoc]
 simp [List.getD_eq_getElem?_getD, List.getElem?_eq_getElem h]
theorem kn (f : Int → Int) (l : List Int) : zy f l l.length = l.map f := by unfold zy; rw [List.drop_length, List.append_nil, List.take_of_length_le (by simp)]
theorem qG (l : List Int) (g : Nat) (hg : 1 < g) (hl : l.length < 1000000) (hB : ∀ j, j < l.length → (l.getD j 0).natAbs ≤ 9223372036854775800) : ∀ (d i : Nat), i + d = l.length → Ev (fun k => impl_shortened.l0 k (zy (fun x => Int.tdiv x (g : Int)) l i) (g : Int) (l.length : Int) (i : Int)) (l.map (fun x => Int.tdiv x (g : Int))) := by
 intro d
 induction d with
 | zero =>
  intro i hi
  refine Ev.step (fun k => impl_shortened.l0.eq_2 ..) (evn (by omega) (evs ?_))
  rw [show i = l.length by omega, kn]
 | succ d ih =>
  intro i hi
  have hb := hB i (by omega)
  have hq : (Int.tdiv (l.getD i 0) (g : Int)).natAbs ≤ (l.getD i 0).natAbs := by rw [Int.natAbs_tdiv]; exact Nat.div_le_self _ _
  refine Ev.step (fun k => impl_shortened.l0.eq_2 ..) (evp (by omega) (evp (by omega) (evp (by rw [kl _ _ _ (by omega)]; omega) (evn (by omega) ?_))))
  rw [kT _ _ _ (by omega), Int.toNat_natCast, w64 (by omega) (by omega), km _ _ _ (by omega), w64s i (by omega)]
  exact ih (i + 1) (by omega)
theorem qH (l : List Int) (hl : l.length < 1000000) (hB : ∀ j, j < l.length → (l.getD j 0).natAbs ≤ 9223372036854775800) : Ev (fun k => impl_shortened.f k l) (Gz.cut l) := by
 unfold impl_shortened.f Gz.cut
 refine evb (qF l hl hB) ?_
 by_cases c : Gz.gl l > 1
 ·
  refine evp (by omega) ?_
  rw [if_pos c]
  exact qG l _ c hl hB l.length 0 (by omega)
 · exact evn (by omega) (evs (by rw [if_neg c]))
theorem zF (R : List (List Int)) (i c : Nat) : rd (R.getD i []) (c : Int) = Gz.mt R i c := by
 show (R.getD i []).getD ((c : Int)).toNat 0 = _
 rw [Int.toNat_natCast]; rfl
theorem qI {m n : Nat} {R : List (List Int)} (h : Gz.Shape m n R) (W : Int) (hW : 0 ≤ W) (hb : ∀ i, i < m → ∀ j, j < n → -W ≤ Gz.mt R i j ∧ Gz.mt R i j ≤ W) (i j : Nat) : -W ≤ Gz.mt R i j ∧ Gz.mt R i j ≤ W := by
 by_cases hi : i < m
 ·
  by_cases hj : j < n
  · exact hb i hi j hj
  ·
   have : Gz.mt R i j = 0 := by unfold Gz.mt; rw [List.getD_eq_getElem?_getD, List.getElem?_eq_none (by rw [h.2 i hi]; omega)]; rfl
   omega
 ·
  have : Gz.mt R i j = 0 := by
   unfold Gz.mt
   rw [show R.getD i [] = [] by rw [List.getD_eq_getElem?_getD, List.getElem?_eq_none (by rw [h.1]; omega)]; rfl]; rfl
  omega
def zj (n : Nat) (a b : Int) (x p : List Int) : List Int := (List.range n).map fun j : Nat => a * x.getD j 0 - b * p.getD j 0
theorem qJ (n : Nat) (a b : Int) (x p : List Int) (j : Nat) (h : j < n) : (zj n a b x p).getD j 0 = a * x.getD j 0 - b * p.getD j 0 := by
 simp [zj, List.getD_eq_getElem?_getD, List.getElem?_map, List.getElem?_range h]
theorem ko (n : Nat) (a b : Int) (x p : List Int) (W : Int) (hW : 0 ≤ W ∧ 2 * (W * W) ≤ 9223372036854775800) (ha : -W ≤ a ∧ a ≤ W) (hb : -W ≤ b ∧ b ≤ W) (hx : ∀ j, -W ≤ x.getD j 0 ∧ x.getD j 0 ≤ W) (hp : ∀ j, -W ≤ p.getD j 0 ∧ p.getD j 0 ≤ W) (j : Nat) (hj : j < (zj n a b x p).length) : ((zj n a b x p).getD j 0).natAbs ≤ 9223372036854775800 := by
 have hj' : j < n := by simpa [zj] using hj
 rw [qJ n a b x p j hj']
 have h1 := Gz.prod_bd hW.1 hW.1 ha (hx j)
 have h2 := Gz.prod_bd hW.1 hW.1 hb (hp j)
 omega
theorem irow (n : Nat) (a b : Int) (x p : List Int) (hxl : x.length = n) (W : Int) (hW : 0 ≤ W ∧ 2 * (W * W) ≤ 9223372036854775800) (ha : -W ≤ a ∧ a ≤ W) (hb : -W ≤ b ∧ b ≤ W) (hx : ∀ j, -W ≤ x.getD j 0 ∧ x.getD j 0 ≤ W) (hp : ∀ j, -W ≤ p.getD j 0 ∧ p.getD j 0 ≤ W) : impl_reduced.row a b x p = zj n a b x p := by
 unfold impl_reduced.row zj
 rw [hxl]
 refine List.map_congr_left fun j hj => ?_
 have e1 : rd x (j : Int) = x.getD j 0 := by show x.getD ((j : Int)).toNat 0 = _; rw [Int.toNat_natCast]
 have e2 : rd p (j : Int) = p.getD j 0 := by show p.getD ((j : Int)).toNat 0 = _; rw [Int.toNat_natCast]
 have h1 := Gz.prod_bd hW.1 hW.1 ha (hx j)
 have h2 := Gz.prod_bd hW.1 hW.1 hb (hp j)
 rw [e1, e2, w64 (x := a * x.getD j 0) (by omega) (by omega), w64 (x := b * p.getD j 0) (by omega) (by omega), w64 (by omega) (by omega)]
def kp (n r c : Nat) (R0 : List (List Int)) (k : Nat) (s : List Int) : Prop :=
 Gz.Fair n (fun j => s.getD j 0) ∧ ∃ g : Int, g ≠ 0 ∧ ∀ j, j < n → g * s.getD j 0 = Gz.mt R0 r c * Gz.mt R0 k j - Gz.mt R0 k c * Gz.mt R0 r j
theorem kq (n r c : Nat) (R0 : List (List Int)) (k : Nat) (x p : List Int) (hx : R0.getD k [] = x) (hp : R0.getD r [] = p) : kp n r c R0 k (Gz.cut (zj n (Gz.mt R0 r c) (Gz.mt R0 k c) x p)) := by
 have hl : (zj n (Gz.mt R0 r c) (Gz.mt R0 k c) x p).length = n := by simp [zj]
 have hf := Gz.cut_fair (zj n (Gz.mt R0 r c) (Gz.mt R0 k c) x p)
 rw [hl] at hf
 obtain ⟨g, hg, h⟩ := Gz.cut_at (zj n (Gz.mt R0 r c) (Gz.mt R0 k c) x p)
 refine ⟨hf, g, by omega, fun j hj => ?_⟩
 rw [← h j, qJ n _ _ x p j hj, ← hx, ← hp]
 rfl
theorem qb0 (m n r c : Nat) (hr : r < m) (hm : m ≤ 1000) (hn : n < 1000000) (R0 : List (List Int)) (h0 : Gz.Shape m n R0) (W : Int) (hW : 0 ≤ W ∧ 2 * (W * W) ≤ 9223372036854775800) (hb : ∀ i j, -W ≤ Gz.mt R0 i j ∧ Gz.mt R0 i j ≤ W) (hf : ∀ i, i < m → Gz.Fair n (Gz.mt R0 i)) (hpc : Gz.mt R0 r c ≠ 0) :
  ∀ d i R, i + d = m → Gz.Shape m n R → (∀ k, k < m → (k = r ∨ i ≤ k) → R.getD k [] = R0.getD k []) → (∀ k, k < i → k ≠ r → kp n r c R0 k (R.getD k [])) →
  ∃ R2, Ev (fun k => impl_reduced.rows k r c i d R) R2 ∧ Gz.Shape m n R2 ∧ R2.getD r [] = R0.getD r [] ∧ ∀ k, k < m → k ≠ r → kp n r c R0 k (R2.getD k []) := by
 intro d
 induction d with
 | zero =>
  intro i R hi hS h1 h2
  refine ⟨R, ?_, hS, h1 r hr (.inl rfl), fun k hk hne => h2 k (by omega) hne⟩
  unfold impl_reduced.rows
  exact evs rfl
 | succ d ih =>
  intro i R hi hS h1 h2
  have hRi := h1 i (by omega) (.inr (Nat.le_refl i))
  have hRr := h1 r hr (.inl rfl)
  unfold impl_reduced.rows
  by_cases c1 : i = r ∨ rd (R.getD i []) (c : Int) = 0
  ·
   obtain ⟨R2, hE, h⟩ := ih (i + 1) R (by omega) hS (fun k hk hor => h1 k hk (hor.imp_right (by omega))) (fun k hk hne => by
    by_cases e : k = i
    ·
     subst e
     have hz : Gz.mt R0 k c = 0 := by
      have := c1.resolve_left hne
      rw [hRi, zF] at this; exact this
     rw [hRi]
     exact ⟨hf k (by omega), Gz.mt R0 r c, hpc, fun j hj => by rw [hz, Int.zero_mul, Int.sub_zero]; rfl⟩
    · exact h2 k (by omega) hne)
   exact ⟨R2, evp c1 hE, h⟩
  have hne : i ≠ r := fun e => c1 (.inl e)
  have hl : (R0.getD i []).length = n := h0.2 i (by omega)
  have e1 : impl_reduced.row (rd (R.getD r []) (c : Int)) (rd (R.getD i []) (c : Int)) (R.getD i []) (R.getD r []) = zj n (Gz.mt R0 r c) (Gz.mt R0 i c) (R0.getD i []) (R0.getD r []) := by
   rw [hRi, hRr, zF, zF]
   exact irow n _ _ _ _ hl W hW (hb r c) (hb i c) (fun j => hb i j) (fun j => hb r j)
  have hs := qH (zj n (Gz.mt R0 r c) (Gz.mt R0 i c) (R0.getD i []) (R0.getD r [])) (by simp [zj]; omega) (ko n _ _ _ _ W hW (hb r c) (hb i c) (fun j => hb i j) (fun j => hb r j))
  have hcl : (Gz.cut (zj n (Gz.mt R0 r c) (Gz.mt R0 i c) (R0.getD i []) (R0.getD r []))).length = n := by rw [Gz.cut_len]; simp [zj]
  have hget := fun k (hk : k < m) => Gz.getD_row R i k (Gz.cut (zj n (Gz.mt R0 r c) (Gz.mt R0 i c) (R0.getD i []) (R0.getD r []))) (by rw [hS.1]; exact hk)
  obtain ⟨R2, hE, h⟩ := ih (i + 1) (R.set i (Gz.cut (zj n (Gz.mt R0 r c) (Gz.mt R0 i c) (R0.getD i []) (R0.getD r [])))) (by omega) (hS.set i _ hcl) (fun k hk hor => by
   rw [hget k hk, if_neg (by rcases hor with e | e <;> omega)]
   exact h1 k hk (hor.imp_right (by omega))) (fun k hk hkr => by
   rw [hget k (by omega)]
   by_cases e : k = i
   · rw [if_pos e, e]; exact kq n r c R0 i _ _ rfl rfl
   · rw [if_neg e]; exact h2 k (by omega) hkr)
  refine ⟨R2, evn c1 ?_, h⟩
  rw [e1]
  exact evb hs hE
theorem qc0 (R : List (List Int)) (c : Nat) : ∀ d i, i + d = R.length → i ≤ impl_reduced.find R c i d ∧ impl_reduced.find R c i d ≤ R.length ∧ (∀ k, i ≤ k → k < impl_reduced.find R c i d → Gz.mt R k c = 0) ∧ (impl_reduced.find R c i d < R.length → Gz.mt R (impl_reduced.find R c i d) c ≠ 0) := by
 intro d
 induction d with
 | zero => intro i h; simp only [impl_reduced.find]; exact ⟨Nat.le_refl _, by omega, fun k _ _ => by omega, fun _ => by omega⟩
 | succ d ih =>
  intro i h
  simp only [impl_reduced.find]
  rw [zF]
  by_cases e : Gz.mt R i c = 0
  ·
   rw [if_pos e]
   obtain ⟨h1, h2, h3, h4⟩ := ih (i + 1) (by omega)
   refine ⟨by omega, h2, fun k hk hlt => ?_, h4⟩
   by_cases e2 : k = i
   · rw [e2]; exact e
   · exact h3 k (by omega) hlt
  ·
   rw [if_neg e]
   exact ⟨Nat.le_refl _, by omega, fun k h1 h2 => by omega, fun _ => e⟩
theorem pow5 (m : Nat) (h : m ≤ 5) : 9 * (((m * 9) ^ m : Nat) : Int) ≤ 1660753125 := by
 have h1 : (m * 9) ^ m ≤ 45 ^ m := Nat.pow_le_pow_left (by omega) m
 have h2 : 45 ^ m ≤ 45 ^ 5 := Nat.pow_le_pow_right (by decide) h
 have h3 : (45 : Nat) ^ 5 = 184528125 := by decide
 omega
theorem zv0 (R : List (List Int)) (m : Nat) (hm : R.length = m) (r i : Nat) (hr : r < m) (hi : i < m) (k : Nat) (hk : k < m) : (impl_reduced.swp R r i).getD k [] = if k = r then R.getD i [] else if k = i then R.getD r [] else R.getD k [] := by
 unfold impl_reduced.swp
 rw [Gz.getD_row _ i k _ (by rw [List.length_set, hm]; exact hk), Gz.getD_row R r k _ (by rw [hm]; exact hk)]
 by_cases e1 : k = i
 ·
  rw [if_pos e1]
  by_cases e2 : k = r
  · rw [if_pos e2, ← e1, e2]
  · rw [if_neg e2, if_pos e1]
 ·
  rw [if_neg e1]
  by_cases e2 : k = r
  · rw [if_pos e2, if_pos e2]
  · rw [if_neg e2, if_neg e2, if_neg e1]
theorem jK (p : List Int) (c : Nat) (l : Nat) (hl : l < p.length + 1) : Gz.pv (p ++ [(c : Int)]) l = if l = p.length then c else Gz.pv p l := by
 unfold Gz.pv
 by_cases e : l = p.length
 · rw [if_pos e, e]; simp [List.getD_eq_getElem?_getD]
 · rw [if_neg e, List.getD_eq_getElem?_getD, List.getElem?_append_left (by omega), ← List.getD_eq_getElem?_getD]
theorem qd0 (m n : Nat) (hm : 1 ≤ m ∧ m ≤ 5) (hn : n < 1000000) (A0 : Nat → Nat → Int) : ∀ d c R p A, c + d = n → Gz.Shape m n R → (∀ i, i < m → Gz.Fair n (Gz.mt R i)) → (∀ l, l < p.length → p.getD l 0 = ((Gz.pv p l : Nat) : Int)) → Gz.Gs m n 9 A0 A (Gz.mt R) p.length c (Gz.pv p) →
  ∃ R2 p2 A2, Ev (fun k => impl_reduced.cols k c d R p) (p2, R2) ∧ Gz.Shape m n R2 ∧ (∀ i, i < m → Gz.Fair n (Gz.mt R2 i)) ∧ (∀ l, l < p2.length → p2.getD l 0 = ((Gz.pv p2 l : Nat) : Int)) ∧ Gz.Gs m n 9 A0 A2 (Gz.mt R2) p2.length n (Gz.pv p2) := by
 intro d
 induction d with
 | zero =>
  intro c R p A hc hS hF hp hG
  obtain rfl : c = n := by omega
  refine ⟨R, p, A, ?_, hS, hF, hp, hG⟩
  unfold impl_reduced.cols
  exact evs rfl
 | succ d ih =>
  intro c R p A hc hS hF hp hG
  have hrm := hG.hr
  obtain ⟨f1, f2, f3, f4⟩ := qc0 R c (R.length - p.length) p.length (by rw [hS.1]; omega)
  unfold impl_reduced.cols
  by_cases c1 : impl_reduced.find R c p.length (R.length - p.length) = R.length
  ·
   rw [c1] at f3
   obtain ⟨R2, p2, A2, hE, h⟩ := ih (c + 1) R p A (by omega) hS hF hp (hG.skip (by omega) (fun i hi hri => f3 i hri (by rw [hS.1]; exact hi)))
   exact ⟨R2, p2, A2, evp c1 hE, h⟩
  generalize hfd : impl_reduced.find R c p.length (R.length - p.length) = f at f1 f2 f3 f4 c1 ⊢
  have hfm : f < m := by rw [← hS.1]; omega
  have hpf := f4 (by omega)
  have hrm2 : p.length < m := by omega
  have hsw := fun k hk => zv0 R m hS.1 p.length f hrm2 hfm k hk
  generalize hR1 : impl_reduced.swp R p.length f = R1 at hsw ⊢
  have hS1 : Gz.Shape m n R1 := by
   refine ⟨by rw [← hR1]; unfold impl_reduced.swp; simp only [List.length_set]; exact hS.1, fun k hk => ?_⟩
   rw [hsw k hk]
   split
   · exact hS.2 f hfm
   ·
    split
    · exact hS.2 _ hrm2
    · exact hS.2 k hk
  have hM1 : ∀ k, k < m → Gz.mt R1 k = Gz.swp (Gz.mt R) p.length f k := fun k hk => by
   unfold Gz.swp
   show (fun j => (R1.getD k []).getD j 0) = _
   rw [hsw k hk]
   by_cases e1 : k = p.length
   · rw [if_pos e1, if_pos e1]; rfl
   ·
    rw [if_neg e1, if_neg e1]
    by_cases e2 : k = f
    · rw [if_pos e2, if_pos e2]; rfl
    · rw [if_neg e2, if_neg e2]; rfl
  have hG1 : Gz.Gs m n 9 A0 (Gz.swp A p.length f) (Gz.mt R1) p.length c (Gz.pv p) := (hG.swap f hfm f1).congr (fun k hk j _ => by rw [hM1 k hk]) (fun _ _ => rfl)
  have hF1 : ∀ k, k < m → Gz.Fair n (Gz.mt R1 k) := fun k hk => by
   rw [hM1 k hk]
   unfold Gz.swp
   split
   · exact hF f hfm
   ·
    split
    · exact hF _ hrm2
    · exact hF k hk
  have hpc1 : Gz.mt R1 p.length c ≠ 0 := by
   rw [hM1 _ hrm2]; unfold Gz.swp; rw [if_pos rfl]; exact hpf
  have h5 := pow5 m hm.2
  have hb1 : ∀ i, i < m → ∀ j, j < n → -1660753125 ≤ Gz.mt R1 i j ∧ Gz.mt R1 i j ≤ 1660753125 := fun i hi j hj => by
   have := hG1.small (by decide) hm.1 i hi (hF1 i hi) j hj
   omega
  have hb1a := qI hS1 1660753125 (by decide) hb1
  have hs := qH (R1.getD p.length []) (by rw [hS1.2 _ hrm2]; exact hn) (fun j _ => by have := hb1a p.length j; unfold Gz.mt at this; omega)
  obtain ⟨g, hg, hcut⟩ := Gz.cut_at (R1.getD p.length [])
  have hcf := Gz.cut_fair (R1.getD p.length [])
  rw [hS1.2 _ hrm2] at hcf
  have hcl : (Gz.cut (R1.getD p.length [])).length = n := by rw [Gz.cut_len]; exact hS1.2 _ hrm2
  generalize Gz.cut (R1.getD p.length []) = s at hs hcut hcf hcl
  have hS2 := hS1.set p.length s hcl
  have hM2 := fun k hk => Gz.mt_set hS1 p.length s k hk
  have hG2 : Gz.Gs m n 9 A0 (Gz.swp A p.length f) (Gz.mt (R1.set p.length s)) p.length c (Gz.pv p) := by
   refine hG1.scale (fun k => if k = p.length then g else 1) (fun k _ => by split <;> omega) (fun k hk j _ => ?_)
   rw [hM2 k hk]
   by_cases e : k = p.length
   · rw [if_pos e, if_pos e, e]; exact hcut j
   · rw [if_neg e, if_neg e, Int.one_mul]
  have hF2 : ∀ k, k < m → Gz.Fair n (Gz.mt (R1.set p.length s) k) := fun k hk => by
   rw [hM2 k hk]
   split
   · exact hcf
   · exact hF1 k hk
  have hpc2 : Gz.mt (R1.set p.length s) p.length c ≠ 0 := by
   rw [hM2 _ hrm2, if_pos rfl]
   intro e
   apply hpc1
   have := hcut c
   rw [e, Int.mul_zero] at this
   exact this
  have hb2 : ∀ i, i < m → ∀ j, j < n → -1660753125 ≤ Gz.mt (R1.set p.length s) i j ∧ Gz.mt (R1.set p.length s) i j ≤ 1660753125 := fun i hi j hj => by
   have := hG2.small (by decide) hm.1 i hi (hF2 i hi) j hj
   omega
  have hb2a := qI hS2 1660753125 (by decide) hb2
  generalize hRp : R1.set p.length s = Rp at hS2 hM2 hG2 hF2 hpc2 hb2a
  obtain ⟨R2, hE2, hSR, hrr, hdone⟩ := qb0 m n p.length c hrm2 (by omega) hn Rp hS2 1660753125 (by decide) hb2a hF2 hpc2 m 0 Rp (by omega) hS2 (fun _ _ _ => rfl) (fun k hk => by omega)
  have hMr : ∀ j, j < n → Gz.mt R2 p.length j = Gz.mt Rp p.length j := fun j _ => by unfold Gz.mt; rw [hrr]
  have hgs : ∃ gg : Nat → Int, ∀ k, k < m → k ≠ p.length → gg k ≠ 0 ∧ ∀ j, j < n → gg k * Gz.mt R2 k j = Gz.mt Rp p.length c * Gz.mt Rp k j - Gz.mt Rp k c * Gz.mt Rp p.length j := by
   refine ⟨fun k => if h : k < m ∧ k ≠ p.length then (hdone k h.1 h.2).2.choose else 1, fun k hk hne => ?_⟩
   have e : (if h : k < m ∧ k ≠ p.length then (hdone k h.1 h.2).2.choose else 1) = (hdone k hk hne).2.choose := dif_pos ⟨hk, hne⟩
   show (if h : k < m ∧ k ≠ p.length then (hdone k h.1 h.2).2.choose else 1) ≠ 0 ∧ ∀ j, j < n → (if h : k < m ∧ k ≠ p.length then (hdone k h.1 h.2).2.choose else 1) * Gz.mt R2 k j = _
   rw [e]
   exact (hdone k hk hne).2.choose_spec
  obtain ⟨gg, hgg⟩ := hgs
  have hG3 := hG2.elim (M' := Gz.mt R2) hrm2 (by omega) hpc2 gg (fun k hk hne => (hgg k hk hne).1) (fun k hk hne j hj => (hgg k hk hne).2 j hj) hMr
  have hF3 : ∀ k, k < m → Gz.Fair n (Gz.mt R2 k) := fun k hk => by
   by_cases e : k = p.length
   · subst e; exact (hF2 _ hk).congr hMr
   · exact (hdone k hk e).1
  have hG4 : Gz.Gs m n 9 A0 (Gz.swp A p.length f) (Gz.mt R2) (p ++ [(c : Int)]).length (c + 1) (Gz.pv (p ++ [(c : Int)])) := by
   rw [List.length_append]
   exact hG3.congr (fun _ _ _ _ => rfl) (fun l hl => jK p c l hl)
  obtain ⟨R3, p3, A3, hE3, h⟩ := ih (c + 1) R2 (p ++ [(c : Int)]) _ (by omega) hSR hF3 (fun l hl => by
   rw [jK p c l (by simpa using hl)]
   by_cases e : l = p.length
   · rw [if_pos e, e]; simp [List.getD_eq_getElem?_getD]
   · rw [if_neg e, ← hp l (by simp at hl; omega), List.getD_eq_getElem?_getD, List.getElem?_append_left (by simp at hl; omega), ← List.getD_eq_getElem?_getD]) hG4
  refine ⟨R3, p3, A3, evn c1 (evb hs ?_), h⟩
  rw [hRp, hS.1]
  exact evb hE2 hE3
theorem kr (m n : Nat) (hm : 1 ≤ m ∧ m ≤ 5) (hn : 1 ≤ n ∧ n ≤ 1000) (R : List (List Int)) (hS : Gz.Shape m n R) (hb : ∀ i, i < m → ∀ j, j < n → -9 ≤ Gz.mt R i j ∧ Gz.mt R i j ≤ 9) :
  ∃ R2 p2 A2, Ev (fun k => impl_reduced.f k R (n : Int)) (p2, R2) ∧ Gz.Shape m n R2 ∧ (∀ i, i < m → Gz.Fair n (Gz.mt R2 i)) ∧ (∀ l, l < p2.length → p2.getD l 0 = ((Gz.pv p2 l : Nat) : Int)) ∧ Gz.Gs m n 9 (Gz.mt R) A2 (Gz.mt R2) p2.length n (Gz.pv p2) := by
 obtain ⟨R2, p2, A2, hE, h⟩ := qd0 m n hm (by omega) (Gz.mt R) n 0 R [] (Gz.mt R) (by omega) hS (fun i hi => Gz.small_fair n _ (hb i hi)) (fun l h => by simp at h) (Gz.Gs.start hb _)
 refine ⟨R2, p2, A2, ?_, h⟩
 unfold impl_reduced.f
 refine evp ⟨by have := hS.1; omega, fun r hr => ?_⟩ (by rw [Int.toNat_natCast]; exact hE)
 obtain ⟨i, hi, rfl⟩ := List.getElem_of_mem hr
 have := hS.2 i (by rw [← hS.1]; exact hi)
 rw [List.getD_eq_getElem?_getD, List.getElem?_eq_getElem hi] at this
 simp only [Option.getD_some] at this
 omega
theorem zG (V : List (List Int)) (i : Nat) : rd_L2 V (i : Int) = V.getD i [] := by
 show V.getD ((i : Int)).toNat [] = _
 rw [Int.toNat_natCast]
theorem zC (l : List Int) (i : Nat) : rd l (i : Int) = l.getD i 0 := by
 show l.getD ((i : Int)).toNat 0 = _
 rw [Int.toNat_natCast]
def col (V : List (List Int)) (i : Nat) : List Int := V.map fun v => v.getD i 0
def trans (V : List (List Int)) (m : Nat) : List (List Int) := (List.range m).map (col V)
theorem zw0 (V : List (List Int)) (i j : Nat) (h : j < V.length) : (col V i).getD j 0 = Gz.mt V j i := by
 unfold col Gz.mt
 simp [List.getD_eq_getElem?_getD, List.getElem?_map, List.getElem?_eq_getElem h]
theorem qU (V : List (List Int)) (m : Nat) : Gz.Shape m V.length (trans V m) := by
 refine ⟨by simp [trans], fun i hi => ?_⟩
 simp [trans, List.getD_eq_getElem?_getD, List.getElem?_map, List.getElem?_range hi, col]
theorem qK (V : List (List Int)) (m i j : Nat) (hi : i < m) (hj : j < V.length) : Gz.mt (trans V m) i j = Gz.mt V j i := by
 rw [← zw0 V i j hj]
 unfold Gz.mt trans
 simp [List.getD_eq_getElem?_getD, List.getElem?_map, List.getElem?_range hi]
theorem zx0 (V : List (List Int)) (m : Nat) (hm : m < 1000) (hV : V.length < 1000) (hS : ∀ i, i < V.length → (V.getD i []).length = m) (X : List (List Int)) (hX : X.length < 1000) (c : Nat) (hc : c < m) (R : List Int × Bool) (hR : Ev (fun k => impl_balance.l0 k V (V.length : Int) (X ++ [col V c]) (m : Int) (((c + 1 : Nat) : Int))) R) :
  ∀ d i, i + d = V.length → Ev (fun k => impl_balance.l1 k V (V.length : Int) X (c : Int) ((col V c).take i) (m : Int) (c : Int) V (V.length : Int) (i : Int)) R := by
 intro d
 induction d with
 | zero =>
  intro i hi
  refine Ev.step (fun k => impl_balance.l1.eq_2 ..) (evn (by omega) (evp (by omega) ?_))
  rw [show i = V.length by omega, w64s c (by omega), List.take_of_length_le (by simp [col])]
  exact hR
 | succ d ih =>
  intro i hi
  refine Ev.step (fun k => impl_balance.l1.eq_2 ..) (evp (by omega) (evp (by omega) (evp (by omega) (evp (by omega) (evp (by rw [zG, hS i (by omega)]; omega) (evp (by rw [List.length_take]; omega) ?_))))))
  rw [zG, zC, w64s i (by omega)]
  have e : (col V c).take i ++ [(V.getD i []).getD c 0] = (col V c).take (i + 1) := by
   rw [List.take_succ_eq_append_getElem (by simp [col]; omega)]
   congr 1
   simp [col, List.getD_eq_getElem?_getD, List.getElem?_eq_getElem (show i < V.length by omega)]
  rw [e]
  exact ih (i + 1) (by omega)
theorem zy0 (V : List (List Int)) (m : Nat) (hm : m < 1000) (hV : V.length < 1000) (hS : ∀ i, i < V.length → (V.getD i []).length = m) (R : List Int × Bool) (hR : Ev (fun k => impl_balance.l0 k V (V.length : Int) (trans V m) (m : Int) (m : Int)) R) :
  ∀ d c, c + d = m → Ev (fun k => impl_balance.l0 k V (V.length : Int) ((trans V m).take c) (m : Int) (c : Int)) R := by
 intro d
 induction d with
 | zero =>
  intro c hc
  obtain rfl : c = m := by omega
  rw [List.take_of_length_le (by simp [trans])]
  exact hR
 | succ d ih =>
  intro c hc
  refine Ev.step (fun k => impl_balance.l0.eq_2 ..) (evp (by omega) ?_)
  have e : (trans V m).take c ++ [col V c] = (trans V m).take (c + 1) := by
   rw [List.take_succ_eq_append_getElem (by simp [trans]; omega)]
   congr 1
   simp [trans]
  have h := ih (c + 1) (by omega)
  rw [← e] at h
  have h2 := zx0 V m hm hV hS ((trans V m).take c) (by rw [List.length_take]; omega) c (by omega) R h V.length 0 (by omega)
  rw [List.take_zero] at h2
  exact h2
theorem zz0 (O : List Int) (hO : O.length < 1000) : ∀ d i, i + d = O.length → ∃ r, Ev (fun k => impl_balance.l5 k O O (O.length : Int) (i : Int)) r ∧ (r.2 = true ↔ ∀ j, i ≤ j → j < O.length → 0 < O.getD j 0) := by
 intro d
 induction d with
 | zero =>
  intro i hi
  exact ⟨(O, true), Ev.step (fun k => impl_balance.l5.eq_2 ..) (evn (by omega) (evs rfl)), by simp; intro j h1 h2; omega⟩
 | succ d ih =>
  intro i hi
  by_cases c : O.getD i 0 ≤ 0
  ·
   refine ⟨([], false), Ev.step (fun k => impl_balance.l5.eq_2 ..) (evp (by omega) (evp (by omega) (evp (by omega) (evp (by rw [zC]; exact c) (evs rfl))))), ?_⟩
   constructor
   · intro h; cases h
   · intro h; have := h i (Nat.le_refl _) (by omega); omega
  ·
   obtain ⟨r, hr, h⟩ := ih (i + 1) (by omega)
   refine ⟨r, Ev.step (fun k => impl_balance.l5.eq_2 ..) (evp (by omega) (evp (by omega) (evp (by omega) (evn (by rw [zC]; exact c) ?_)))), ?_⟩
   · rw [w64s i (by omega)]; exact hr
   ·
    rw [h]
    constructor
    ·
     intro h j h1 h2
     by_cases e : j = i
     · rw [e]; omega
     · exact h j (by omega) h2
    · intro h j h1 h2; exact h j (by omega) h2
theorem zA0 (n : Nat) (hn : n < 1000) (R2 : List (List Int)) (p : List Int) (hpl : p.length + 1 = n) (hp : ∀ l, l < p.length → p.getD l 0 = ((Gz.pv p l : Nat) : Int)) (Q : List Int × Bool → Prop) (hQ : ∀ f, f ≤ p.length → (∀ l, l < f → Gz.pv p l = l) → (f < p.length → Gz.pv p f ≠ f) → ∃ r, Ev (fun k => impl_balance.j3 k (n : Int) R2 p (f : Int)) r ∧ Q r) :
  ∀ d i, i + d = p.length → (∀ l, l < i → Gz.pv p l = l) → ∃ r, Ev (fun k => impl_balance.l2 k (n : Int) R2 p ((p.length : Nat) : Int) p (p.length : Int) (i : Int)) r ∧ Q r := by
 intro d
 induction d with
 | zero =>
  intro i hi h
  obtain ⟨r, hr, hq⟩ := hQ i (by omega) h (fun h => by omega)
  refine ⟨r, Ev.step (fun k => impl_balance.l2.eq_2 ..) (evn (by omega) ?_), hq⟩
  rw [show p.length = i by omega]; exact hr
 | succ d ih =>
  intro i hi h
  by_cases c : Gz.pv p i = i
  ·
   obtain ⟨r, hr, hq⟩ := ih (i + 1) (by omega) (fun l hl => by
    by_cases e : l = i
    · rw [e]; exact c
    · exact h l (by omega))
   refine ⟨r, Ev.step (fun k => impl_balance.l2.eq_2 ..) (evp (by omega) (evp (by omega) (evp (by omega) (evp (by rw [zC, hp i (by omega), c]) ?_)))), hq⟩
   rw [w64s i (by omega)]; exact hr
  ·
   obtain ⟨r, hr, hq⟩ := hQ i (by omega) h (fun _ => c)
   exact ⟨r, Ev.step (fun k => impl_balance.l2.eq_2 ..) (evp (by omega) (evp (by omega) (evp (by omega) (evn (by rw [zC, hp i (by omega)]; omega) hr)))), hq⟩
theorem qe0 (n r : Nat) (hn : n ≤ 6) (hr : r ≤ 5) : (((n * 9) ^ r : Nat) : Int) ≤ 459165024 := by
 have h1 : (n * 9) ^ r ≤ 54 ^ r := Nat.pow_le_pow_left (by omega) r
 have h2 : 54 ^ r ≤ 54 ^ 5 := Nat.pow_le_pow_right (by decide) hr
 have h3 : (54 : Nat) ^ 5 = 459165024 := by decide
 omega
theorem zB {a : Int} {w : Nat} {B : Nat} (h : (w : Int) ∣ a) (h0 : a ≠ 0) (hB : a.natAbs ≤ B) : w ≤ B := by
 have := Int.natAbs_dvd_natAbs.2 h
 rw [Int.natAbs_natCast] at this
 exact Nat.le_trans (Nat.le_of_dvd (by omega) this) hB
theorem ks (w : Nat) (a : Int) (hw : 1 ≤ w) (ha : a ≠ 0) : w / Nat.gcd w a.natAbs * a.natAbs = Nat.lcm w a.natAbs := by
 unfold Nat.lcm
 rw [Nat.mul_comm w, Nat.mul_div_assoc _ (Nat.gcd_dvd_left _ _), Nat.mul_comm]
theorem zB0 (a : Int) (h : -9223372036854775807 ≤ a ∧ a ≤ 9223372036854775807) : mx a (wrap64 (-a)) = (a.natAbs : Int) := by
 rw [w64 (by omega) (by omega)]; unfold mx; split <;> omega
structure Fin (m n : Nat) (A0 A2 : Nat → Nat → Int) (R2 : List (List Int)) (p : List Int) (f : Nat) (z : Nat → Int) : Prop where
 hm : 1 ≤ m ∧ m ≤ 5
 hn : n ≤ 6
 S : Gz.Shape m n R2
 F : ∀ i, i < m → Gz.Fair n (Gz.mt R2 i)
 P : ∀ l, l < p.length → p.getD l 0 = ((Gz.pv p l : Nat) : Int)
 G : Gz.Gs m n 9 A0 A2 (Gz.mt R2) p.length n (Gz.pv p)
 hr : p.length + 1 = n
 fr : Gz.Free n p.length (Gz.pv p) f
 z0 : z f ≠ 0
 zb : ∀ j, -459165024 ≤ z j ∧ z j ≤ 459165024
 zr : ∀ l, l < p.length → Gz.mt R2 l (Gz.pv p l) * z (Gz.pv p l) + Gz.mt R2 l f * z f = 0
section
variable {m n : Nat} {A0 A2 : Nat → Nat → Int} {R2 : List (List Int)} {p : List Int} {f : Nat} {z : Nat → Int}
theorem Fin.fn (h : Fin m n A0 A2 R2 p f z) : f < n := by have := h.fr.1; have := h.hr; omega
theorem Fin.pn (h : Fin m n A0 A2 R2 p f z) (l : Nat) (hl : l < p.length) : Gz.pv p l < n := h.G.ps l hl
theorem Fin.rm (h : Fin m n A0 A2 R2 p f z) : p.length ≤ m := h.G.hr
theorem Fin.bd (h : Fin m n A0 A2 R2 p f z) (i j : Nat) : -1660753125 ≤ Gz.mt R2 i j ∧ Gz.mt R2 i j ≤ 1660753125 :=
 qI h.S 1660753125 (by decide) (fun i hi j hj => by
  have := h.G.small (by decide) h.hm.1 i hi (h.F i hi) j hj
  have := pow5 m h.hm.2
  omega) i j
theorem Fin.ne (h : Fin m n A0 A2 R2 p f z) (l : Nat) (hl : l < p.length) : Gz.pv p l ≠ f := by
 rcases Nat.lt_or_ge l f with c | c
 · rw [h.fr.2.1 l c]; omega
 · rw [h.fr.2.2 l c hl]; omega
theorem Fin.inj (h : Fin m n A0 A2 R2 p f z) (k l : Nat) (hk : k < p.length) (hl : l < p.length) (hne : k ≠ l) : Gz.pv p k ≠ Gz.pv p l := by
 rcases Nat.lt_or_ge k l with c | c
 · have := h.G.asc k l c hl; omega
 · have := h.G.asc l k (by omega) hk; omega
theorem Fin.big (h : Fin m n A0 A2 R2 p f z) : (2520 * z f).natAbs ≤ 1157095860480 ∧ 2520 * z f ≠ 0 := by
 have := h.zb f; have := h.z0; omega
theorem Fin.out (h : Fin m n A0 A2 R2 p f z) (w : Nat) (hw : (w : Int) ∣ 2520 * z f) (l : Nat) (hl : l < p.length) (hd : Gz.mt R2 l (Gz.pv p l) ∣ (w : Int)) :
  (-(Gz.mt R2 l f) * Int.tdiv (w : Int) (Gz.mt R2 l (Gz.pv p l))).natAbs ≤ 1157095860480 ∧ Gz.mt R2 l (Gz.pv p l) * (-(Gz.mt R2 l f) * Int.tdiv (w : Int) (Gz.mt R2 l (Gz.pv p l))) + Gz.mt R2 l f * (w : Int) = 0 := by
 have ha := h.G.diag l hl
 have hz := h.zr l hl
 have hq : Gz.mt R2 l (Gz.pv p l) * Int.tdiv (w : Int) (Gz.mt R2 l (Gz.pv p l)) = (w : Int) := Int.mul_tdiv_cancel' hd
 generalize Int.tdiv (w : Int) (Gz.mt R2 l (Gz.pv p l)) = q at hq ⊢
 generalize Gz.mt R2 l (Gz.pv p l) = a at *
 generalize Gz.mt R2 l f = b at *
 have hzb := h.zb (Gz.pv p l)
 generalize z (Gz.pv p l) = y at *
 have h0 := h.z0
 obtain ⟨t, ht⟩ := hw
 refine ⟨?_, ?_⟩
 ·
  have e1 : (-b * q) * z f = (w : Int) * y := by
   rw [← hq, Int.mul_assoc, Int.neg_mul, Int.mul_left_comm b q, Int.mul_right_comm a q y, show a * y = -(b * z f) by omega, Int.neg_mul, Int.mul_comm q]
  have e2 : (-b * q) * t = 2520 * y := by
   refine Int.eq_of_mul_eq_mul_right h0 ?_
   rw [Int.mul_right_comm, e1, Int.mul_right_comm, ← ht]
   rw [Int.mul_right_comm]
  have ht0 : t ≠ 0 := fun e => by rw [e, Int.mul_zero] at ht; omega
  have e3 : (-b * q).natAbs * t.natAbs = (2520 * y).natAbs := by rw [← Int.natAbs_mul, e2]
  have : (-b * q).natAbs * 1 ≤ (-b * q).natAbs * t.natAbs := Nat.mul_le_mul_left _ (by omega)
  omega
 · rw [← hq, Int.mul_left_comm, Int.neg_mul, Int.mul_left_comm b]; omega
theorem zC0 (h : Fin m n A0 A2 R2 p f z) (Q : List Int × Bool → Prop)
  (hQ : ∀ w : Nat, 1 ≤ w → (w : Int) ∣ 2520 * z f → (∀ k, k < p.length → Gz.mt R2 k (Gz.pv p k) ∣ (w : Int)) → ∃ r, Ev (fun k => impl_balance.l4 k R2 (f : Int) ((List.replicate n 0).set f (w : Int)) (w : Int) p (p.length : Int) 0) r ∧ Q r) :
  ∀ d l (w : Nat), l + d = p.length → 1 ≤ w → (w : Int) ∣ 2520 * z f → (∀ k, k < l → Gz.mt R2 k (Gz.pv p k) ∣ (w : Int)) → ∃ r, Ev (fun k => impl_balance.l3 k R2 p (f : Int) (List.replicate n 0) (w : Int) p (p.length : Int) (l : Int)) r ∧ Q r := by
 have hfn := h.fn
 have hn := h.hn
 have hrm := h.rm
 have hm5 := h.hm
 intro d
 induction d with
 | zero =>
  intro l w hl h1 h2 h3
  obtain ⟨r, hr, hq⟩ := hQ w h1 h2 (fun k hk => h3 k (by omega))
  refine ⟨r, Ev.step (fun k => impl_balance.l3.eq_2 ..) (evn (by omega) (evp (by omega) (evp (by simp; omega) ?_))), hq⟩
  rw [Int.toNat_natCast]; exact hr
 | succ d ih =>
  intro l w hl h1 h2 h3
  have hlr : l < p.length := by omega
  have hpn := h.pn l hlr
  have ha := h.G.diag l hlr
  have hab := h.bd l (Gz.pv p l)
  have hbig := h.big
  have hwb := zB h2 hbig.2 hbig.1
  have hlen : (R2.getD l []).length = n := h.S.2 l (by omega)
  have hent : rd (R2.getD l []) ((Gz.pv p l : Nat) : Int) = Gz.mt R2 l (Gz.pv p l) := zF R2 l _
  generalize hav : Gz.mt R2 l (Gz.pv p l) = a at ha hab hent
  have hdv : Ev (fun k => impl_divisor.f k [(w : Int), a]) ((Nat.gcd w a.natAbs : Nat) : Int) := by
   refine evr (qF _ (by simp) (fun j hj => ?_)) ?_
   ·
    rcases j with _ | _ | j
    · simp; omega
    · simp; omega
    · simp at hj; omega
   · simp [Gz.gl]
  have hg1 : 1 ≤ Nat.gcd w a.natAbs := Nat.gcd_pos_of_pos_left _ h1
  have hda : a ∣ 2520 * z f := by rw [← hav]; exact h.G.pivot_dvd h.hr h.fr (fun l hl => h.F l (by omega)) z h.zr l hlr
  have hlcm : ((Nat.lcm w a.natAbs : Nat) : Int) ∣ 2520 * z f := by
   rw [← Int.dvd_natAbs]
   refine Int.natCast_dvd_natCast.2 (Nat.lcm_dvd ?_ ?_)
   · have := Int.natAbs_dvd_natAbs.2 h2; rwa [Int.natAbs_natCast] at this
   · exact Int.natAbs_dvd_natAbs.2 hda
  have hlb := zB hlcm hbig.2 hbig.1
  have hl1 : 1 ≤ Nat.lcm w a.natAbs := Nat.lcm_pos h1 (by omega)
  obtain ⟨r, hr, hq⟩ := ih (l + 1) (Nat.lcm w a.natAbs) (by omega) hl1 hlcm (fun k hk => by
   by_cases e : k = l
   ·
    subst e
    rw [hav]
    exact Int.dvd_trans (Int.dvd_natAbs.2 (Int.dvd_refl a)) (Int.natCast_dvd_natCast.2 (Nat.dvd_lcm_right _ _))
   · exact Int.dvd_trans (h3 k (by omega)) (Int.natCast_dvd_natCast.2 (Nat.dvd_lcm_left _ _)))
  refine ⟨r, Ev.step (fun k => impl_balance.l3.eq_2 ..) (evp (by omega) (evp (by omega) (evp (by omega) (evp (by rw [h.S.1]; omega) ?_)))), hq⟩
  rw [zC, h.P l hlr, zG, hent]
  refine evp (by omega) (evp (by rw [hlen]; omega) (evb hdv (evn (by omega) ?_)))
  rw [zB0 a (by omega), show Int.tdiv (w : Int) ((Nat.gcd w a.natAbs : Nat) : Int) = ((w / Nat.gcd w a.natAbs : Nat) : Int) from rfl]
  have hdl : w / Nat.gcd w a.natAbs ≤ w := Nat.div_le_self _ _
  have hls := ks w a h1 ha
  generalize w / Nat.gcd w a.natAbs = qn at hdl hls ⊢
  rw [w64 (x := (qn : Int)) (by omega) (by omega), ← Int.natCast_mul, hls, w64 (by omega) (by omega), w64s l (by omega)]
  exact hr
theorem zD0 (h : Fin m n A0 A2 R2 p f z) (w : Nat) (hw1 : 1 ≤ w) (hw2 : (w : Int) ∣ 2520 * z f) (hw3 : ∀ k, k < p.length → Gz.mt R2 k (Gz.pv p k) ∣ (w : Int)) (Q : List Int × Bool → Prop)
  (hQ : ∀ L : List Int, L.length = n → L.getD f 0 = (w : Int) → (∀ k, k < p.length → Gz.mt R2 k (Gz.pv p k) * L.getD (Gz.pv p k) 0 + Gz.mt R2 k f * (w : Int) = 0) → (∀ j, (L.getD j 0).natAbs ≤ 1157095860480) → ∃ r, Ev (fun k => (impl_shortened.f k L).bind fun t => impl_balance.l5 k t t (L.length : Int) 0) r ∧ Q r) :
  ∀ d l (L : List Int), l + d = p.length → L.length = n → L.getD f 0 = (w : Int) → (∀ k, k < l → Gz.mt R2 k (Gz.pv p k) * L.getD (Gz.pv p k) 0 + Gz.mt R2 k f * (w : Int) = 0) → (∀ j, (L.getD j 0).natAbs ≤ 1157095860480) → ∃ r, Ev (fun k => impl_balance.l4 k R2 (f : Int) L (w : Int) p (p.length : Int) (l : Int)) r ∧ Q r := by
 have hfn := h.fn
 have hn := h.hn
 have hrm := h.rm
 have hbig := h.big
 have hwb := zB hw2 hbig.2 hbig.1
 have hm5 := h.hm
 intro d
 induction d with
 | zero =>
  intro l L hl h1 h2 h3 h4
  obtain ⟨r, hr, hq⟩ := hQ L h1 h2 (fun k hk => h3 k (by omega)) h4
  exact ⟨r, Ev.step (fun k => impl_balance.l4.eq_2 ..) (evn (by omega) hr), hq⟩
 | succ d ih =>
  intro l L hl h1 h2 h3 h4
  have hlr : l < p.length := by omega
  have hpn := h.pn l hlr
  have ha := h.G.diag l hlr
  have hfb := h.bd l f
  have hlen : (R2.getD l []).length = n := h.S.2 l (by omega)
  have hent : rd (R2.getD l []) ((Gz.pv p l : Nat) : Int) = Gz.mt R2 l (Gz.pv p l) := zF R2 l _
  have hentf : rd (R2.getD l []) (f : Int) = Gz.mt R2 l f := zF R2 l _
  obtain ⟨o1, o2⟩ := h.out w hw2 l hlr (hw3 l hlr)
  have hq1 : (Int.tdiv (w : Int) (Gz.mt R2 l (Gz.pv p l))).natAbs ≤ w := by rw [Int.natAbs_tdiv]; exact Nat.div_le_self _ _
  have hget : ∀ j (v : Int), (L.set (Gz.pv p l) v).getD j 0 = if j = Gz.pv p l then v else L.getD j 0 := fun j v => by
   by_cases e : j = Gz.pv p l
   · rw [if_pos e, e, List.getD_eq_getElem?_getD, List.getElem?_set_self (by omega)]; rfl
   · rw [if_neg e, List.getD_eq_getElem?_getD, List.getElem?_set_ne (fun h => e h.symm), ← List.getD_eq_getElem?_getD]
  obtain ⟨r, hr, hq⟩ := ih (l + 1) (L.set (Gz.pv p l) (-(Gz.mt R2 l f) * Int.tdiv (w : Int) (Gz.mt R2 l (Gz.pv p l)))) (by omega) (by rw [List.length_set]; exact h1) (by rw [hget, if_neg (h.ne l hlr).symm]; exact h2) (fun k hk => by
   rw [hget]
   by_cases e : k = l
   · subst e; rw [if_pos rfl]; exact o2
   ·
    rw [if_neg (h.inj k l (by omega) hlr e)]; exact h3 k (by omega)) (fun j => by
   rw [hget]
   split
   · exact o1
   · exact h4 j)
  refine ⟨r, Ev.step (fun k => impl_balance.l4.eq_2 ..) (evp (by omega) (evp (by omega) (evp (by omega) (evp (by rw [h.S.1]; omega) (evp (by omega) ?_))))), hq⟩
  rw [zC, h.P l hlr, zG, hent, hentf]
  refine evp (by rw [hlen]; omega) (evp (by omega) (evp (by rw [hlen]; omega) (evn ha (evp (by omega) ?_))))
  rw [Int.toNat_natCast, w64 (x := -(Gz.mt R2 l f)) (by omega) (by omega), w64 (x := Int.tdiv (w : Int) (Gz.mt R2 l (Gz.pv p l))) (by omega) (by omega), w64 (by omega) (by omega), w64s l (by omega)]
  exact hr
end
theorem kt (V : List (List Int)) (m : Nat) (hm : 1 ≤ m ∧ m ≤ 5) (hn : 1 ≤ V.length ∧ V.length ≤ 6) (hS : ∀ i, i < V.length → (V.getD i []).length = m) (hb : ∀ i, i < V.length → ∀ j, j < m → -9 ≤ Gz.mt V i j ∧ Gz.mt V i j ≤ 9) :
  ∃ r, Ev (fun k => impl_balance.f k V) r ∧ (r.2 = true ↔ Gz.PosRel m V.length (fun i j => Gz.mt V j i)) := by
 have hT := qU V m
 obtain ⟨R2, p, A2, hE, hS2, hF, hP, hG⟩ := kr m V.length hm (by omega) (trans V m) hT (fun i hi j hj => by rw [qK V m i j hi hj]; exact hb j hj i hi)
 have hPR : Gz.PosRel m V.length (Gz.mt (trans V m)) ↔ Gz.PosRel m V.length (fun i j => Gz.mt V j i) := by
  have e : ∀ z, Gz.InKer m V.length (Gz.mt (trans V m)) z ↔ Gz.InKer m V.length (fun i j => Gz.mt V j i) z := fun z => by
   have hsm : ∀ i, i < m → Gz.sm (fun j => Gz.mt (trans V m) i j * z j) V.length = Gz.sm (fun j => Gz.mt V j i * z j) V.length := fun i hi => Gz.sm_congr fun j hj => by rw [qK V m i j hi hj]
   exact ⟨fun h i hi => (hsm i hi).symm.trans (h i hi), fun h i hi => (hsm i hi).trans (h i hi)⟩
  unfold Gz.PosRel
  simp only [e]
 rw [← hPR]
 have hfin : ∃ r, Ev (fun k => impl_balance.l0 k V (V.length : Int) (trans V m) (m : Int) (m : Int)) r ∧ (r.2 = true ↔ Gz.PosRel m V.length (Gz.mt (trans V m))) := by
  have hw : wrap64 ((V.length : Int) - 1) = ((V.length - 1 : Nat) : Int) := by unfold wrap64; omega
  by_cases c : p.length + 1 = V.length
  ·
   have key := zA0 V.length (by omega) R2 p c hP (fun r => r.2 = true ↔ Gz.PosRel m V.length (Gz.mt (trans V m))) (fun f hf h1 h2 => by
    have hfr := hG.free_at c f hf h1 h2
    obtain ⟨z, z0, zb, zr⟩ := hG.tame (by decide) c hfr
    have h54 := qe0 V.length p.length hn.2 (by have := hG.hr; omega)
    have hF5 : Fin m V.length (Gz.mt (trans V m)) A2 R2 p f z := ⟨hm, hn.2, hS2, hF, hP, hG, c, hfr, z0, fun j => by have := zb j; omega, zr⟩
    obtain ⟨r, hr, hq⟩ := zC0 hF5 (fun r => r.2 = true ↔ Gz.PosRel m V.length (Gz.mt (trans V m))) (fun w w1 w2 w3 => by
     have hfn := hF5.fn
     have hb2 := hF5.big
     have hwb := zB w2 hb2.2 hb2.1
     have hzero : ∀ j, ((List.replicate V.length (0 : Int)).set f (w : Int)).getD j 0 = if j = f then (w : Int) else 0 := fun j => by
      by_cases e : j = f
      · rw [if_pos e, e, List.getD_eq_getElem?_getD, List.getElem?_set_self (by simp; omega)]; rfl
      ·
       rw [if_neg e, List.getD_eq_getElem?_getD, List.getElem?_set_ne (fun h => e h.symm), List.getElem?_replicate]
       split <;> rfl
     exact zD0 hF5 w w1 w2 w3 _ (fun L l1 l2 l3 l4 => by
      have hs := qH L (by omega) (fun j _ => by have := l4 j; omega)
      obtain ⟨g, hg, hcut⟩ := Gz.cut_at L
      have hcl := Gz.cut_len L
      obtain ⟨r, hr, hiff⟩ := zz0 (Gz.cut L) (by omega) (Gz.cut L).length 0 (by omega)
      rw [hcl] at hr
      refine ⟨r, evb hs hr, ?_⟩
      rw [hiff, hG.posrel c hfr (fun j => L.getD j 0) (by rw [l2]; omega) (fun l hl => by rw [l2]; exact l3 l hl), hcl, l1]
      constructor
      ·
       intro h j hj
       have := h j (Nat.zero_le _) hj
       show 0 < L.getD j 0
       rw [hcut j]; exact Int.mul_pos (by omega) this
      ·
       intro h j _ hj
       have := h j hj
       rw [hcut j] at this
       exact Classical.byContradiction fun hn0 => by
        have := Int.mul_nonpos_of_nonneg_of_nonpos (show 0 ≤ g by omega) (show (Gz.cut L).getD j 0 ≤ 0 by omega)
        omega) p.length 0 _ (by omega) (by simp) (by rw [hzero, if_pos rfl]) (fun k hk => by omega) (fun j => by rw [hzero]; split <;> omega)) p.length 0 1 (by omega) (Nat.le_refl _) (Int.one_dvd _) (fun k hk => by omega)
    refine ⟨r, Ev.step (fun k => impl_balance.j3.eq_2 ..) (evp (by omega) (evp (by omega) ?_)), hq⟩
    rw [Int.toNat_natCast]; exact hr) p.length 0 (by omega) (fun l hl => by omega)
   obtain ⟨r, hr, hq⟩ := key
   refine ⟨r, Ev.step (fun k => impl_balance.l0.eq_2 ..) (evn (by omega) (evb hE (evp ?_ ?_))), hq⟩
   · simp only; rw [hw]; omega
   · simp only; rw [hw, show V.length - 1 = p.length by omega]; exact hr
  ·
   refine ⟨([], false), Ev.step (fun k => impl_balance.l0.eq_2 ..) (evn (by omega) (evb hE (evn ?_ (evs rfl)))), ?_⟩
   · simp only; rw [hw]; omega
   ·
    constructor
    · intro h; cases h
    · intro h; exact absurd h (hG.norel hn.1 c)
 obtain ⟨r, hr, hq⟩ := hfin
 refine ⟨r, ?_, hq⟩
 unfold impl_balance.f
 refine evp (by omega) ?_
 rw [show rd_L2 V 0 = V.getD 0 [] from zG V 0, hS 0 (by omega)]
 have := zy0 V m (by omega) (by omega) hS r hr m 0 (by omega)
 rw [List.take_zero] at this
 exact this
theorem qi (n : Nat) : ∀ r i, n < r + i → cmbs n r i = [] ∨ r = 0 := by
 intro r
 induction r with
 | zero => intro i _; exact .inr rfl
 | succ r ih =>
  intro i h
  left
  simp only [cmbs]
  rw [List.flatMap_eq_nil_iff]
  intro j hj
  have hj := List.mem_range'_1.1 hj
  rw [List.map_eq_nil_iff]
  rcases ih (j + 1) (by omega) with e | e
  · exact e
  · subst e; omega
theorem qL (n : Nat) : ∀ r i, ∀ s ∈ cmbs n r i, ∀ x ∈ s, ∃ q : Nat, x = (q : Int) ∧ q < n := by
 intro r
 induction r with
 | zero => intro i s hs x hx; simp [cmbs] at hs; subst hs; simp at hx
 | succ r ih =>
  intro i s hs x hx
  simp only [cmbs, List.mem_flatMap, List.mem_map] at hs
  obtain ⟨j, hj, c, hc, rfl⟩ := hs
  have hj := List.mem_range'_1.1 hj
  rcases List.mem_cons.1 hx with rfl | h
  · exact ⟨j, rfl, by omega⟩
  · exact ih _ c hc x h
structure Smp (P : List (List Int)) (L : List Int) (d : Nat) : Prop where
 hd : 1 ≤ d ∧ d ≤ 4
 hn : P.length ≤ 16
 hl : L.length = P.length
 rows : ∀ i, i < P.length → (P.getD i []).length = d ∧ ∀ t, t < d → -9 ≤ (P.getD i []).getD t 0 ∧ (P.getD i []).getD t 0 ≤ 9
 lab : ∀ i, i < P.length → L.getD i 0 = 1 ∨ L.getD i 0 = -1
def sA (P : List (List Int)) (L : List Int) (s : List Int) : Nat → Nat → Int := fun i j => if i = 0 then L.getD (s.getD j 0).toNat 0 else (P.getD (s.getD j 0).toNat []).getD (i - 1) 0 * L.getD (s.getD j 0).toNat 0
def PRel (P : List (List Int)) (L : List Int) (d : Nat) (s : List Int) : Prop := Gz.PosRel (d + 1) s.length (sA P L s)
noncomputable def prB (P : List (List Int)) (L : List Int) (d : Nat) (s : List Int) : Bool := @decide (PRel P L d s) (Classical.propDecidable _)
theorem prB_iff (P : List (List Int)) (L : List Int) (d : Nat) (s : List Int) : prB P L d s = true ↔ PRel P L d s := by unfold prB; exact @decide_eq_true_iff _ (Classical.propDecidable _)
theorem kU {b : Bool} {P : List (List Int)} {L : List Int} {d : Nat} {s : List Int} (h : b = true ↔ PRel P L d s) : b = prB P L d s := by
 rw [Bool.eq_iff_iff, h, prB_iff]
def sv (P : List (List Int)) (L : List Int) (q : Nat) : List Int := L.getD q 0 :: (P.getD q []).map fun x => x * L.getD q 0
theorem je {x y : Int} (hx : -9 ≤ x ∧ x ≤ 9) (hy : y = 1 ∨ y = -1) : -9 ≤ x * y ∧ x * y ≤ 9 := by rcases hy with rfl | rfl <;> omega
theorem ju {P : List (List Int)} {L : List Int} {d : Nat} (h : Smp P L d) (q : Nat) (hq : q < P.length) : ∀ e i, i + e = d → Ev (fun k => impl_Sample_signed.l0 k (q : Int) (L.getD q 0 :: ((P.getD q []).map fun x => x * L.getD q 0).take i) (P.getD q []) ((P.getD q []).length : Int) (i : Int) P L) (sv P L q) := by
 obtain ⟨hr, hb⟩ := h.rows q hq
 have hd := h.hd
 have hl := h.hl
 have hlab := h.lab q hq
 unfold sv
 generalize P.getD q [] = row at *
 intro e
 induction e with
 | zero =>
  intro i hi
  refine Ev.step (fun k => impl_Sample_signed.l0.eq_2 ..) (evn (by omega) (evs ?_))
  rw [List.take_of_length_le (by rw [List.length_map]; omega)]
 | succ e ih =>
  intro i hi
  have hx := je (hb i (by omega)) hlab
  refine Ev.step (fun k => impl_Sample_signed.l0.eq_2 ..) (evp (by omega) (evp (by omega) (evp (by omega) (evp (by omega) (evp (by omega) (evp (by rw [List.length_cons, List.length_take, List.length_map]; omega) ?_))))))
  rw [zC, zC, w64 (by omega) (by omega), w64s i (by omega)]
  have e1 : (L.getD q 0 :: (row.map fun x => x * L.getD q 0).take i) ++ [row.getD i 0 * L.getD q 0] = L.getD q 0 :: (row.map fun x => x * L.getD q 0).take (i + 1) := by
   rw [List.cons_append, List.take_succ_eq_append_getElem (by rw [List.length_map]; omega), List.getElem_map]
   congr 3
   rw [List.getD_eq_getElem?_getD, List.getElem?_eq_getElem (show i < row.length by omega)]; rfl
  rw [e1]; exact ih (i + 1) (by omega)
theorem kV {P : List (List Int)} {L : List Int} {d : Nat} (h : Smp P L d) (q : Nat) (hq : q < P.length) : Ev (fun k => impl_Sample_signed.f k P L (q : Int)) (sv P L q) := by
 have hl := h.hl
 unfold impl_Sample_signed.f
 refine evp (by omega) (evp (by omega) (evp (by omega) ?_))
 rw [zC, zG]
 have := ju h q hq d 0 (by omega)
 rw [List.take_zero] at this
 exact this
theorem kW {P : List (List Int)} {L : List Int} {d : Nat} (h : Smp P L d) : ∀ s : List Int, (∀ x ∈ s, ∃ q : Nat, x = (q : Int) ∧ q < P.length) → Ev (fun k => impl_Sample_canPart.rows k P L s) (s.map fun x => sv P L x.toNat) := by
 intro s
 induction s with
 | nil => intro _; exact evs rfl
 | cons x s ih =>
  intro hs
  obtain ⟨q, rfl, hq⟩ := hs x (by simp)
  exact evb (kV h q hq) (evb (ih fun y hy => hs y (by simp [hy])) (evs (by simp)))
theorem qf0 (P : List (List Int)) (L : List Int) (s : List Int) (i j : Nat) (hj : j < s.length) (hi : i = 0 ∨ i - 1 < (P.getD (s.getD j 0).toNat []).length) : Gz.mt (s.map fun x => sv P L x.toNat) j i = sA P L s i j := by
 unfold Gz.mt sA
 have e : (s.map fun x => sv P L x.toNat).getD j [] = sv P L (s.getD j 0).toNat := by simp [List.getD_eq_getElem?_getD, List.getElem?_map, List.getElem?_eq_getElem hj]
 rw [e]
 unfold sv
 cases i with
 | zero => simp
 | succ i =>
  have hi : i < (P.getD (s.getD j 0).toNat []).length := by simpa using hi
  rw [if_neg (by omega), List.getD_cons_succ, Nat.add_sub_cancel]
  generalize P.getD (s.getD j 0).toNat [] = row at *
  generalize L.getD (s.getD j 0).toNat 0 = y at *
  simp [List.getD_eq_getElem?_getD, List.getElem?_map, List.getElem?_eq_getElem hi]
theorem qM (s : List Int) (j : Nat) (hj : j < s.length) : s.getD j 0 ∈ s := by
 rw [List.getD_eq_getElem?_getD, List.getElem?_eq_getElem hj]; exact List.getElem_mem hj
theorem qg0 {P : List (List Int)} {L : List Int} {d : Nat} (h : Smp P L d) (s : List Int) (hs : ∀ x ∈ s, ∃ q : Nat, x = (q : Int) ∧ q < P.length) (i j : Nat) (hi : i < d + 1) (hj : j < s.length) : -9 ≤ sA P L s i j ∧ sA P L s i j ≤ 9 := by
 obtain ⟨q, e, hq⟩ := hs _ (qM s j hj)
 unfold sA
 rw [e, Int.toNat_natCast]
 split
 · rcases h.lab q hq with e | e <;> omega
 · exact je ((h.rows q hq).2 (i - 1) (by omega)) (h.lab q hq)
theorem iOne {P : List (List Int)} {L : List Int} {d : Nat} (h : Smp P L d) (s : List Int) (hs : ∀ x ∈ s, ∃ q : Nat, x = (q : Int) ∧ q < P.length) (hl : 1 ≤ s.length ∧ s.length ≤ 6) : Ev (fun k => impl_Sample_canPart.one k P L s) (prB P L d s) := by
 have hd := h.hd
 have hrow : ∀ j, j < s.length → (P.getD (s.getD j 0).toNat []).length = d := fun j hj => by
  obtain ⟨q, e, hq⟩ := hs _ (qM s j hj)
  rw [e, Int.toNat_natCast]; exact (h.rows q hq).1
 have hat : ∀ j, j < s.length → ∀ i, i < d + 1 → Gz.mt (s.map fun x => sv P L x.toNat) j i = sA P L s i j := fun j hj i hi => qf0 P L s i j hj (by rw [hrow j hj]; omega)
 obtain ⟨r, hr, hiff⟩ := kt (s.map fun x => sv P L x.toNat) (d + 1) (by omega) (by simpa using hl) (fun i hi => by
  have hi : i < s.length := by simpa using hi
  have e : (s.map fun x => sv P L x.toNat).getD i [] = sv P L (s.getD i 0).toNat := by simp [List.getD_eq_getElem?_getD, List.getElem?_map, List.getElem?_eq_getElem hi]
  rw [e]; unfold sv; simp only [List.length_cons, List.length_map]; rw [hrow i hi]) (fun j hj i hi => by
  have hj : j < s.length := by simpa using hj
  rw [hat j hj i hi]; exact qg0 h s hs i j hi hj)
 have hP : Gz.PosRel (d + 1) (s.map fun x => sv P L x.toNat).length (fun i j => Gz.mt (s.map fun x => sv P L x.toNat) j i) ↔ PRel P L d s := by
  unfold PRel
  rw [List.length_map]
  exact Gz.PosRel_congr (fun i hi j hj => hat j hj i hi)
 have hb := kU (hiff.trans hP)
 have hcp : impl_copied.f s = some s := by
  unfold impl_copied.f
  simp only [Option.bind_some, List.nil_append, List.length_nil, Nat.zero_add]
  rw [if_pos (by omega)]
 unfold impl_Sample_canPart.one
 exact evb (kW h s hs) (evb hr (evb (evc hcp) (evs hb)))
theorem zE0 (P : List (List Int)) (L : List Int) (d : Nat) : ∀ S : List (List Int), (∀ s ∈ S, Ev (fun k => impl_Sample_canPart.one k P L s) (prB P L d s)) → ∃ k0, ∀ k, k0 ≤ k → ∀ s ∈ S, impl_Sample_canPart.one k P L s = some (prB P L d s) := by
 intro S
 induction S with
 | nil => intro _; exact ⟨0, fun _ _ s hs => by simp at hs⟩
 | cons s S ih =>
  intro h
  obtain ⟨a, ha⟩ := h s (by simp)
  obtain ⟨b, hb⟩ := ih fun t ht => h t (by simp [ht])
  refine ⟨max a b, fun k hk t ht => ?_⟩
  rcases List.mem_cons.1 ht with rfl | ht
  · exact ha k (by omega)
  · exact hb k (by omega) t ht
noncomputable def canV (P : List (List Int)) (L : List Int) (d : Nat) : Bool := !((List.range' 2 (d + 1)).flatMap fun r => cmbs P.length r 0).any (prB P L d)
theorem jL (n d : Nat) (p : List Int → Bool) : ((List.range' 2 (min n (d + 2) - 1)).flatMap fun r => cmbs n r 0).any p = ((List.range' 2 (d + 1)).flatMap fun r => cmbs n r 0).any p := by
 rcases Nat.lt_or_ge n (d + 2) with h | h
 ·
  have e : List.range' 2 (d + 1) = List.range' 2 (min n (d + 2) - 1) ++ List.range' (2 + (min n (d + 2) - 1)) (d + 1 - (min n (d + 2) - 1)) := by
   have := List.range'_append_1 (s := 2) (m := min n (d + 2) - 1) (n := d + 1 - (min n (d + 2) - 1))
   rw [show min n (d + 2) - 1 + (d + 1 - (min n (d + 2) - 1)) = d + 1 by omega] at this
   exact this.symm
  rw [e, List.flatMap_append, List.any_append]
  have h0 : ((List.range' (2 + (min n (d + 2) - 1)) (d + 1 - (min n (d + 2) - 1))).flatMap fun r => cmbs n r 0) = [] := by
   rw [List.flatMap_eq_nil_iff]
   intro r hr
   have hr := List.mem_range'_1.1 hr
   exact (qi n r 0 (by omega)).resolve_right (by omega)
  rw [h0]; simp
 · rw [show min n (d + 2) - 1 = d + 1 by omega]
theorem iCanPart {P : List (List Int)} {L : List Int} {d : Nat} (h : Smp P L d) : Ev (fun k => impl_Sample_canPart.f k P L) (canV P L d) := by
 have hd := h.hd
 have hn := h.hn
 by_cases h0 : P.length = 0
 ·
  refine ⟨0, fun k _ => ?_⟩
  show impl_Sample_canPart.f k P L = some (canV P L d)
  unfold impl_Sample_canPart.f canV
  rw [if_pos h0]
  have e : ((List.range' 2 (d + 1)).flatMap fun r => cmbs P.length r 0) = [] := by
   rw [List.flatMap_eq_nil_iff]
   intro r hr
   have hr := List.mem_range'_1.1 hr
   exact (qi P.length r 0 (by omega)).resolve_right (by omega)
  rw [e]; rfl
 ·
  have hr0 : (rd_L2 P 0).length = d := by rw [show rd_L2 P 0 = P.getD 0 [] from zG P 0]; exact (h.rows 0 (by omega)).1
  obtain ⟨k0, hk⟩ := zE0 P L d (impl_Sample_canPart.sets P.length (impl_Sample_canPart.most P.length d)) (fun s hs => by
   obtain ⟨r, hr, hs⟩ := List.mem_flatMap.1 hs
   have hr := List.mem_range'_1.1 hr
   have hM : impl_Sample_canPart.most P.length d = min P.length (d + 2) := rfl
   have hln := cmbs_len P.length r 0 s hs
   exact iOne h s (qL _ r 0 s hs) (by omega))
  refine ⟨k0, fun k hk0 => ?_⟩
  have hkk := hk k hk0
  show impl_Sample_canPart.f k P L = some (canV P L d)
  unfold impl_Sample_canPart.f
  rw [if_neg h0, hr0, if_pos ⟨by omega, by omega, fun s hs => by rw [hkk s hs]; rfl⟩]
  unfold canV
  congr 2
  rw [← jL]
  show (impl_Sample_canPart.sets P.length (impl_Sample_canPart.most P.length d)).any _ = (impl_Sample_canPart.sets P.length (impl_Sample_canPart.most P.length d)).any _
  rw [Bool.eq_iff_iff, List.any_eq_true, List.any_eq_true]
  constructor
  ·
   rintro ⟨s, hs, hp⟩
   refine ⟨s, hs, ?_⟩
   unfold impl_Sample_canPart.p at hp
   rw [hkk s hs] at hp; exact hp
  ·
   rintro ⟨s, hs, hp⟩
   refine ⟨s, hs, ?_⟩
   unfold impl_Sample_canPart.p
   rw [hkk s hs]; exact hp
theorem ku (f : Nat → Int) : ∀ n, Gz.sm f (n + 1) = f 0 + Gz.sm (fun t => f (t + 1)) n := by
 intro n
 induction n with
 | zero => simp [Gz.sm]
 | succ n ih => rw [show Gz.sm f (n + 1 + 1) = Gz.sm f (n + 1) + f (n + 1) from rfl, ih]; simp only [Gz.sm]; omega
theorem zF0 : ∀ v p : List Int, v.length = p.length → dot v p = Gz.sm (fun t => v.getD t 0 * p.getD t 0) v.length := by
 intro v
 induction v with
 | nil => intro p _; cases p <;> rfl
 | cons a v ih =>
  intro p h
  cases p with
  | nil => simp at h
  | cons b p =>
   rw [List.length_cons, ku]
   simp only [List.getD_cons_zero, List.getD_cons_succ, dot]
   rw [ih p (by simpa using h)]
theorem qh0 {P : List (List Int)} {L : List Int} {d : Nat} (h : Smp P L d) (W : List Int) (b : Int) (hW : W.length = d) (hfit : ∀ i, i < P.length → L.getD i 0 = if dot W (P.getD i []) ≥ b then 1 else -1) (s : List Int) (hs : ∀ x ∈ s, ∃ q : Nat, x = (q : Int) ∧ q < P.length) (hl : 1 ≤ s.length) : ¬ PRel P L d s := by
 rintro ⟨z, hz, hk, _⟩
 have hq : ∀ j, j < s.length → ∃ q : Nat, (s.getD j 0).toNat = q ∧ q < P.length := fun j hj => by
  obtain ⟨q, e, h⟩ := hs _ (qM s j hj)
  exact ⟨q, by rw [e, Int.toNat_natCast], h⟩
 have h0 : Gz.sm (fun j => L.getD (s.getD j 0).toNat 0 * z j) s.length = 0 := by
  refine Eq.trans (Gz.sm_congr fun j hj => ?_) (hk 0 (by omega))
  unfold sA; rw [if_pos rfl]
 have h1 : ∀ t, t < d → Gz.sm (fun j => W.getD t 0 * ((P.getD (s.getD j 0).toNat []).getD t 0 * L.getD (s.getD j 0).toNat 0 * z j)) s.length = 0 := fun t ht => by
  rw [Gz.sm_mul]
  have := hk (t + 1) (by omega)
  rw [Gz.sm_congr (g := fun j => (P.getD (s.getD j 0).toNat []).getD t 0 * L.getD (s.getD j 0).toNat 0 * z j) (fun j hj => by unfold sA; rw [if_neg (by omega), Nat.add_sub_cancel])] at this
  rw [this, Int.mul_zero]
 have h2 : Gz.sm (fun j => dot W (P.getD (s.getD j 0).toNat []) * (L.getD (s.getD j 0).toNat 0 * z j)) s.length = 0 := by
  rw [Gz.sm_congr (g := fun j => Gz.sm (fun t => W.getD t 0 * ((P.getD (s.getD j 0).toNat []).getD t 0 * L.getD (s.getD j 0).toNat 0 * z j)) d) (fun j hj => by
   obtain ⟨q, e, hqn⟩ := hq j hj
   rw [e, zF0 W _ (by rw [hW, (h.rows q hqn).1]), hW, Int.mul_comm, ← Gz.sm_mul]
   exact Gz.sm_congr fun t _ => by rw [Int.mul_left_comm, Int.mul_comm (L.getD q 0 * z j), Int.mul_assoc])]
  rw [Gz.sm_comm]
  exact Gz.sm_zero fun t ht => h1 t ht
 have h3 : Gz.sm (fun j => 2 * (dot W (P.getD (s.getD j 0).toNat []) * (L.getD (s.getD j 0).toNat 0 * z j)) + (1 - 2 * b) * (L.getD (s.getD j 0).toNat 0 * z j)) s.length = 0 := by
  rw [Gz.sm_add, Gz.sm_mul, Gz.sm_mul, h2, h0]; omega
 have h4 := Gz.sm_pos (f := fun j => 2 * (dot W (P.getD (s.getD j 0).toNat []) * (L.getD (s.getD j 0).toNat 0 * z j)) + (1 - 2 * b) * (L.getD (s.getD j 0).toNat 0 * z j)) (n := s.length) (by omega) (fun j hj => by
  obtain ⟨q, e, hqn⟩ := hq j hj
  have hzj := hz j hj
  have hf := hfit q hqn
  rw [e]
  generalize dot W (P.getD q []) = v at *
  have e1 : 2 * (v * (L.getD q 0 * z j)) + (1 - 2 * b) * (L.getD q 0 * z j) = ((2 * v + 1 - 2 * b) * L.getD q 0) * z j := by
   rw [← Int.mul_assoc 2 v, ← Int.add_mul, Int.mul_assoc]
   congr 1; omega
  rw [e1]
  refine Int.mul_pos ?_ hzj
  rw [hf]
  split <;> omega)
 omega
theorem can_of_fit {P : List (List Int)} {L : List Int} {d : Nat} (h : Smp P L d) (W : List Int) (b : Int) (hW : W.length = d) (hfit : ∀ i, i < P.length → L.getD i 0 = if dot W (P.getD i []) ≥ b then 1 else -1) : canV P L d = true := by
 unfold canV
 rw [Bool.not_eq_true', List.any_eq_false]
 intro s hs hp
 obtain ⟨r, hr, hs⟩ := List.mem_flatMap.1 hs
 have hr := List.mem_range'_1.1 hr
 exact qh0 h W b hW hfit s (qL _ r 0 s hs) (by rw [cmbs_len P.length r 0 s hs]; omega) ((prB_iff P L d s).1 hp)
end Gw
theorem smpT {m : Nat} {t : List Int} (hT : Tab m t) (h1 : 1 ≤ m) : Gw.Smp (tsP m t.length) (tsL t) m := by
 have hm := hT.1
 have h16 := hT.len
 have hrow : ∀ i, i < t.length → (tsP m t.length).getD i [] = bitPt m i := fun i hi => by
  unfold tsP; simp [List.getD_eq_getElem?_getD, List.getElem?_map, List.getElem?_range hi]
 refine ⟨by omega, by rw [zp]; exact h16, by rw [qc, zp], fun i hi => ?_, fun i hi => ?_⟩
 ·
  rw [zp] at hi
  rw [hrow i hi]
  refine ⟨bitPt_len m i, fun k hk => ?_⟩
  have hk2 : k < (bitPt m i).length := by rw [bitPt_len]; exact hk
  rw [List.getD_eq_getElem?_getD, List.getElem?_eq_getElem hk2]
  have := bitPt_in m i _ (List.getElem_mem hk2)
  simp only [Option.getD_some]; omega
 ·
  rw [zp] at hi
  have := hT.at_ i
  have e : (tsL t).getD i 0 = 2 * t.getD i 0 - 1 := by
   unfold tsL; simp [List.getD_eq_getElem?_getD, List.getElem?_map, List.getElem?_eq_getElem hi]
  rw [e]; omega
theorem jM {m : Nat} {t : List Int} (hT : Tab m t) (h1 : 1 ≤ m) : Ev (fun k => impl_TableSample.f k (m : Int) t) (tsP m t.length, tsL t, true) := by
 have h := qB (m : Int) t (by have := hT.len; omega)
 have e : isTab (m : Int) t = true := (isTab_iff _ _).2 ⟨by have := hT.1; omega, by rw [Int.toNat_natCast]; exact hT.2.1, hT.2.2⟩
 unfold tsV at h
 rw [if_pos ⟨by omega, e⟩, Int.toNat_natCast] at h
 exact h
theorem jv (t p : List Int) : ∀ i j, j < i → (t.getD j 0 = 1 → (gp t p i).1 ≤ p.getD j 0) ∧ (t.getD j 0 ≠ 1 → p.getD j 0 ≤ (gp t p i).2) := by
 intro i
 induction i with
 | zero => intro j h; omega
 | succ i ih =>
  intro j hj
  simp only [gp]
  by_cases e : t.getD i 0 = 1
  ·
   rw [if_pos e]
   rcases Nat.lt_or_ge j i with h | h
   ·
    have := ih j h
    exact ⟨fun h1 => by have := this.1 h1; unfold mn; simp only; split <;> omega, this.2⟩
   ·
    obtain rfl : j = i := by omega
    exact ⟨fun _ => by unfold mn; simp only; split <;> omega, fun h => absurd e h⟩
  ·
   rw [if_neg e]
   rcases Nat.lt_or_ge j i with h | h
   ·
    have := ih j h
    exact ⟨this.1, fun h1 => by have := this.2 h1; unfold mx; simp only; split <;> omega⟩
   ·
    obtain rfl : j = i := by omega
    exact ⟨fun h => absurd h e, fun _ => by unfold mx; simp only; split <;> omega⟩
theorem qN (n : Nat) (t : List Int) : ∀ (L : List (List Int)) (o : Option (List Int)), (∀ b, o = some b → (gpv n t b).1 > (gpv n t b).2) → ∀ b, L.foldl (zd n t) o = some b → (gpv n t b).1 > (gpv n t b).2 := by
 intro L
 induction L with
 | nil => intro o ho; exact ho
 | cons v L ih =>
  intro o ho
  refine ih _ (fun b hb => ?_)
  unfold zd at hb
  split at hb
  ·
   rename_i e
   obtain rfl := Option.some.inj hb
   rw [Bool.and_eq_true] at e
   exact of_decide_eq_true e.2
  · exact ho b hb
theorem jN {n : Nat} {t v : List Int} (h : lp n t = some v) (ht : t.length = 2 ^ n) : ∀ x y, x < 2 ^ n → y < 2 ^ n → t.getD x 0 = 1 → t.getD y 0 ≠ 1 → dot v (bitPt n y) < dot v (bitPt n x) := by
 intro x y hx hy h1 h0
 have hp := qN n t (wts 3 n) none (fun b h => by cases h) v h
 unfold gpv at hp
 have a := (jv t (zc n v) t.length x (by omega)).1 h1
 have b := (jv t (zc n v) t.length y (by omega)).2 h0
 rw [zn n v x hx] at a
 rw [zn n v y hy] at b
 omega
namespace Th
def vv : Nat → Nat → Nat
 | 0, _ => 0
 | N + 1, k => if k = N then (2 ^ (2 ^ N) - 1) <<< (2 ^ N) else (vv N k) ||| ((vv N k) <<< (2 ^ N))
def zN (N : Nat) : Nat := 2 ^ (2 ^ N) - 1
def kv (N p0 p1 p2 p3 : Nat) : Nat :=
 ((vv N p0 &&& vv N p3) &&& ((zN N ^^^ vv N p1) &&& (zN N ^^^ vv N p2))) ||| ((vv N p1 &&& vv N p2) &&& ((zN N ^^^ vv N p0) &&& (zN N ^^^ vv N p3)))
def tb (p0 p3 p1 p2 : Nat) : Bool := Nat.beq (p0 &&& p3) (p1 &&& p2) && Nat.beq (p0 ||| p3) (p1 ||| p2)
def q2 (N p0 p3 p1 : Nat) : Nat → Nat
 | 0 => 0
 | p2 + 1 => (bif Nat.ble (p1 + 1) p2 && tb p0 p3 p1 p2 then kv N p0 p1 p2 p3 else 0) ||| q2 N p0 p3 p1 p2
def q1 (N p0 p3 : Nat) : Nat → Nat
 | 0 => 0
 | p1 + 1 => (bif Nat.ble (p0 + 1) p1 then q2 N p0 p3 p1 p3 else 0) ||| q1 N p0 p3 p1
def q3 (N p0 : Nat) : Nat → Nat
 | 0 => 0
 | p3 + 1 => q1 N p0 p3 p3 ||| q3 N p0 p3
def q0 (N : Nat) : Nat → Nat
 | 0 => 0
 | p0 + 1 => q3 N p0 N ||| q0 N p0
def trd (N : Nat) : Nat := q0 N N
def nx (q : List Nat) (w : Nat) : List Nat := q.map (· + 3) ++ q.map (· + w)
def cd (b : Nat) : List Nat → Nat
 | [] => 0
 | y :: q => (bif Nat.ble b y then 1 else 0) + 2 * cd b q
def tl (q : List Nat) : List Nat → Nat
 | [] => 1
 | b :: bs => (1 <<< cd b q) ||| tl q bs
def tt : Nat → List Nat → Nat
 | 0, q => tl q q
 | n + 1, q => (((tt n (nx q 0) ||| tt n (nx q 1)) ||| (tt n (nx q 2) ||| tt n (nx q 3))) ||| ((tt n (nx q 4) ||| tt n (nx q 5)) ||| tt n (nx q 6)))
def okm (m : Nat) : Bool := Nat.beq (tt m [0] ||| trd (2 ^ m)) (zN (2 ^ m))
theorem qi0 : ∀ N k, k < N → vv N k < 2 ^ (2 ^ N) := by
 intro N
 induction N with
 | zero => intro k h; omega
 | succ N ih =>
  intro k h
  have e : 2 ^ 2 ^ (N + 1) = 2 ^ 2 ^ N * 2 ^ 2 ^ N := by rw [Nat.pow_succ 2 N, Nat.mul_two, Nat.pow_add]
  have hp := Nat.two_pow_pos (2 ^ N)
  simp only [vv]
  by_cases c : k = N
  ·
   rw [if_pos c, Nat.shiftLeft_eq, e]
   exact Nat.mul_lt_mul_of_pos_right (by omega) hp
  ·
   rw [if_neg c]
   have h1 := ih k (by omega)
   refine Nat.or_lt_two_pow (Nat.lt_of_lt_of_le h1 (Nat.pow_le_pow_right (by decide) (Nat.pow_le_pow_right (by decide) (by omega)))) ?_
   rw [Nat.shiftLeft_eq, e]
   exact Nat.mul_lt_mul_of_pos_right h1 hp
theorem zO : ∀ N k x, k < N → x < 2 ^ N → (vv N k).testBit x = x.testBit k := by
 intro N
 induction N with
 | zero => intro k x h; omega
 | succ N ih =>
  intro k x h hx
  rw [Nat.pow_succ] at hx
  simp only [vv]
  by_cases c : k = N
  ·
   subst c
   rw [if_pos rfl, Nat.testBit_shiftLeft, Nat.testBit_two_pow_sub_one]
   by_cases g : 2 ^ k ≤ x
   ·
    have e : x.testBit k = true := by
     rw [Nat.testBit_eq_decide_div_mod_eq, show x / 2 ^ k = 1 from Nat.div_eq_of_lt_le (by omega) (by omega)]; rfl
    rw [e, decide_eq_true (show 2 ^ k ≤ x from g), decide_eq_true (show x - 2 ^ k < 2 ^ k by omega)]; rfl
   · rw [decide_eq_false (show ¬ 2 ^ k ≤ x from g), Nat.testBit_lt_two_pow (by omega)]; rfl
  ·
   rw [if_neg c, Nat.testBit_or, Nat.testBit_shiftLeft]
   by_cases g : 2 ^ N ≤ x
   ·
    have h0 : (vv N k).testBit x = false := Nat.testBit_lt_two_pow (Nat.lt_of_lt_of_le (qi0 N k (by omega)) (Nat.pow_le_pow_right (by decide) g))
    rw [h0, decide_eq_true (show 2 ^ N ≤ x from g), Bool.false_or, Bool.true_and, ih k (x - 2 ^ N) (by omega) (by omega)]
    have hl : k < N := by omega
    obtain ⟨d, rfl⟩ : ∃ d, N = k + 1 + d := ⟨N - (k + 1), by omega⟩
    rw [Nat.testBit_eq_decide_div_mod_eq, Nat.testBit_eq_decide_div_mod_eq]
    have e2 : 2 ^ (k + 1 + d) = 2 ^ k * (2 * 2 ^ d) := by rw [Nat.pow_add, Nat.pow_succ, Nat.mul_assoc]
    rw [e2] at g ⊢
    have e3 : (x - 2 ^ k * (2 * 2 ^ d)) / 2 ^ k = x / 2 ^ k - 2 * 2 ^ d := by rw [Nat.sub_mul_div_of_le]; exact g
    rw [e3]
    have : 2 * 2 ^ d ≤ x / 2 ^ k := (Nat.le_div_iff_mul_le (Nat.two_pow_pos k)).2 (by rw [Nat.mul_comm]; exact g)
    congr 2
    generalize 2 ^ d = D at *
    omega
   · rw [decide_eq_false (show ¬ 2 ^ N ≤ x from g), Bool.false_and, Bool.or_false, ih k x (by omega) (by omega)]
theorem zW (N k x : Nat) (hk : k < N) (hx : x < 2 ^ N) : (zN N ^^^ vv N k).testBit x = !x.testBit k := by
 unfold zN
 rw [Nat.testBit_xor, zO N k x hk hx, Nat.testBit_two_pow_sub_one, decide_eq_true hx]
 cases x.testBit k <;> rfl
def qO (N x : Nat) : Prop := ∃ p0 p1 p2 p3, p0 < p1 ∧ p1 < p2 ∧ p2 < p3 ∧ p3 < N ∧ tb p0 p3 p1 p2 = true ∧ x.testBit p0 = x.testBit p3 ∧ x.testBit p1 = x.testBit p2 ∧ x.testBit p0 ≠ x.testBit p1
theorem kX {N p0 p1 p2 p3 x : Nat} (hx : x < 2 ^ N) (h01 : p0 < p1) (h12 : p1 < p2) (h23 : p2 < p3) (h3 : p3 < N) (h : (kv N p0 p1 p2 p3).testBit x = true) : x.testBit p0 = x.testBit p3 ∧ x.testBit p1 = x.testBit p2 ∧ x.testBit p0 ≠ x.testBit p1 := by
 unfold kv at h
 rw [Nat.testBit_or, Nat.testBit_and, Nat.testBit_and, Nat.testBit_and, Nat.testBit_and, Nat.testBit_and, Nat.testBit_and, zO N p0 x (by omega) hx, zO N p1 x (by omega) hx, zO N p2 x (by omega) hx, zO N p3 x (by omega) hx, zW N p0 x (by omega) hx, zW N p1 x (by omega) hx, zW N p2 x (by omega) hx, zW N p3 x (by omega) hx] at h
 revert h
 cases x.testBit p0 <;> cases x.testBit p1 <;> cases x.testBit p2 <;> cases x.testBit p3 <;> simp
theorem zt (x : Nat) : (0 : Nat).testBit x = false := Nat.zero_testBit x
theorem qj0 {N p0 p3 p1 x : Nat} (hx : x < 2 ^ N) (h01 : p0 < p1) (h3 : p3 < N) : ∀ n, n ≤ p3 → (q2 N p0 p3 p1 n).testBit x = true → qO N x := by
 intro n
 induction n with
 | zero => intro _ h; simp [q2] at h
 | succ n ih =>
  intro hn h
  simp only [q2] at h
  rw [Nat.testBit_or, Bool.or_eq_true] at h
  rcases h with h | h
  ·
   by_cases c : (Nat.ble (p1 + 1) n && tb p0 p3 p1 n) = true
   ·
    rw [c, cond_true] at h
    rw [Bool.and_eq_true] at c
    have c1 := Nat.le_of_ble_eq_true c.1
    exact ⟨p0, p1, n, p3, h01, by omega, by omega, h3, c.2, kX hx h01 (by omega) (by omega) h3 h⟩
   ·
    rw [Bool.not_eq_true] at c
    rw [c, cond_false, zt] at h; cases h
  · exact ih (by omega) h
theorem qk0 {N p0 p3 x : Nat} (hx : x < 2 ^ N) (h3 : p3 < N) : ∀ n, n ≤ p3 → (q1 N p0 p3 n).testBit x = true → qO N x := by
 intro n
 induction n with
 | zero => intro _ h; simp [q1] at h
 | succ n ih =>
  intro hn h
  simp only [q1] at h
  rw [Nat.testBit_or, Bool.or_eq_true] at h
  rcases h with h | h
  ·
   by_cases c : Nat.ble (p0 + 1) n = true
   ·
    rw [c, cond_true] at h
    have c1 := Nat.le_of_ble_eq_true c
    exact qj0 hx (by omega) h3 p3 (Nat.le_refl _) h
   ·
    rw [Bool.not_eq_true] at c
    rw [c, cond_false, zt] at h; cases h
  · exact ih (by omega) h
theorem ql0 {N p0 x : Nat} (hx : x < 2 ^ N) : ∀ n, n ≤ N → (q3 N p0 n).testBit x = true → qO N x := by
 intro n
 induction n with
 | zero => intro _ h; simp [q3] at h
 | succ n ih =>
  intro hn h
  simp only [q3] at h
  rw [Nat.testBit_or, Bool.or_eq_true] at h
  rcases h with h | h
  · exact qk0 hx (by omega) n (Nat.le_refl _) h
  · exact ih (by omega) h
theorem qm0 {N x : Nat} (hx : x < 2 ^ N) : ∀ n, (q0 N n).testBit x = true → qO N x := by
 intro n
 induction n with
 | zero => intro h; simp [q0] at h
 | succ n ih =>
  intro h
  simp only [q0] at h
  rw [Nat.testBit_or, Bool.or_eq_true] at h
  rcases h with h | h
  · exact ql0 hx N (Nat.le_refl _) h
  · exact ih h
theorem qn0 (q : List Nat) (x : Nat) : ∀ bs, (tl q bs).testBit x = true → ∃ b, x = cd b q := by
 intro bs
 induction bs with
 | nil =>
  intro h
  have : x = 0 := by
   simp only [tl] at h
   rw [Nat.testBit_one_eq_true_iff_self_eq_zero] at h; exact h
  subst this
  have key : ∀ l : List Nat, ∃ B, ∀ b, B ≤ b → cd b l = 0 := by
   intro l
   induction l with
   | nil => exact ⟨0, fun _ _ => rfl⟩
   | cons y l ih =>
    obtain ⟨B, hB⟩ := ih
    refine ⟨max B (y + 1), fun b hb => ?_⟩
    simp only [cd]
    rw [hB b (by omega), show Nat.ble b y = false from Bool.eq_false_iff.2 (fun h => by have := Nat.le_of_ble_eq_true h; omega)]; rfl
  obtain ⟨B, hB⟩ := key q
  exact ⟨B, (hB B (Nat.le_refl _)).symm⟩
 | cons b bs ih =>
  intro h
  simp only [tl] at h
  rw [Nat.testBit_or, Bool.or_eq_true] at h
  rcases h with h | h
  ·
   refine ⟨b, ?_⟩
   rw [Nat.testBit_shiftLeft, Bool.and_eq_true, decide_eq_true_eq, Nat.testBit_one_eq_true_iff_self_eq_zero] at h
   omega
  · exact ih h
theorem qo0 (x : Nat) : ∀ n q, (tt n q).testBit x = true → ∃ ws : List Nat, ws.length = n ∧ (∀ w ∈ ws, w ≤ 6) ∧ ∃ b, x = cd b (ws.foldl nx q) := by
 intro n
 induction n with
 | zero => intro q h; exact ⟨[], rfl, by simp, qn0 q x q h⟩
 | succ n ih =>
  intro q h
  have one : ∀ w, w ≤ 6 → (tt n (nx q w)).testBit x = true → ∃ ws : List Nat, ws.length = n + 1 ∧ (∀ w ∈ ws, w ≤ 6) ∧ ∃ b, x = cd b (ws.foldl nx q) := by
   intro w hw hx
   obtain ⟨ws, h1, h2, h3⟩ := ih _ hx
   refine ⟨w :: ws, by simp [h1], fun y hy => ?_, h3⟩
   rcases List.mem_cons.1 hy with rfl | hy
   · exact hw
   · exact h2 y hy
  simp only [tt] at h
  rw [Nat.testBit_or, Nat.testBit_or, Nat.testBit_or, Nat.testBit_or, Nat.testBit_or, Nat.testBit_or] at h
  simp only [Bool.or_eq_true] at h
  rcases h with ((h | h) | (h | h)) | ((h | h) | h)
  · exact one 0 (by decide) h
  · exact one 1 (by decide) h
  · exact one 2 (by decide) h
  · exact one 3 (by decide) h
  · exact one 4 (by decide) h
  · exact one 5 (by decide) h
  · exact one 6 (by decide) h
theorem kY (m : Nat) (h : m ≤ 4) : okm m = true := by
 have hm : m = 0 ∨ m = 1 ∨ m = 2 ∨ m = 3 ∨ m = 4 := by omega
 rcases hm with rfl | rfl | rfl | rfl | rfl <;> decide +kernel
theorem all_told (m : Nat) (hm : m ≤ 4) (x : Nat) (hx : x < 2 ^ (2 ^ m)) : qO (2 ^ m) x ∨ ∃ ws : List Nat, ws.length = m ∧ (∀ w ∈ ws, w ≤ 6) ∧ ∃ b, x = cd b (ws.foldl nx [0]) := by
 have h := Nat.eq_of_beq_eq_true (kY m hm)
 have hb : (tt m [0] ||| trd (2 ^ m)).testBit x = true := by
  rw [h]; unfold zN; rw [Nat.testBit_two_pow_sub_one]; exact decide_eq_true hx
 rw [Nat.testBit_or, Bool.or_eq_true] at hb
 rcases hb with hb | hb
 · exact .inr (qo0 x m [0] hb)
 · exact .inl (qm0 hx _ hb)
end Th
theorem zG0 (m : Nat) : ∀ n (v : List Int), v.length = n → (∀ x ∈ v, -(m : Int) ≤ x ∧ x ≤ m) → v ∈ wts m n := by
 intro n
 induction n with
 | zero => intro v hl _; obtain rfl := List.eq_nil_of_length_eq_zero hl; simp [wts]
 | succ n ih =>
  intro v hl hb
  cases v with
  | nil => simp at hl
  | cons x v =>
   have hx := hb x (by simp)
   refine (wfrom_mem _ _ _ _).2 ⟨(x + m).toNat, by omega, v, ih v (by simpa using hl) (fun y hy => hb y (by simp [hy])), ?_⟩
   congr 1; omega
theorem kZ (n : Nat) (t : List Int) : ∀ (L : List (List Int)) (o : Option (List Int)) (b : List Int), L.foldl (zd n t) o = some b → b ∈ L ∨ o = some b := by
 intro L
 induction L with
 | nil => intro o b h; exact .inr h
 | cons v L ih =>
  intro o b h
  rcases ih _ b h with h | h
  · exact .inl (by simp [h])
  ·
   unfold zd at h
   split at h
   · obtain rfl := Option.some.inj h; exact .inl (by simp)
   · exact .inr h
theorem jO {n : Nat} {t v : List Int} (h : lp n t = some v) : v ∈ wts 3 n := by
 rcases kZ n t _ _ v h with h | h
 · exact h
 · cases h
theorem jP (n : Nat) (t : List Int) : ∀ (L : List (List Int)) (o : Option (List Int)), (o.isSome = true ∨ ∃ v ∈ L, (gpv n t v).1 > (gpv n t v).2) → (L.foldl (zd n t) o).isSome = true := by
 intro L
 induction L with
 | nil => intro o h; rcases h with h | ⟨v, hv, _⟩; exact h; cases hv
 | cons v L ih =>
  intro o h
  refine ih _ ?_
  have hs : o.isSome = true → (zd n t o v).isSome = true := fun h => by
   unfold zd; split
   · rfl
   · exact h
  rcases h with h | ⟨u, hu, hg⟩
  · exact .inl (hs h)
  ·
   rcases List.mem_cons.1 hu with rfl | hu
   ·
    cases o with
    | none => left; unfold zd; rw [if_pos (by rw [decide_eq_true hg]; rfl)]; rfl
    | some b => exact .inl (hs rfl)
   · exact .inr ⟨u, hu, hg⟩
theorem zH0 (t p : List Int) (b : Int) (hb : -1000000000 < b ∧ b < 1000000000) : ∀ i, (∀ j, j < i → (t.getD j 0 = 1 ↔ p.getD j 0 ≥ b)) → b ≤ (gp t p i).1 ∧ (gp t p i).2 < b := by
 intro i
 induction i with
 | zero => intro _; simp only [gp]; omega
 | succ i ih =>
  intro h
  have h1 := ih fun j hj => h j (by omega)
  have h2 := h i (by omega)
  simp only [gp]
  by_cases e : t.getD i 0 = 1
  ·
   rw [if_pos e]
   have := h2.1 e
   unfold mn; simp only; split <;> omega
  ·
   rw [if_neg e]
   have : ¬ p.getD i 0 ≥ b := fun h => e (h2.2 h)
   unfold mx; simp only; split <;> omega
def Sep (m : Nat) (t v : List Int) (b : Int) : Prop := v.length = m ∧ (∀ x ∈ v, -3 ≤ x ∧ x ≤ 3) ∧ ∀ k, k < 2 ^ m → (t.getD k 0 = 1 ↔ dot v (bitPt m k) ≥ b)
theorem kw {m : Nat} {v : List Int} (hl : v.length = m) (hb : ∀ x ∈ v, -3 ≤ x ∧ x ≤ 3) (k : Nat) : -(3 * (m : Int)) ≤ dot v (bitPt m k) ∧ dot v (bitPt m k) ≤ 3 * m := by
 have := dot_bd 3 1 (by decide) (by decide) v (bitPt m k) hb (bitPt_in m k)
 rw [hl] at this; omega
theorem qj {m : Nat} {t v : List Int} {b : Int} (hm : m ≤ 4) (ht : t.length = 2 ^ m) (h : Sep m t v b) : (lp m t).isSome = true := by
 obtain ⟨hl, hb, hs⟩ := h
 have hB : ∃ c : Int, (-1000000000 < c ∧ c < 1000000000) ∧ ∀ k, k < 2 ^ m → (t.getD k 0 = 1 ↔ dot v (bitPt m k) ≥ c) := by
  by_cases c1 : b ≤ -1000
  · exact ⟨-1000, by omega, fun k hk => (hs k hk).trans (by have := kw hl hb k; omega)⟩
  by_cases c2 : b ≥ 1000
  rotate_left
  · exact ⟨b, by omega, hs⟩
  exact ⟨1000, by omega, fun k hk => (hs k hk).trans (by have := kw hl hb k; omega)⟩
 obtain ⟨c, hc, hs⟩ := hB
 refine jP m t _ _ (.inr ⟨v, zG0 3 m v hl (fun x hx => by have := hb x hx; omega), ?_⟩)
 have := zH0 t (zc m v) c hc t.length fun j hj => by rw [zn m v j (by omega)]; exact hs j (by omega)
 unfold gpv; omega
theorem jf {m : Nat} {t v : List Int} (hm : m ≤ 4) (ht : t.length = 2 ^ m) (h : lp m t = some v) : Sep m t v (bnd m t v) ∧ -99 ≤ bnd m t v ∧ bnd m t v ≤ 99 := by
 have hw := jO h
 have hl := wts_len 3 m v hw
 have hb := wts_bd 3 m v hw
 have hp := qN m t (wts 3 m) none (fun b h => by cases h) v h
 have hg := qz (t := t) hm (zv m t v h)
 have hle := jv t (zc m v) t.length
 have h0 := hle 0 (by have := Nat.two_pow_pos m; omega)
 rw [zn m v 0 (Nat.two_pow_pos m)] at h0
 have hd0 := kw hl (fun x hx => by have := hb x hx; omega) 0
 have e : ∀ k, k < 2 ^ m → (t.getD k 0 = 1 → (gpv m t v).1 ≤ dot v (bitPt m k)) ∧ (t.getD k 0 ≠ 1 → dot v (bitPt m k) ≤ (gpv m t v).2) := fun k hk => by
  have := hle k (by omega)
  rw [zn m v k hk] at this
  exact this
 have hbn : bnd m t v ≤ (gpv m t v).1 ∧ (gpv m t v).2 < bnd m t v := by unfold bnd; split <;> omega
 refine ⟨⟨hl, fun x hx => by have := hb x hx; omega, fun k hk => ⟨fun h1 => ?_, fun h1 => ?_⟩⟩, ?_⟩
 · have := (e k hk).1 h1; omega
 ·
  refine Classical.byContradiction fun h2 => ?_
  have := (e k hk).2 h2; omega
 ·
  have e0 := e 0 (Nat.two_pow_pos m)
  have hx : t.getD 0 0 = 1 ∨ t.getD 0 0 ≠ 1 := by omega
  unfold bnd at hbn ⊢
  rcases hx with hx | hx
  ·
   have := e0.1 hx
   rw [if_neg (by omega)]; omega
  ·
   have := e0.2 hx
   split
   · omega
   · omega
theorem zI0 {m : Nat} {t : List Int} (hm : m ≤ 4) (ht : t.length = 2 ^ m) : (lp m t).isSome = true ↔ ∃ v b, Sep m t v b := by
 constructor
 ·
  intro h
  obtain ⟨v, hv⟩ := Option.isSome_iff_exists.1 h
  exact ⟨v, _, (jf hm ht hv).1⟩
 · rintro ⟨v, b, h⟩; exact qj hm ht h
def tcd : List Int → Nat
 | [] => 0
 | y :: t => (bif decide (y = 1) then 1 else 0) + 2 * tcd t
theorem jg (c : Bool) (n k : Nat) : ((bif c then 1 else 0) + 2 * n).testBit (k + 1) = n.testBit k := by
 rw [Nat.testBit_succ]; congr 1; cases c <;> simp <;> omega
theorem qP (c : Bool) (n : Nat) : ((bif c then 1 else 0) + 2 * n).testBit 0 = c := by
 rw [Nat.testBit_zero]; cases c <;> simp <;> omega
theorem qd : ∀ (t : List Int) (k : Nat), (tcd t).testBit k = decide (t.getD k 0 = 1) := by
 intro t
 induction t with
 | nil => intro k; simp [tcd]
 | cons y t ih =>
  intro k
  cases k with
  | zero => rw [tcd, qP]; rfl
  | succ k => rw [tcd, jg, ih]; rfl
theorem zJ0 : ∀ t : List Int, tcd t < 2 ^ t.length := by
 intro t
 induction t with
 | nil => simp [tcd]
 | cons y t ih => simp only [tcd, List.length_cons, Nat.pow_succ]; cases decide (y = 1) <;> simp <;> omega
theorem zK0 (b : Nat) : ∀ (q : List Nat) (k : Nat), k < q.length → (Th.cd b q).testBit k = decide (b ≤ q.getD k 0) := by
 intro q
 induction q with
 | nil => intro k h; simp at h
 | cons y q ih =>
  intro k h
  have hb : Nat.ble b y = decide (b ≤ y) := by rw [Bool.eq_iff_iff]; simp
  cases k with
  | zero => rw [Th.cd, qP, hb]; rfl
  | succ k => rw [Th.cd, jg, ih k (by simpa using h)]; rfl
theorem kx : ∀ (a b : List Int) (x y : Int), a.length = b.length → dot (a ++ [x]) (b ++ [y]) = dot a b + x * y := by
 intro a
 induction a with
 | nil => intro b x y h; obtain rfl := List.eq_nil_of_length_eq_zero h.symm; simp [dot]
 | cons z a ih =>
  intro b x y h
  cases b with
  | nil => simp at h
  | cons w b => simp only [List.cons_append, dot]; rw [ih b x y (by simpa using h)]; omega
theorem jw (n k : Nat) : bitPt (n + 1) k = bitPt n k ++ [((bit k n : Nat) : Int)] := by unfold bitPt; rw [List.range_succ, List.map_append]; rfl
theorem za0 (n k i : Nat) (hi : i < n) : bit (k + 2 ^ n) i = bit k i := by
 unfold bit
 obtain ⟨d, rfl⟩ : ∃ d, n = i + 1 + d := ⟨n - (i + 1), by omega⟩
 rw [show 2 ^ (i + 1 + d) = 2 ^ i * (2 * 2 ^ d) by rw [Nat.pow_add, Nat.pow_succ, Nat.mul_assoc], Nat.add_mul_div_left _ _ (Nat.two_pow_pos i)]
 omega
theorem jQ (n k : Nat) : bitPt n (k + 2 ^ n) = bitPt n k := by
 unfold bitPt
 exact List.map_congr_left fun i hi => by rw [za0 n k i (List.mem_range.1 hi)]
theorem qp0 : ∀ (n : Nat) (ws : List Nat), ws.length = n → (ws.foldl Th.nx [0]).length = 2 ^ n ∧ ∀ k, k < 2 ^ n → (((ws.foldl Th.nx [0]).getD k 0 : Nat) : Int) = dot (ws.map fun w : Nat => (w : Int) - 3) (bitPt n k) + 3 * n := by
 intro n
 induction n with
 | zero =>
  intro ws h
  obtain rfl := List.eq_nil_of_length_eq_zero h
  refine ⟨rfl, fun k hk => ?_⟩
  obtain rfl : k = 0 := by simpa using hk
  simp [dot]
 | succ n ih =>
  intro ws h
  obtain ⟨ws', w, rfl⟩ : ∃ ws' w, ws = ws' ++ [w] := ⟨ws.dropLast, ws.getLast (by intro e; rw [e] at h; simp at h), (List.dropLast_concat_getLast _).symm⟩
  have hl : ws'.length = n := by simpa using h
  obtain ⟨h1, h2⟩ := ih ws' hl
  rw [List.foldl_append, List.foldl_cons, List.foldl_nil, Nat.pow_succ]
  generalize ws'.foldl Th.nx [0] = q at h1 h2
  unfold Th.nx
  have hlm : (ws'.map fun w : Nat => (w : Int) - 3).length = (bitPt n 0).length := by rw [List.length_map, bitPt_len, hl]
  refine ⟨by simp [h1]; omega, fun k hk => ?_⟩
  rw [List.map_append, List.map_cons, List.map_nil, jw, kx _ _ _ _ (by rw [bitPt_len]; rw [bitPt_len] at hlm; exact hlm)]
  by_cases c : k < 2 ^ n
  ·
   have e := h2 k c
   have hb : bit k n = 0 := testBit_out c (Nat.le_refl n)
   rw [hb, List.getD_eq_getElem?_getD, List.getElem?_append_left (by simp [h1, c]), List.getElem?_map, List.getElem?_eq_getElem (by omega)]
   rw [List.getD_eq_getElem?_getD, List.getElem?_eq_getElem (by omega)] at e
   simp only [Option.map_some, Option.getD_some] at e ⊢
   omega
  ·
   obtain ⟨j, rfl⟩ : ∃ j, k = j + 2 ^ n := ⟨k - 2 ^ n, by omega⟩
   have hj : j < 2 ^ n := by omega
   have e := h2 j hj
   have hb : bit (j + 2 ^ n) n = 1 := by
    unfold bit; rw [Nat.add_div_right _ (Nat.two_pow_pos n), Nat.div_eq_of_lt hj]
   rw [jQ, hb, List.getD_eq_getElem?_getD, List.getElem?_append_right (by simp [h1]), List.length_map, h1, Nat.add_sub_cancel, List.getElem?_map, List.getElem?_eq_getElem (by omega)]
   rw [List.getD_eq_getElem?_getD, List.getElem?_eq_getElem (by omega)] at e
   simp only [Option.map_some, Option.getD_some] at e ⊢
   omega
def Trd (m : Nat) (t : List Int) (p0 p1 p2 p3 : Nat) : Prop := p0 < p1 ∧ p1 < p2 ∧ p2 < p3 ∧ p3 < 2 ^ m ∧ (p0 &&& p3 = p1 &&& p2 ∧ p0 ||| p3 = p1 ||| p2) ∧ t.getD p0 0 = t.getD p3 0 ∧ t.getD p1 0 = t.getD p2 0 ∧ t.getD p1 0 = 1 - t.getD p0 0
theorem jR {m : Nat} {t : List Int} (hT : Tab m t) : (lp m t).isSome = true ∨ ∃ p0 p1 p2 p3, Trd m t p0 p1 p2 p3 := by
 obtain ⟨hm, ht, _⟩ := id hT
 rcases Th.all_told m hm (tcd t) (by rw [← ht]; exact zJ0 t) with h | h
 ·
  obtain ⟨p0, p1, p2, p3, h1, h2, h3, h4, h5, h6, h7, h8⟩ := h
  rw [qd, qd] at h6 h7 h8
  have a0 := hT.at_ p0; have a1 := hT.at_ p1; have a2 := hT.at_ p2; have a3 := hT.at_ p3
  unfold Th.tb at h5
  rw [Bool.and_eq_true] at h5
  have e6 := decide_eq_decide.1 h6; have e7 := decide_eq_decide.1 h7
  have e8 : ¬ (t.getD p0 0 = 1 ↔ t.getD p1 0 = 1) := fun e => h8 (decide_eq_decide.2 e)
  refine .inr ⟨p0, p1, p2, p3, h1, h2, h3, h4, ⟨Nat.eq_of_beq_eq_true h5.1, Nat.eq_of_beq_eq_true h5.2⟩, ?_, ?_, ?_⟩ <;> omega
 ·
  obtain ⟨ws, h1, h2, b, hb⟩ := h
  obtain ⟨q1, q2⟩ := qp0 m ws h1
  refine .inl (qj (v := ws.map fun w : Nat => (w : Int) - 3) (b := (b : Int) - 3 * m) hm ht ⟨by simp [h1], fun x hx => ?_, fun k hk => ?_⟩)
  ·
   obtain ⟨w, hw, rfl⟩ := List.mem_map.1 hx
   have := h2 w hw; omega
  ·
   have hk2 := qd t k
   rw [hb, zK0 b _ k (by rw [q1]; exact hk), decide_eq_decide] at hk2
   rw [← hk2]
   have := q2 k hk; omega
theorem zb0 (l : List Int) (a b c : Nat) : ∀ n d r, (r.isSome = true ∨ ∃ x, d ≤ x ∧ x < d + n ∧ tcond l a b c x = true) → (s3 l a b c d n r).isSome = true := by
 intro n
 induction n with
 | zero => intro d r h; rcases h with h | ⟨x, h1, h2, _⟩; exact h; omega
 | succ n ih =>
  intro d r h
  simp only [s3]
  split
  · rfl
  ·
   rename_i e
   refine ih (d + 1) r ?_
   rcases h with h | ⟨x, h1, h2, h3⟩
   · exact .inl h
   ·
    refine .inr ⟨x, ?_, by omega, h3⟩
    refine Classical.byContradiction fun h4 => ?_
    obtain rfl : x = d := by omega
    exact e h3
theorem zc0 (l : List Int) (a b : Nat) : ∀ n c r, (r.isSome = true ∨ ∃ y x, c ≤ y ∧ y < c + n ∧ y ≤ x ∧ x < l.length ∧ tcond l a b y x = true) → (s2 l a b c n r).isSome = true := by
 intro n
 induction n with
 | zero => intro c r h; rcases h with h | ⟨y, x, h1, h2, _⟩; exact h; omega
 | succ n ih =>
  intro c r h
  simp only [s2]
  refine zb0 l a b c _ _ _ ?_
  rcases h with h | ⟨y, x, h1, h2, h3, h4, h5⟩
  · exact .inl (ih _ _ (.inl h))
  ·
   by_cases e : y = c
   · subst e; exact .inr ⟨x, h3, by omega, h5⟩
   · exact .inl (ih _ _ (.inr ⟨y, x, by omega, by omega, h3, h4, h5⟩))
theorem zd0 (l : List Int) (a : Nat) : ∀ n b r, (r.isSome = true ∨ ∃ z y x, b ≤ z ∧ z < b + n ∧ y ≤ x ∧ x < l.length ∧ tcond l a z y x = true) → (s1 l a b n r).isSome = true := by
 intro n
 induction n with
 | zero => intro b r h; rcases h with h | ⟨z, y, x, h1, h2, _⟩; exact h; omega
 | succ n ih =>
  intro b r h
  simp only [s1]
  refine zc0 l a b _ _ _ ?_
  rcases h with h | ⟨z, y, x, h1, h2, h3, h4, h5⟩
  · exact .inl (ih _ _ (.inl h))
  ·
   by_cases e : z = b
   · subst e; exact .inr ⟨y, x, by omega, by omega, h3, h4, h5⟩
   · exact .inl (ih _ _ (.inr ⟨z, y, x, by omega, by omega, h3, h4, h5⟩))
theorem ze0 (l : List Int) : ∀ n a, (∃ w z y x, a ≤ w ∧ w < a + n ∧ w ≤ z ∧ z < l.length ∧ y ≤ x ∧ x < l.length ∧ tcond l w z y x = true) → (s0 l a n).isSome = true := by
 intro n
 induction n with
 | zero => rintro a ⟨w, z, y, x, h1, h2, _⟩; omega
 | succ n ih =>
  rintro a ⟨w, z, y, x, h1, h2, h3, h4, h5, h6, h7⟩
  simp only [s0]
  refine zd0 l a _ _ _ ?_
  by_cases e : w = a
  · subst e; exact .inr ⟨z, y, x, h3, by omega, h5, h6, h7⟩
  · exact .inl (ih _ ⟨w, z, y, x, by omega, by omega, h3, h4, h5, h6, h7⟩)
theorem Trd.found {m : Nat} {t : List Int} {p0 p1 p2 p3 : Nat} (hT : Tab m t) (h : Trd m t p0 p1 p2 p3) : (s0 t 0 t.length).isSome = true := by
 obtain ⟨h1, h2, h3, h4, ⟨h5, h5'⟩, h6, h7, h8⟩ := h
 have ht := hT.2.1
 have a0 := hT.at_ p0
 refine ze0 t t.length 0 ?_
 by_cases c : t.getD p0 0 = 1
 ·
  refine ⟨p0, p3, p1, p2, by omega, by omega, by omega, by omega, by omega, by omega, ?_⟩
  unfold tcond; rw [decide_eq_true (by omega), decide_eq_true (by omega), decide_eq_true h5, decide_eq_true h5']; rfl
 ·
  refine ⟨p1, p2, p0, p3, by omega, by omega, by omega, by omega, by omega, by omega, ?_⟩
  unfold tcond; rw [decide_eq_true (by omega), decide_eq_true (by omega), decide_eq_true h5.symm, decide_eq_true h5'.symm]; rfl
theorem zL0 (l : List Int) (a b c : Nat) (G : List Int → Prop) (hG : ∀ d, d < l.length → c ≤ d → tcond l a b c d = true → G [(a : Int), (b : Int), (c : Int), (d : Int)]) : ∀ n d r, c ≤ d → d + n ≤ l.length → (∀ u, r = some u → G u) → ∀ u, s3 l a b c d n r = some u → G u := by
 intro n
 induction n with
 | zero => intro d r _ _ hr; exact hr
 | succ n ih =>
  intro d r h0 h1 hr u hu
  simp only [s3] at hu
  split at hu
  · rename_i e; obtain rfl := Option.some.inj hu; exact hG d (by omega) h0 e
  · exact ih (d + 1) r (by omega) (by omega) hr u hu
theorem zM0 (l : List Int) (a b : Nat) (G : List Int → Prop) (hG : ∀ c d, c ≤ d → d < l.length → tcond l a b c d = true → G [(a : Int), (b : Int), (c : Int), (d : Int)]) : ∀ n c r, c + n ≤ l.length → (∀ u, r = some u → G u) → ∀ u, s2 l a b c n r = some u → G u := by
 intro n
 induction n with
 | zero => intro c r _ hr; exact hr
 | succ n ih =>
  intro c r h1 hr u hu
  simp only [s2] at hu
  exact zL0 l a b c G (fun d h2 h3 h4 => hG c d h3 h2 h4) _ _ _ (Nat.le_refl c) (by omega) (ih (c + 1) r (by omega) hr) u hu
theorem zN0 (l : List Int) (a : Nat) (G : List Int → Prop) (hG : ∀ b c d, a ≤ b → b < l.length → c ≤ d → d < l.length → tcond l a b c d = true → G [(a : Int), (b : Int), (c : Int), (d : Int)]) : ∀ n b r, a ≤ b → b + n ≤ l.length → (∀ u, r = some u → G u) → ∀ u, s1 l a b n r = some u → G u := by
 intro n
 induction n with
 | zero => intro b r _ _ hr; exact hr
 | succ n ih =>
  intro b r h0 h1 hr u hu
  simp only [s1] at hu
  exact zM0 l a b G (fun c d h2 h3 h4 => hG b c d h0 (by omega) h2 h3 h4) _ _ _ (by omega) (ih (b + 1) r (by omega) (by omega) hr) u hu
theorem qQ (l : List Int) (G : List Int → Prop) (hG : ∀ a b c d, a ≤ b → b < l.length → c ≤ d → d < l.length → tcond l a b c d = true → G [(a : Int), (b : Int), (c : Int), (d : Int)]) : ∀ n a, a + n ≤ l.length → ∀ u, s0 l a n = some u → G u := by
 intro n
 induction n with
 | zero => intro a _ u h; cases h
 | succ n ih =>
  intro a h1 u hu
  simp only [s0] at hu
  exact zN0 l a G (fun b c d h2 h3 h4 h5 h6 => hG a b c d h2 h3 h4 h5 h6) _ _ _ (Nat.le_refl a) (by omega) (ih (a + 1) (by omega)) u hu
theorem ky : ∀ (v a b c d : List Int), a.length = v.length → b.length = v.length → c.length = v.length → d.length = v.length → (∀ i, i < v.length → a.getD i 0 + b.getD i 0 = c.getD i 0 + d.getD i 0) → dot v a + dot v b = dot v c + dot v d := by
 intro v
 induction v with
 | nil => intro a b c d _ _ _ _ _; simp [dot]
 | cons x v ih =>
  intro a b c d ha hb hc hd h
  cases a with
  | nil => simp at ha
  | cons a0 a =>
  cases b with
  | nil => simp at hb
  | cons b0 b =>
  cases c with
  | nil => simp at hc
  | cons c0 c =>
  cases d with
  | nil => simp at hd
  | cons d0 d =>
   have h0 := h 0 (by simp)
   have hr := ih a b c d (by simpa using ha) (by simpa using hb) (by simpa using hc) (by simpa using hd) (fun i hi => by have := h (i + 1) (by simp; omega); simpa using this)
   simp only [List.getD_cons_zero] at h0
   simp only [dot]
   have : x * a0 + x * b0 = x * c0 + x * d0 := by rw [← Int.mul_add, ← Int.mul_add, h0]
   omega
theorem zo (m k i : Nat) (hi : i < m) : (bitPt m k).getD i 0 = ((bit k i : Nat) : Int) := by
 unfold bitPt; simp [List.getD_eq_getElem?_getD, List.getElem?_map, List.getElem?_range hi]
theorem jx {m a b c d : Nat} (ha : a < 2 ^ m) (hb : b < 2 ^ m) (hc : c < 2 ^ m) (hd : d < 2 ^ m) (h : a &&& b = c &&& d ∧ a ||| b = c ||| d) {v : List Int} (hv : v.length = m) : dot v (bitPt m a) + dot v (bitPt m b) = dot v (bitPt m c) + dot v (bitPt m d) := by
 refine ky v _ _ _ _ (by rw [bitPt_len, hv]) (by rw [bitPt_len, hv]) (by rw [bitPt_len, hv]) (by rw [bitPt_len, hv]) (fun i hi => ?_)
 rw [hv] at hi
 have := (same_sum ha hb hc hd).2 h i hi
 rw [zo m a i hi, zo m b i hi, zo m c i hi, zo m d i hi]; omega
theorem zR {m : Nat} {t : List Int} (hT : Tab m t) {a b c d : Nat} (ha : a < 2 ^ m) (hb : b < 2 ^ m) (hc : c < 2 ^ m) (hd : d < 2 ^ m) (h : tcond t a b c d = true) : lp m t = none := by
 cases hv : lp m t with
 | none => rfl
 | some v =>
  exfalso
  unfold tcond at h
  simp only [Bool.and_eq_true, decide_eq_true_eq] at h
  obtain ⟨h1, h2, h3⟩ := h
  have a0 := hT.at_ a; have a1 := hT.at_ b; have a2 := hT.at_ c; have a3 := hT.at_ d
  have e := jx ha hb hc hd h3 (v := v) (wts_len 3 m v (jO hv))
  have l1 := jN hv hT.2.1 a c ha hc (by omega) (by omega)
  have l2 := jN hv hT.2.1 b d hb hd (by omega) (by omega)
  omega
theorem zf0 {m : Nat} {t : List Int} (hT : Tab m t) : (lp m t).isSome = !(s0 t 0 t.length).isSome := by
 have ht := hT.2.1
 rcases jR hT with h | ⟨p0, p1, p2, p3, h⟩
 ·
  rw [h]
  cases e : s0 t 0 t.length with
  | none => rfl
  | some u =>
   exfalso
   refine qQ t (fun _ => False) (fun a b c d h1 h2 h3 h4 h5 => ?_) t.length 0 (by omega) u e
   have := zR hT (by omega) (by omega) (by omega) (by omega) h5
   rw [this] at h; cases h
 ·
  have hf := h.found hT
  rw [hf]
  obtain ⟨u, e⟩ := Option.isSome_iff_exists.1 hf
  cases el : lp m t with
  | none => rfl
  | some v =>
   exfalso
   refine qQ t (fun _ => False) (fun a b c d h1 h2 h3 h4 h5 => ?_) t.length 0 (by omega) u e
   have := zR hT (by omega) (by omega) (by omega) (by omega) h5
   rw [this] at el; cases el
theorem kz (n p0 p1 p2 p3 : Nat) (h0 : p0 < p1) (h1 : p1 < p2) (h2 : p2 < p3) (h3 : p3 < n) : [(p0 : Int), (p1 : Int), (p2 : Int), (p3 : Int)] ∈ cmbs n 4 0 := by
 simp only [cmbs, List.mem_flatMap, List.mem_map, List.mem_range'_1]
 exact ⟨p0, by omega, [(p1 : Int), (p2 : Int), (p3 : Int)], ⟨p1, by omega, [(p2 : Int), (p3 : Int)], ⟨p2, by omega, [(p3 : Int)], ⟨p3, by omega, [], by simp, rfl⟩, rfl⟩, rfl⟩, rfl⟩
theorem zX {m a b : Nat} (ha : a < 2 ^ m) (hb : b < 2 ^ m) (h : a ≠ b) : ∃ i, i < m ∧ bit a i ≠ bit b i := by
 refine Classical.byContradiction fun hn => h ?_
 have hn : ∀ i, bit a i = bit b i := fun i => by
  by_cases hi : i < m
  · exact Classical.byContradiction fun e => hn ⟨i, hi, e⟩
  · rw [testBit_out ha (by omega), testBit_out hb (by omega)]
 apply Nat.eq_of_testBit_eq
 intro i
 rw [testBit_bit, testBit_bit, hn i]
theorem Trd.rel {m : Nat} {t : List Int} {p0 p1 p2 p3 : Nat} (hT : Tab m t) (h : Trd m t p0 p1 p2 p3) : Gw.PRel (tsP m t.length) (tsL t) m [(p0 : Int), (p1 : Int), (p2 : Int), (p3 : Int)] := by
 obtain ⟨h1, h2, h3, h4, h5, h6, h7, h8⟩ := h
 have ht := hT.2.1
 have hbits := (same_sum (m := m) (by omega) h4 (by omega) (by omega)).2 h5
 have hP : ∀ p, p < 2 ^ m → (tsP m t.length).getD p [] = bitPt m p := fun p hp => by
  unfold tsP; simp [List.getD_eq_getElem?_getD, List.getElem?_map, List.getElem?_range (show p < t.length by omega)]
 have hL : ∀ p, p < 2 ^ m → (tsL t).getD p 0 = 2 * t.getD p 0 - 1 := fun p hp => by
  unfold tsL; simp [List.getD_eq_getElem?_getD, List.getElem?_map, List.getElem?_eq_getElem (show p < t.length by omega)]
 have a0 := hT.at_ p0
 have y0 := hL p0 (by omega); have y1 := hL p1 (by omega); have y2 := hL p2 (by omega); have y3 := hL p3 h4
 have hsm : ∀ f : Nat → Int, Gz.sm f 4 = f 0 + f 1 + f 2 + f 3 := fun f => by simp only [Gz.sm]; omega
 obtain ⟨y, hy, e0, e1, e2, e3⟩ : ∃ y : Int, (y = 1 ∨ y = -1) ∧ (tsL t).getD p0 0 = y ∧ (tsL t).getD p1 0 = -y ∧ (tsL t).getD p2 0 = -y ∧ (tsL t).getD p3 0 = y := ⟨2 * t.getD p0 0 - 1, by omega, by omega, by omega, by omega, by omega⟩
 have row0 : ∀ z : Nat → Int, Gz.sm (fun j => Gw.sA (tsP m t.length) (tsL t) [(p0 : Int), (p1 : Int), (p2 : Int), (p3 : Int)] 0 j * z j) 4 = y * z 0 + -y * z 1 + -y * z 2 + y * z 3 := fun z => by
  rw [hsm]; unfold Gw.sA; simp only [List.getD_cons_zero, List.getD_cons_succ, Int.toNat_natCast, if_true, e0, e1, e2, e3]
 have rowi : ∀ (z : Nat → Int) (i : Nat), i < m → Gz.sm (fun j => Gw.sA (tsP m t.length) (tsL t) [(p0 : Int), (p1 : Int), (p2 : Int), (p3 : Int)] (i + 1) j * z j) 4 = ((bit p0 i : Nat) : Int) * y * z 0 + ((bit p1 i : Nat) : Int) * -y * z 1 + ((bit p2 i : Nat) : Int) * -y * z 2 + ((bit p3 i : Nat) : Int) * y * z 3 := fun z i hi => by
  rw [hsm]; unfold Gw.sA
  have g0 := zo m p0 i hi; have g1 := zo m p1 i hi; have g2 := zo m p2 i hi; have g3 := zo m p3 i hi
  have q0 := hP p0 (by omega); have q1 := hP p1 (by omega); have q2 := hP p2 (by omega); have q3 := hP p3 h4
  simp only [List.getD_cons_zero, List.getD_cons_succ, Int.toNat_natCast, Nat.add_sub_cancel, Nat.succ_ne_zero, if_false, e0, e1, e2, e3, q0, q1, q2, q3, g0, g1, g2, g3]
 refine ⟨fun _ => 1, fun _ _ => by show (0 : Int) < 1; decide, fun i hi => ?_, fun z hz j hj k hk => ?_⟩
 ·
  show Gz.sm _ 4 = 0
  cases i with
  | zero => rw [row0 fun _ => 1]; omega
  | succ i =>
   rw [rowi (fun _ => 1) i (by omega)]
   have := hbits i (by omega)
   have b0 := bit_lt p0 i; have b1 := bit_lt p1 i; have b2 := bit_lt p2 i; have b3 := bit_lt p3 i
   generalize bit p0 i = c0 at *; generalize bit p1 i = c1 at *; generalize bit p2 i = c2 at *; generalize bit p3 i = c3 at *
   have hc0 : c0 = 0 ∨ c0 = 1 := by omega
   have hc1 : c1 = 0 ∨ c1 = 1 := by omega
   have hc2 : c2 = 0 ∨ c2 = 1 := by omega
   have hc3 : c3 = 0 ∨ c3 = 1 := by omega
   rcases hc0 with rfl | rfl <;> rcases hc1 with rfl | rfl <;> rcases hc2 with rfl | rfl <;> rcases hc3 with rfl | rfl <;> simp at this ⊢ <;> omega
 ·
  have z0 : y * z 0 + -y * z 1 + -y * z 2 + y * z 3 = 0 := (row0 z).symm.trans (hz 0 (by omega))
  have zi : ∀ i, i < m → ((bit p0 i : Nat) : Int) * y * z 0 + ((bit p1 i : Nat) : Int) * -y * z 1 + ((bit p2 i : Nat) : Int) * -y * z 2 + ((bit p3 i : Nat) : Int) * y * z 3 = 0 := fun i hi => (rowi z i hi).symm.trans (hz (i + 1) (by omega))
  obtain ⟨i, hi, d1⟩ := zX (m := m) (a := p0) (b := p1) (by omega) (by omega) (by omega)
  obtain ⟨l, hl, d2⟩ := zX (m := m) (a := p0) (b := p2) (by omega) (by omega) (by omega)
  clear hz hP hL hsm row0 rowi y0 y1 y2 y3 e0 e1 e2 e3
  have u1 := hbits i hi; have u2 := hbits l hl
  have w1 := zi i hi; have w2 := zi l hl
  have b0 := bit_lt p0 i; have b1 := bit_lt p1 i; have b2 := bit_lt p2 i; have b3 := bit_lt p3 i
  have x0 := bit_lt p0 l; have x1 := bit_lt p1 l; have x2 := bit_lt p2 l; have x3 := bit_lt p3 l
  have A : z 0 = z 2 ∧ z 1 = z 3 := by
   generalize bit p0 i = c0 at *; generalize bit p1 i = c1 at *; generalize bit p2 i = c2 at *; generalize bit p3 i = c3 at *
   rcases (show (c0 = 0 ∧ c1 = 1 ∧ c2 = 0 ∧ c3 = 1) ∨ (c0 = 1 ∧ c1 = 0 ∧ c2 = 1 ∧ c3 = 0) by omega) with ⟨rfl, rfl, rfl, rfl⟩ | ⟨rfl, rfl, rfl, rfl⟩ <;> rcases hy with rfl | rfl <;> simp at w1 <;> omega
  have B : z 0 = z 1 ∧ z 2 = z 3 := by
   generalize bit p0 l = c0 at *; generalize bit p1 l = c1 at *; generalize bit p2 l = c2 at *; generalize bit p3 l = c3 at *
   rcases (show (c0 = 0 ∧ c1 = 0 ∧ c2 = 1 ∧ c3 = 1) ∨ (c0 = 1 ∧ c1 = 1 ∧ c2 = 0 ∧ c3 = 0) by omega) with ⟨rfl, rfl, rfl, rfl⟩ | ⟨rfl, rfl, rfl, rfl⟩ <;> rcases hy with rfl | rfl <;> simp at w2 <;> omega
  have hj : j = 0 ∨ j = 1 ∨ j = 2 ∨ j = 3 := by simp at hj; omega
  have hk : k = 0 ∨ k = 1 ∨ k = 2 ∨ k = 3 := by simp at hk; omega
  show 1 * z k = 1 * z j
  rcases hj with rfl | rfl | rfl | rfl <;> rcases hk with rfl | rfl | rfl | rfl <;> omega
theorem Trd.can {m : Nat} {t : List Int} {p0 p1 p2 p3 : Nat} (hT : Tab m t) (h : Trd m t p0 p1 p2 p3) : Gw.canV (tsP m t.length) (tsL t) m = false := by
 have hr := h.rel hT
 obtain ⟨h1, h2, h3, h4, _⟩ := h
 have hm : 2 ≤ m := by
  refine Classical.byContradiction fun hn => ?_
  have := Nat.pow_le_pow_right (n := 2) (by decide) (show m ≤ 1 by omega)
  omega
 unfold Gw.canV
 rw [Bool.not_eq_false', List.any_eq_true]
 refine ⟨_, List.mem_flatMap.2 ⟨4, List.mem_range'_1.2 (by omega), kz _ p0 p1 p2 p3 h1 h2 h3 (by rw [zp, hT.2.1]; exact h4)⟩, (Gw.prB_iff _ _ _ _).2 hr⟩
theorem zg0 {m : Nat} {t : List Int} (hT : Tab m t) (h1 : 1 ≤ m) : Gw.canV (tsP m t.length) (tsL t) m = (lp m t).isSome := by
 have ht := hT.2.1
 by_cases h : (lp m t).isSome = true
 ·
  rw [h]
  obtain ⟨v, b, hl, hb, hs⟩ := (zI0 hT.1 ht).1 h
  refine Gw.can_of_fit (smpT hT h1) v b hl (fun i hi => ?_)
  rw [zp] at hi
  have hP : (tsP m t.length).getD i [] = bitPt m i := by
   unfold tsP; simp [List.getD_eq_getElem?_getD, List.getElem?_map, List.getElem?_range hi]
  have hL : (tsL t).getD i 0 = 2 * t.getD i 0 - 1 := by
   unfold tsL; simp [List.getD_eq_getElem?_getD, List.getElem?_map, List.getElem?_eq_getElem hi]
  rw [hP, hL]
  have := hT.at_ i
  have hk := hs i (by omega)
  by_cases e : dot v (bitPt m i) ≥ b
  · rw [if_pos e]; have := hk.2 e; omega
  ·
   rw [if_neg e]
   have : ¬ t.getD i 0 = 1 := fun h => e (hk.1 h)
   omega
 ·
  rcases jR hT with h' | ⟨p0, p1, p2, p3, h'⟩
  · exact absurd h' h
  · rw [h'.can hT, (Bool.not_eq_true _).mp h]
theorem jh {l : List Int} (hl : zh l) (p s : Int) (hp : 0 ≤ p ∧ p ≤ 400000) : ∃ r : Int × List Int × Int × Int, Ev (fun k => spec_l1Cur_table5.f k l p s) r ∧ (0 ≤ r.1 ∧ r.1 ≤ 4) ∧ r.2.1.length ≤ 40 ∧ p ≤ r.2.2.1 ∧ r.2.2.1 ≤ p + 300 := by
 obtain ⟨x, p1, s1, e1, hx, g1, g2⟩ := zD hl p s [2, 3, 3, 1, 3, 0, 2, 4] (by simp) (by omega)
 obtain ⟨r, hr, h1, h2, h3⟩ := zq0 hl p1 s1 x (by omega)
 unfold spec_l1Cur_table5.f
 exact ⟨_, evb (evc e1) (evb hr (evs rfl)), by simp at hx; omega, h1, by simp only; omega, by simp only; omega⟩
theorem qV {l : List Int} (hl : zh l) : ∃ r, Ev (fun k => spec_DrawLeastPlane.f k l) r ∧ r.2.length ≤ 40 := by
 obtain ⟨r, hr, _, h1, _⟩ := jh hl 0 0 (by omega)
 unfold spec_DrawLeastPlane.f spec_DrawIsThreshold.f
 exact ⟨_, evb (evb hr (evs rfl)) (evs rfl), h1⟩
theorem qW {l : List Int} (hl : zh l) (n : Int) (t : List Int) (ht : t.length ≤ 40) : ∀ (d i : Nat) (p s : Int) (u : List Int), i + d = 4 → u.length = i → 0 ≤ p ∧ p + 2 * d ≤ 500000 → ∃ r, Ev (fun k => spec_DrawIsTrade.l0 k n t u (i : Int) l p s) r ∧ r.2.1.length ≤ 40 ∧ r.2.2.length ≤ 5 := by
 intro d
 induction d with
 | zero =>
  intro i p s u hi hu hp
  obtain ⟨b, p1, s1, e1, g1, g2⟩ := qb hl p s 16 (by omega)
  by_cases c : b = true
  ·
   obtain ⟨x, p2, s2, e2, hx, g3, g4⟩ := zD hl p1 s1 [(-1), 0, 16] (by simp) (by omega)
   exact ⟨_, Ev.step (fun k => spec_DrawIsTrade.l0.eq_2 ..) (evn (by omega) (evb (evc e1) (evp c (evb (evc e2) (evp (by omega) (evs rfl)))))), ht, by simp; omega⟩
  · exact ⟨_, Ev.step (fun k => spec_DrawIsTrade.l0.eq_2 ..) (evn (by omega) (evb (evc e1) (evn c (evs rfl)))), ht, by simp only; omega⟩
 | succ d ih =>
  intro i p s u hi hu hp
  obtain ⟨x, p1, s1, e1, _, _, g1, g2⟩ := zw hl p s (if (1 : Int) > (t.length : Int) then 1 else (t.length : Int)) (by omega)
  obtain ⟨r, hr, h1, h2⟩ := ih (i + 1) p1 s1 (u ++ [x]) (by omega) (by simp; omega) (by omega)
  have hm : spec_l1Most.f 1 (t.length : Int) = some (if (1 : Int) > (t.length : Int) then 1 else (t.length : Int)) := by unfold spec_l1Most.f; split <;> rfl
  refine ⟨r, Ev.step (fun k => spec_DrawIsTrade.l0.eq_2 ..) (evp (by omega) (evb (evc hm) (evb (evc e1) (evp (by omega) ?_)))), h1, h2⟩
  simp only
  rw [w64s i (by omega)]; exact hr
theorem kA {l : List Int} (hl : zh l) : ∃ r, Ev (fun k => spec_DrawIsTrade.f k l) r ∧ r.2.1.length ≤ 40 ∧ r.2.2.length ≤ 5 := by
 obtain ⟨⟨n, t, p, s⟩, hr, _, ht, g1, g2⟩ := jh hl 0 0 (by omega)
 simp only at ht g1 g2
 have j1 : ∀ p s, 0 ≤ p ∧ p ≤ 400000 → ∃ r, Ev (fun k => spec_DrawIsTrade.j1 k n t l p s) r ∧ r.2.1.length ≤ 40 ∧ r.2.2.length ≤ 5 := fun p s hp => by
  obtain ⟨r, h, h1, h2⟩ := qW hl n t ht 4 0 p s [] (by omega) rfl (by omega)
  exact ⟨r, Ev.step (fun k => spec_DrawIsTrade.j1.eq_2 ..) h, h1, h2⟩
 unfold spec_DrawIsTrade.f
 by_cases e : isTab n t = true
 ·
  obtain ⟨m, rfl, hT⟩ := isTab_tab e
  obtain ⟨b, p1, s1, e1, g3, g4⟩ := qb hl p s 3 (by omega)
  obtain ⟨r, h, h1, h2⟩ := j1 p1 s1 (by omega)
  by_cases c : b = true
  · exact ⟨r, evb hr (evb (zm (m : Int) t (by omega)) (evp e (evb (evc e1) (Ev.step (fun k => spec_DrawIsTrade.j0.eq_2 ..) (evn (by simp only [c]; decide) h))))), h1, h2⟩
  ·
   have hf := jy hT
   by_cases c2 : (((s0 t 0 t.length).getD []).length : Int) > 0
   rotate_left
   · exact ⟨r, evb hr (evb (zm (m : Int) t (by omega)) (evp e (evb (evc e1) (Ev.step (fun k => spec_DrawIsTrade.j0.eq_2 ..) (evp (by simpa using c) (evb hf (evn c2 h))))))), h1, h2⟩
   refine ⟨_, evb hr (evb (zm (m : Int) t (by omega)) (evp e (evb (evc e1) (Ev.step (fun k => spec_DrawIsTrade.j0.eq_2 ..) (evp (by simpa using c) (evb hf (evp c2 (evs rfl)))))))), ht, ?_⟩
   simp only
   cases e0 : s0 t 0 t.length with
   | none => simp
   | some u => have := s0_len t _ _ u e0; simp; omega
 ·
  obtain ⟨r, h, h1, h2⟩ := j1 p s (by omega)
  exact ⟨r, evb hr (evb (zm n t (by omega)) (evn e (Ev.step (fun k => spec_DrawIsTrade.j0.eq_2 ..) (evn (by decide) h)))), h1, h2⟩
def zg (t u : List Int) : Bool := decide (u.length = 4) && (inB 0 ((t.length : Int) - 1) u && (decide (u.getD 0 0 ≤ u.getD 1 0) && (decide (u.getD 2 0 ≤ u.getD 3 0) && tcond t (u.getD 0 0).toNat (u.getD 1 0).toNat (u.getD 2 0).toNat (u.getD 3 0).toNat)))
def ze (n : Int) (t u : List Int) : Bool × Bool := if isTab n t = true then (zg t u, true) else (false, false)
theorem qe {u : List Int} (h : u.length = 4) : ∃ a b c d : Int, u = [a, b, c, d] := by
 match u, h with
 | [a, b, c, d], _ => exact ⟨a, b, c, d, rfl⟩
theorem zS {lo hi a b c d : Int} (h : inB lo hi [a, b, c, d] = true) : (lo ≤ a ∧ a ≤ hi) ∧ (lo ≤ b ∧ b ≤ hi) ∧ (lo ≤ c ∧ c ≤ hi) ∧ (lo ≤ d ∧ d ≤ hi) := by
 simpa [inB] using h
theorem qR (n : Int) (t u : List Int) (ht : t.length ≤ 1048576) (hu : u.length ≤ 1048576) : Ev (fun k => impl_IsTrade.f k n t u) (ze n t u) := by
 unfold impl_IsTrade.f ze
 refine evb (zu n t (by omega)) ?_
 by_cases e : isTab n t = true
 rotate_left
 · exact evn e (evs (by rw [if_neg e]))
 obtain ⟨m, rfl, hT⟩ := isTab_tab e
 have h16 := hT.len
 refine evp e ?_
 rw [if_pos e]
 by_cases h4 : u.length = 4
 rotate_left
 ·
  refine evn (by omega) (evs ?_)
  unfold zg; rw [decide_eq_false h4]; rfl
 obtain ⟨a, b, c, d, rfl⟩ := qe h4
 refine evp (by omega) (evb (zz _ 0 (wrap64 ((t.length : Int) - 1)) (by omega)) ?_)
 rw [w64 (by omega) (by omega)]
 have hB : (List.all [a, b, c, d] fun x => decide (0 ≤ x ∧ x ≤ (t.length : Int) - 1)) = inB 0 ((t.length : Int) - 1) [a, b, c, d] := rfl
 rw [hB]
 by_cases hi : inB 0 ((t.length : Int) - 1) [a, b, c, d] = true
 rotate_left
 ·
  refine evn hi (evs ?_)
  unfold zg; rw [Bool.not_eq_true _ |>.mp hi, Bool.false_and, Bool.and_false]
 obtain ⟨ha, hb, hc, hd⟩ := zS hi
 have r0 : rd [a, b, c, d] 0 = a := rfl
 have r1 : rd [a, b, c, d] 1 = b := rfl
 have r2 : rd [a, b, c, d] 2 = c := rfl
 have r3 : rd [a, b, c, d] 3 = d := rfl
 rw [r0, r1, r2, r3]
 have hV : zg t [a, b, c, d] = (decide (a ≤ b) && (decide (c ≤ d) && tcond t a.toNat b.toNat c.toNat d.toNat)) := by
  unfold zg; rw [hi]; rfl
 rw [hV]
 refine evp hi (evp (by simp) (evp (by simp) (evp (by simp) (evp (by simp) ?_))))
 by_cases h1 : a ≤ b
 rotate_left
 · exact evn h1 (evs (by rw [decide_eq_false h1]; rfl))
 by_cases h2 : c ≤ d
 rotate_left
 · exact evp h1 (evn h2 (evs (by rw [decide_eq_false h2]; simp)))
 rw [decide_eq_true h1, decide_eq_true h2, Bool.true_and, Bool.true_and]
 obtain ⟨a, rfl⟩ := Int.eq_ofNat_of_zero_le ha.1
 obtain ⟨b, rfl⟩ := Int.eq_ofNat_of_zero_le hb.1
 obtain ⟨c, rfl⟩ := Int.eq_ofNat_of_zero_le hc.1
 obtain ⟨d, rfl⟩ := Int.eq_ofNat_of_zero_le hd.1
 have p1 := hT.at_ a; have p2 := hT.at_ b; have p3 := hT.at_ c; have p4 := hT.at_ d
 rw [rd_nat, rd_nat, rd_nat, rd_nat, w64 (x := t.getD a 0 + t.getD b 0) (by omega) (by omega), w64 (x := t.getD c 0 + t.getD d 0) (by omega) (by omega), Int.toNat_natCast, Int.toNat_natCast, Int.toNat_natCast, Int.toNat_natCast]
 refine evp h1 (evp h2 (evp ha.1 (evp (by omega) (evp hb.1 (evp (by omega) ?_)))))
 unfold tcond
 by_cases q1 : t.getD a 0 + t.getD b 0 = 2
 rotate_left
 · exact evn q1 (evs (by rw [decide_eq_false q1]; rfl))
 refine evp q1 (evp hc.1 (evp (by omega) (evp hd.1 (evp (by omega) ?_))))
 by_cases q2 : t.getD c 0 + t.getD d 0 = 0
 rotate_left
 · exact evn q2 (evs (by rw [decide_eq_false q2]; simp))
 refine evp q2 (evb (evc (qY a b c d (by omega) (by omega) (by omega) (by omega))) (evs ?_))
 rw [decide_eq_true q1, decide_eq_true q2]; rfl
theorem jS {m : Nat} {t : List Int} (hT : Tab m t) (u : List Int) (hu : u.length ≤ 1048576) (hK : inB 0 ((t.length : Int) - 1) u = true → Ev (fun k => spec_l5Trade.l0 k (m : Int) t u (u.length : Int)) (zg t u)) : ∀ d i, i + d = u.length → inB 0 ((t.length : Int) - 1) (u.take i) = true → Ev (fun k => spec_l5Trade.l0 k (m : Int) t u (i : Int)) (zg t u) := by
 have h16 := hT.len
 intro d
 induction d with
 | zero =>
  intro i hi h
  obtain rfl : i = u.length := by omega
  rw [List.take_length] at h
  exact hK h
 | succ d ih =>
  intro i hi h
  have hil : i < u.length := by omega
  refine Ev.step (fun k => spec_l5Trade.l0.eq_2 ..) (evp (by omega) (evp (by omega) (evb (evc (zx _ _ _)) ?_)))
  rw [rd_nat, w64 (x := (t.length : Int) - 1) (by omega) (by omega), w64s i (by omega)]
  have hs : inB 0 ((t.length : Int) - 1) (u.take (i + 1)) = (inB 0 ((t.length : Int) - 1) (u.take i) && decide (0 ≤ u.getD i 0 ∧ u.getD i 0 ≤ (t.length : Int) - 1)) := by
   rw [List.take_succ_eq_append_getElem hil]
   unfold inB
   rw [List.all_append, List.getD_eq_getElem?_getD, List.getElem?_eq_getElem hil]
   simp
  by_cases c : 0 ≤ u.getD i 0 ∧ u.getD i 0 ≤ (t.length : Int) - 1
  · exact evp (decide_eq_true c) (ih (i + 1) (by omega) (by rw [hs, h, decide_eq_true c]; rfl))
  ·
   refine evn (by simpa using c) (evs ?_)
   have hno : inB 0 ((t.length : Int) - 1) u = false := by
    unfold inB
    rw [List.all_eq_false]
    refine ⟨u[i], List.getElem_mem hil, ?_⟩
    rw [List.getD_eq_getElem?_getD, List.getElem?_eq_getElem hil] at c
    simpa using c
   unfold zg; rw [hno, Bool.false_and, Bool.and_false]
theorem zO0 {m : Nat} {t : List Int} (hT : Tab m t) (u : List Int) (hu : u.length ≤ 1048576) : Ev (fun k => spec_l5Trade.f k (m : Int) t u) (zg t u) := by
 have h16 := hT.len
 have hm := hT.1
 have stop : zg t u = false → Ev (fun k => spec_l5Trade.j1 k (m : Int) u true) (zg t u) := fun h => by
  rw [h]; exact Ev.step (fun k => spec_l5Trade.j1.eq_2 ..) (evp rfl (evs rfl))
 unfold spec_l5Trade.f
 refine jS hT u hu (fun hi => ?_) u.length 0 (by omega) (by simp [inB])
 by_cases h4 : u.length = 4
 rotate_left
 · exact Ev.step (fun k => spec_l5Trade.l0.eq_2 ..) (evn (by omega) (evn (by omega) (stop (by unfold zg; rw [decide_eq_false h4]; rfl))))
 obtain ⟨a, b, c, d, rfl⟩ := qe h4
 obtain ⟨ha, hb, hc, hd⟩ := zS hi
 have r0 : rd [a, b, c, d] 0 = a := rfl
 have r1 : rd [a, b, c, d] 1 = b := rfl
 have r2 : rd [a, b, c, d] 2 = c := rfl
 have r3 : rd [a, b, c, d] 3 = d := rfl
 have hV : zg t [a, b, c, d] = (decide (a ≤ b) && (decide (c ≤ d) && tcond t a.toNat b.toNat c.toNat d.toNat)) := by
  unfold zg; rw [hi]; rfl
 refine Ev.step (fun k => spec_l5Trade.l0.eq_2 ..) (evn (by omega) (evp (by omega) (evp (by simp) (evp (by simp) ?_))))
 rw [r0, r1, r2, r3]
 by_cases h1 : a ≤ b
 rotate_left
 · exact evp (by omega) (stop (by rw [hV, decide_eq_false h1]; rfl))
 by_cases h2 : c ≤ d
 rotate_left
 · exact evn (by omega) (evp (by simp) (evp (by simp) (evp (by omega) (stop (by rw [hV, decide_eq_false h2]; simp)))))
 obtain ⟨a, rfl⟩ := Int.eq_ofNat_of_zero_le ha.1
 obtain ⟨b, rfl⟩ := Int.eq_ofNat_of_zero_le hb.1
 obtain ⟨c, rfl⟩ := Int.eq_ofNat_of_zero_le hc.1
 obtain ⟨d, rfl⟩ := Int.eq_ofNat_of_zero_le hd.1
 have hf := qZ hT a b c d (by omega) (by omega) (by omega) (by omega) (by omega) (by omega)
 have p1 := hT.at_ a; have p2 := hT.at_ b; have p3 := hT.at_ c; have p4 := hT.at_ d
 rw [hV, decide_eq_true h1, decide_eq_true h2, Bool.true_and, Bool.true_and, Int.toNat_natCast, Int.toNat_natCast, Int.toNat_natCast, Int.toNat_natCast]
 have l0 : ∀ k, spec_l5Trade.f (k + 5) (m : Int) t [(a : Int), (b : Int), (c : Int), (d : Int)] = spec_l5Trade.l0 (k + 1) (m : Int) t [(a : Int), (b : Int), (c : Int), (d : Int)] 4 := by
  intro k
  have step : ∀ (k : Nat) (i : Nat), i < 4 → spec_l5Trade.l0 (k + 1) (m : Int) t [(a : Int), (b : Int), (c : Int), (d : Int)] (i : Int) = spec_l5Trade.l0 k (m : Int) t [(a : Int), (b : Int), (c : Int), (d : Int)] (((i + 1 : Nat) : Int)) := fun k i hi => by
   rw [spec_l5Trade.l0.eq_2, if_pos (by simp; omega), if_pos (by omega), zx, Option.bind_some, w64 (x := (t.length : Int) - 1) (by omega) (by omega), w64s i (by omega)]
   rw [if_pos]
   rw [decide_eq_true_eq, rd_nat]
   have : i = 0 ∨ i = 1 ∨ i = 2 ∨ i = 3 := by omega
   rcases this with rfl | rfl | rfl | rfl
   · exact ha
   · exact hb
   · exact hc
   · exact hd
  unfold spec_l5Trade.f
  have e0 := step (k + 4) 0 (by omega); have e1 := step (k + 3) 1 (by omega); have e2 := step (k + 2) 2 (by omega); have e3 := step (k + 1) 3 (by omega)
  exact e0.trans (e1.trans (e2.trans e3))
 obtain ⟨N, hN⟩ := hf
 have hl0 : Ev (fun k => spec_l5Trade.l0 k (m : Int) t [(a : Int), (b : Int), (c : Int), (d : Int)] 4) (tcond t a b c d) := ⟨N + 5, fun k hk => by
  obtain ⟨q, rfl⟩ : ∃ q, k = q + 1 := ⟨k - 1, by omega⟩
  show spec_l5Trade.l0 (q + 1) _ _ _ _ = _
  rw [← l0 q]; exact hN (q + 5) (by omega)⟩
 obtain ⟨M, hM⟩ := hl0
 refine ⟨M, fun k hk => ?_⟩
 have := hM (k + 1) (by omega)
 simp only [spec_l5Trade.l0.eq_2] at this
 rw [if_neg (by simp), if_pos (by simp), if_pos (by simp), if_pos (by simp), r0, r1, r2, r3] at this
 exact this
theorem kB (n : Int) (t u : List Int) (ht : t.length ≤ 1048576) (hu : u.length ≤ 1048576) : Ev (fun k => spec_IsTrade.f k n t u) (ze n t u) := by
 unfold spec_IsTrade.f ze
 refine evb (zm n t (by omega)) ?_
 by_cases e : isTab n t = true
 ·
  obtain ⟨m, rfl, hT⟩ := isTab_tab e
  exact evp e (evb (zO0 hT u hu) (evs (by rw [if_pos e])))
 · exact evn e (evs (by rw [if_neg e]))
theorem zP0 (a : List Int) (x : Int) (b : List Int) (y : Int) (hx : a.length ≤ 1048576) : Ev (fun k => laws_vPlane.f k a x b y) (decide (a = b) && (x == y)) := by
 unfold laws_vPlane.f
 refine evb (jr a b hx) ?_
 by_cases e : a = b
 · exact evp (decide_eq_true e) (evs (by rw [decide_eq_true e]; rfl))
 · exact evn (by simpa using e) (evs (by rw [decide_eq_false e]; rfl))
theorem kC {m : Nat} {t : List Int} (hT : Tab m t) (h1 : 1 ≤ m) : sampB (tsP m t.length) (tsL t) = true := by
 have hm := hT.1
 have h16 := hT.len
 have ht := hT.2.1
 have hp := Nat.two_pow_pos m
 have hP := zp m t.length
 have hL := qc t
 have hat : ∀ k, k < t.length → rdl (tsP m t.length) k = bitPt m k := fun k hk => by
  unfold rdl tsP
  rw [List.getD_eq_getElem?_getD, List.getElem?_map, List.getElem?_range hk]; rfl
 simp only [sampB, Bool.and_eq_true, decide_eq_true_eq, List.all_eq_true, List.mem_range]
 refine ⟨by omega, by omega, ?_, fun i hi => ?_⟩
 ·
  simp only [labB, List.all_eq_true, decide_eq_true_eq]
  intro x hx
  obtain ⟨y, hy, rfl⟩ := List.mem_map.1 hx
  have := hT.2.2 y hy; omega
 ·
  simp only [spok, pointB, inB, Bool.and_eq_true, decide_eq_true_eq, List.all_eq_true]
  rw [hat i (by omega), hat 0 (by omega), bitPt_len]
  refine ⟨⟨by omega, fun x hx => ?_⟩, by rw [bitPt_len]⟩
  have := bitPt_in m i x hx; omega
theorem zh0 {m : Nat} {t : List Int} (hT : Tab m t) (h1 : 1 ≤ m) : Ev (fun k => impl_CanPart.f k (tsP m t.length) (tsL t)) ((lp m t).isSome, true) := by
 have h16 := hT.len
 have hP := zp m t.length
 unfold impl_CanPart.f
 refine evb (jC _ _ (by omega) (fun r hr => ?_)) (evp (kC hT h1) (evb (Gw.iCanPart (smpT hT h1)) (evs ?_)))
 ·
  obtain ⟨k, _, rfl⟩ := List.mem_map.1 hr
  have := hT.1
  rw [bitPt_len]; omega
 · rw [zg0 hT h1]
theorem sz_take (v : List Int) (i : Nat) (h : i < v.length) : impl_leastPlane.sz (v.take (i + 1)) = impl_leastPlane.sz (v.take i) + (if v.getD i 0 < 0 then -(v.getD i 0) else v.getD i 0) := by
 induction v generalizing i with
 | nil => simp at h
 | cons x v ih =>
  cases i with
  | zero => simp [impl_leastPlane.sz, impl_leastPlane.ab]; split <;> split <;> omega
  | succ i =>
   simp only [List.take_succ_cons, impl_leastPlane.sz, List.getD_cons_succ]
   rw [ih i (by simpa using h)]; omega
theorem jT {m : Nat} {t v : List Int} {b : Int} (hT : Tab m t) (h : Sep m t v b) : tabOf m v b = t := by
 have ht := hT.2.1
 apply List.ext_getElem
 · rw [tabOf_len, ht]
 ·
  intro k h1 h2
  have hk : k < 2 ^ m := by rw [tabOf_len] at h1; exact h1
  have hs := h.2.2 k hk
  have ha := hT.at_ k
  rw [List.getD_eq_getElem?_getD, List.getElem?_eq_getElem h2] at hs ha
  simp only [Option.getD_some] at hs ha
  simp only [tabOf, List.getElem_map, List.getElem_range]
  by_cases e : dot v (bitPt m k) ≥ b
  · rw [if_pos e]; exact (hs.2 e).symm
  ·
   rw [if_neg e]
   have : ¬ t[k] = 1 := fun h => e (hs.1 h)
   omega
theorem zQ0 {m : Nat} {t v : List Int} (hT : Tab m t) (hv : lp m t = some v) (hm : 1 ≤ m) : ∀ d i, i + d = m → Ev (fun k => laws_FnThresholdTables.l0 k (m : Int) t (impl_leastPlane.sz v) t true (impl_leastPlane.sz (v.take i)) (i : Int) v (bnd m t v)) true := by
 have h16 := hT.len
 have hok := zv m t v hv
 have hvl := hok.1
 have hm4 := hT.1
 have hsz : ∀ i, 0 ≤ impl_leastPlane.sz (v.take i) ∧ impl_leastPlane.sz (v.take i) ≤ 36 := fun i => by
  have h1 := impl_leastPlane.sz_bd 9 (v.take i) (fun x hx => hok.2 x (List.mem_of_mem_take hx))
  have h2 : (v.take i).length ≤ 4 := by rw [List.length_take]; omega
  omega
 intro d
 induction d with
 | zero =>
  intro i hi
  refine Ev.step (fun k => laws_FnThresholdTables.l0.eq_2 ..) (evn (by omega) (evp rfl (evb (jr t t (by omega)) (evp (decide_eq_true rfl) (evs ?_)))))
  rw [List.take_of_length_le (by omega)]; simp
 | succ d ih =>
  intro i hi
  have hn := ih (i + 1) (by omega)
  have hs := hsz i
  have hil : i < v.length := by omega
  have hb : -9 ≤ v.getD i 0 ∧ v.getD i 0 ≤ 9 := by
   rw [List.getD_eq_getElem?_getD, List.getElem?_eq_getElem hil]; exact hok.2 _ (List.getElem_mem hil)
  rw [sz_take v i hil] at hn
  refine Ev.step (fun k => laws_FnThresholdTables.l0.eq_2 ..) (evp (by omega) (evp (by omega) (evp (by omega) ?_)))
  rw [rd_nat, w64s i (by omega), w64 (x := impl_leastPlane.sz (v.take i) - v.getD i 0) (by omega) (by omega), w64 (x := impl_leastPlane.sz (v.take i) + v.getD i 0) (by omega) (by omega)]
  by_cases c : v.getD i 0 < 0
  ·
   rw [if_pos c] at hn
   exact evp c (by rw [Int.sub_eq_add_neg]; exact hn)
  ·
   rw [if_neg c] at hn
   exact evn c hn
theorem zR0 {m : Nat} {t : List Int} (hT : Tab m t) (hi : isTab (m : Int) t = true) : Ev (fun k => laws_FnThresholdTables.j4 k (m : Int) t (za (m : Int) t).2.2 (lp m t).isSome (zf (m : Int) t).1 (za (m : Int) t).1 (za (m : Int) t).2.1) true := by
 have h16 := hT.len
 have hm := hT.1
 by_cases h1 : 1 ≤ m
 ·
  have hP : za (m : Int) t = (match lp m t with | some v => (v, bnd m t v, true) | none => ([], 0, false)) := by unfold za; rw [if_pos ⟨hi, by omega⟩, Int.toNat_natCast]
  have hS : zf (m : Int) t = (impl_leastPlane.sz ((lp m t).getD []), (lp m t).isSome) := by unfold zf; rw [if_pos hi, Int.toNat_natCast]
  rw [hP, hS]
  refine Ev.step (fun k => laws_FnThresholdTables.j4.eq_2 ..) (evp (by omega) (evb (jM hT h1) (evb (zh0 hT h1) (evp rfl (evp rfl (evn (by simp) ?_))))))
  cases hv : lp m t with
  | none => exact Ev.step (fun k => laws_FnThresholdTables.j5.eq_2 ..) (evn (by simp) (evs rfl))
  | some v =>
   obtain ⟨hs, hb⟩ := jf hm hT.2.1 hv
   have hok := zv m t v hv
   have hpl : planeB v (bnd m t v) = true := (planeB_iff _ _).2 ⟨by have := hok.1; omega, fun x hx => by have := hok.2 x hx; omega, by omega⟩
   have hpt := jB v (bnd m t v) (by have := hok.1; omega)
   unfold planeTab at hpt
   rw [if_pos hpl, hok.1, jT hT hs] at hpt
   refine Ev.step (fun k => laws_FnThresholdTables.j5.eq_2 ..) (evp rfl (evb hpt ?_))
   have := zQ0 hT hv h1 m 0 (by omega)
   simpa [impl_leastPlane.sz] using this
 ·
  obtain rfl : m = 0 := by omega
  have hP : (za ((0 : Nat) : Int) t).2.2 = false := by unfold za; rw [if_neg (by simp)]
  rw [hP]
  exact Ev.step (fun k => laws_FnThresholdTables.j4.eq_2 ..) (evn (by simp) (Ev.step (fun k => laws_FnThresholdTables.j5.eq_2 ..) (evn (by decide) (evs rfl))))
theorem qX {m : Nat} {t u : List Int} (hT : Tab m t) (h : s0 t 0 t.length = some u) : zg t u = true ∧ u.length = 4 := by
 refine qQ t (fun u => zg t u = true ∧ u.length = 4) (fun a b c d h1 h2 h3 h4 h5 => ?_) t.length 0 (by omega) u h
 refine ⟨?_, rfl⟩
 unfold zg
 have e : inB 0 ((t.length : Int) - 1) [(a : Int), (b : Int), (c : Int), (d : Int)] = true := by simp [inB]; omega
 rw [e]
 simp only [List.getD_cons_zero, List.getD_cons_succ, Int.toNat_natCast]
 rw [h5, decide_eq_true (show (a : Int) ≤ (b : Int) by omega), decide_eq_true (show (c : Int) ≤ (d : Int) by omega)]; rfl
theorem qS (n : Int) (t : List Int) (ht : t.length ≤ 40) : Ev (fun k => laws_FnThresholdTables.j2 k n t (za n t).2.2 (zk n t).1 (zk n t).2 (zf n t).1 (zf n t).2 (trade n t).1 (trade n t).2 (za n t).1 (za n t).2.1) true := by
 by_cases e : isTab n t = true
 ·
  obtain ⟨m, rfl, hT⟩ := isTab_tab e
  have h16 := hT.len
  have hm := hT.1
  have h4 := zR0 hT e
  have hth : zk (m : Int) t = ((lp m t).isSome, true) := by unfold zk; rw [if_pos e, Int.toNat_natCast]
  have hS : (zf (m : Int) t).2 = (lp m t).isSome := by unfold zf; rw [if_pos e, Int.toNat_natCast]
  have htr : trade (m : Int) t = ((s0 t 0 t.length).getD [], (s0 t 0 t.length).isSome) := by unfold trade; rw [if_pos e]
  have hx := zf0 hT
  have hpl : (za (m : Int) t).2.2 = ((lp m t).isSome && decide ((m : Int) > 0)) := by
   unfold za
   by_cases h0 : (m : Int) = 0
   · rw [if_neg (fun h => h.2 h0), decide_eq_false (by omega), Bool.and_false]
   ·
    rw [if_pos ⟨e, h0⟩, Int.toNat_natCast, decide_eq_true (by omega), Bool.and_true]
    cases lp m t <;> rfl
  rw [hth, hS, htr]
  have j3 : Ev (fun k => laws_FnThresholdTables.j3 k (m : Int) t (za (m : Int) t).2.2 (lp m t).isSome (zf (m : Int) t).1 ((s0 t 0 t.length).getD []) (s0 t 0 t.length).isSome false (za (m : Int) t).1 (za (m : Int) t).2.1) true := by
   cases e0 : s0 t 0 t.length with
   | none => exact Ev.step (fun k => laws_FnThresholdTables.j3.eq_2 ..) (evn (by decide) (evn (by decide) h4))
   | some u =>
    obtain ⟨hu, hl⟩ := qX hT e0
    have hI := qR (m : Int) t u (by omega) (by omega)
    unfold ze at hI
    rw [if_pos e, hu] at hI
    exact Ev.step (fun k => laws_FnThresholdTables.j3.eq_2 ..) (evn (by decide) (evp rfl (evb hI (evp rfl (evp rfl h4)))))
  refine Ev.step (fun k => laws_FnThresholdTables.j2.eq_2 ..) (evp rfl (evn ?_ (evn (by simp) ?_)))
  · simp only [hx]; cases (s0 t 0 t.length).isSome <;> simp
  ·
   by_cases c : (lp m t).isSome = true
   ·
    refine evp c ?_
    rw [show ((za (m : Int) t).2.2 != decide ((m : Int) > 0)) = false by rw [hpl, c, Bool.true_and]; simp]
    exact j3
   ·
    refine evn c ?_
    rw [show ((za (m : Int) t).2.2 != false) = false by rw [hpl, Bool.not_eq_true _ |>.mp c]; rfl]
    exact j3
 ·
  have h1 : zk n t = (false, false) := by unfold zk; rw [if_neg e]
  have h2 : zf n t = (0, false) := by unfold zf; rw [if_neg e]
  have h3 : trade n t = ([], false) := by unfold trade; rw [if_neg e]
  have h4 : (za n t).2.2 = false := by unfold za; rw [if_neg (fun h => e h.1)]
  rw [h1, h2, h3, h4]
  exact Ev.step (fun k => laws_FnThresholdTables.j2.eq_2 ..) (evn (by decide) (evn (by decide) (evn (by decide) (evs rfl))))
theorem law (l0 : List Int) (hb : ∀ x ∈ l0, (Lit.int .u8 x).wf = true) : Ev (fun k => laws_FnThresholdTables.f k l0) true := by
 unfold laws_FnThresholdTables.f laws_vBig.f
 simp only [Option.bind_some]
 by_cases c : (l0.length : Int) > 65536
 · exact evp (decide_eq_true c) (evs rfl)
 have hl := zo0 l0 (by omega) hb
 refine evn (by simpa using c) ?_
 have bne_self : ∀ b : Bool, ¬ (b != b) = true := fun b => by cases b <;> decide
 obtain ⟨⟨n, t⟩, hd, ht⟩ := qV hl
 simp only at ht
 obtain ⟨q, hq, hl2⟩ := qa0 hl
 obtain ⟨⟨m, o, u⟩, hd2, ho, hu⟩ := kA hl2
 simp only at ho hu
 have hpl := jq n t
 have htl := trade_len n t
 have hk : Ev (fun k => laws_FnThresholdTables.j1 k n t (za n t).2.2 (zk n t).1 (zk n t).2 (zf n t).1 (zf n t).2 (trade n t).1 (trade n t).2 m o (ze m o u).1 (za n t).1 (za n t).2.1) true ∨ (ze m o u).2 = false := by
  by_cases e : isTab m o = true
  ·
   left
   by_cases h : (ze m o u).1 = true
   ·
    obtain ⟨m', rfl, hT⟩ := isTab_tab e
    have h16 := hT.len
    have hth := iThr (m' : Int) o (by omega)
    have hno : lp m' o = none := by
     unfold ze at h
     rw [if_pos e] at h
     simp only [zg, Bool.and_eq_true, decide_eq_true_eq] at h
     obtain ⟨h4, hi, _, _, htc⟩ := h
     obtain ⟨a, b, c', d, rfl⟩ := qe h4
     obtain ⟨ha, hb', hc, hd'⟩ := zS hi
     simp only [List.getD_cons_zero, List.getD_cons_succ] at htc
     have ht2 := hT.2.1
     exact zR hT (by omega) (by omega) (by omega) (by omega) htc
    unfold zk at hth
    rw [if_pos e, Int.toNat_natCast, hno] at hth
    exact Ev.step (fun k => laws_FnThresholdTables.j1.eq_2 ..) (evp h (evb hth (evp rfl (evn (by decide) (qS n t ht)))))
   · exact Ev.step (fun k => laws_FnThresholdTables.j1.eq_2 ..) (evn h (qS n t ht))
  · right; unfold ze; rw [if_neg e]
 have hfalse : Ev (fun k => laws_FnThresholdTables.j1 k n t (za n t).2.2 (zk n t).1 (zk n t).2 (zf n t).1 (zf n t).2 (trade n t).1 (trade n t).2 m o false (za n t).1 (za n t).2.1) true := Ev.step (fun k => laws_FnThresholdTables.j1.eq_2 ..) (evn (by decide) (qS n t ht))
 have hj0 : Ev (fun k => laws_FnThresholdTables.j0 k n t (za n t).2.2 (zk n t).1 (zk n t).2 (zf n t).1 (zf n t).2 (trade n t).1 (trade n t).2 m o (ze m o u).1 (ze m o u).2 false (za n t).1 (za n t).2.1) true := by
  refine Ev.step (fun k => laws_FnThresholdTables.j0.eq_2 ..) (evn (by decide) ?_)
  by_cases h : (ze m o u).2 = true
  · exact evp h (hk.resolve_right (by rw [h]; decide))
  · exact evn h hfalse
 have h2 : (zk n t).2 = isTab n t := by unfold zk; cases isTab n t <;> rfl
 have hfin : Ev (fun k => laws_FnThresholdTables.j0 k n t (za n t).2.2 (zk n t).1 (zk n t).2 (zf n t).1 (zf n t).2 (trade n t).1 (trade n t).2 m o (ze m o u).1 (ze m o u).2 ((zk n t).2 != isTab n t) (za n t).1 (za n t).2.1) true := by
  rw [show ((zk n t).2 != isTab n t) = false by rw [h2]; simp]; exact hj0
 have hit : Ev (fun k => impl_IsTable.f k n t) (isTab n t) := by unfold impl_IsTable.f; exact evb (zu n t (by omega)) (evs rfl)
 have hst : Ev (fun k => spec_IsTable.f k n t) (isTab n t) := by unfold spec_IsTable.f; exact evb (zm n t (by omega)) (evs rfl)
 refine evb hd (evb (zn0 n t (by omega)) (evb (zm0 n t (by omega)) (evb (iThr n t (by omega)) (evb (sThr n t (by omega)) (evb (zX0 n t (by omega)) (evb (zW0 n t (by omega)) (evb (zS0 n t (by omega)) (evb (zT0 n t (by omega)) (evb (evc hq) (evb hd2 (evb (qR m o u (by omega) (by omega)) (evb (kB m o u (by omega) (by omega)) ?_))))))))))))
 refine evn (bne_self _) (evb (zP0 _ _ _ _ (by omega)) (evp (by simp) (evn (bne_self _) (evn (bne_self _) (evp rfl (evn (bne_self _) (evn (bne_self _) (evb (jr _ _ (by omega)) (evp (decide_eq_true rfl) (evn (bne_self _) (evn (bne_self _) (evb hit (evb hst (evn (bne_self _) (evb hit hfin)))))))))))))))
end Go.Proofs.Ytmfmgnpefjmieaa.LFnThresholdTables
