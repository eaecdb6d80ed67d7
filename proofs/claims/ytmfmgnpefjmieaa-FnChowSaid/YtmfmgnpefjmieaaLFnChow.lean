-- Own text.
import Derived.Test.YtmfmgnpefjmieaaMFnChowx11
import Derived.Test.YtmfmgnpefjmieaaZFnChowBase
namespace Go.Proofs.Ytmfmgnpefjmieaa.LFnChow
open Go Go.RowKit Go.Proofs.Ytmfmgnpefjmieaa.Base Go.Proofs.Ytmfmgnpefjmieaa.PFnChow Go.Proofs.YtmfmgnpefjmieaaW.PrintWords Go.Proofs.YtmfmgnpefjmieaaW.PrintLast Go.Proofs.YtmfmgnpefjmieaaW.PrintMore
set_option linter.unusedVariables false
set_option linter.unusedSimpArgs false
set_option maxRecDepth 4000
theorem l1In (a b c : Int) : spec_l1In.f a b c = some (decide (b ≤ a ∧ a ≤ c)) := by
 unfold spec_l1In.f; split <;> simp_all <;> omega
theorem within (a b c : Int) : impl_within.f a b c = some (decide (b ≤ a ∧ a ≤ c)) := by
 unfold impl_within.f; split <;> simp_all <;> omega
theorem l2Table_l0 (l : List Int) (hx : l.length < 4611686018427387904) : ∀ (d i : Nat), i + d = l.length →
  Ev (fun k => spec_l2Table.l0 k l (i : Int)) ((l.drop i).all fun x => decide (0 ≤ x ∧ x ≤ 1)) := by
 intro d
 induction d with
 | zero =>
  intro i hi
  refine Ev.step (fun k => spec_l2Table.l0.eq_2 ..) (evn (by omega) (evs ?_))
  simp [List.drop_of_length_le (show l.length ≤ i by omega)]
 | succ d ih =>
  intro i hi
  refine Ev.step (fun k => spec_l2Table.l0.eq_2 ..) (evp (by omega) (evp (by omega) ?_))
  rw [w64s i (by omega), rd_nat, l1In, List.drop_eq_getElem_cons (show i < l.length by omega)]
  simp only [List.getD_eq_getElem?_getD, List.getElem?_eq_getElem (show i < l.length by omega), Option.getD_some, Option.bind_some, List.all_cons]
  by_cases e : 0 ≤ l[i] ∧ l[i] ≤ 1
  ·
   refine evp (by simpa using e) (evr (ih (i + 1) (by omega)) (by simp [e]))
  ·
   refine evn (by simpa using e) (evs (by simp [e]))
theorem l2Table (n : Int) (l : List Int) (hx : l.length < 4611686018427387904) : Ev (fun k => spec_l2Table.f k n l) (isTab n l) := by
 unfold spec_l2Table.f isTab
 rw [l1In]
 simp only [Option.bind_some]
 by_cases h : 0 ≤ n ∧ n ≤ 4
 ·
  refine evp (by simpa using h) (evp h.1 (Ev.step (fun k => spec_l2Table.j0.eq_2 ..) ?_))
  obtain ⟨m, rfl⟩ := Int.eq_ofNat_of_zero_le h.1
  rw [shl1 m (by omega)]
  by_cases e : l.length = 2 ^ m
  ·
   refine evn (by simp [e]) (evr (l2Table_l0 l hx l.length 0 (by omega)) (by simp [e]; omega))
  ·
   refine evp (by simp; exact_mod_cast e) (evs (by simp [e]))
 ·
  refine evn (by simpa using h) (Ev.step (fun k => spec_l2Table.j0.eq_2 ..) (evp rfl (evs (by simp [h]))))
theorem allWithin_l0 (lo up : Int) (l : List Int) (hx : l.length < 4611686018427387904) : ∀ (d i : Nat), i + d = l.length →
  Ev (fun k => impl_allWithin.l0 k lo up l (l.length : Int) (i : Int)) ((l.drop i).all fun x => decide (lo ≤ x ∧ x ≤ up)) := by
 intro d
 induction d with
 | zero =>
  intro i hi
  refine Ev.step (fun k => impl_allWithin.l0.eq_2 ..) (evn (by omega) (evs ?_))
  simp [List.drop_of_length_le (show l.length ≤ i by omega)]
 | succ d ih =>
  intro i hi
  refine Ev.step (fun k => impl_allWithin.l0.eq_2 ..) (evp (by omega) (evp (by omega) (evp (by omega) ?_)))
  rw [w64s i (by omega), rd_nat, within, List.drop_eq_getElem_cons (show i < l.length by omega)]
  simp only [List.getD_eq_getElem?_getD, List.getElem?_eq_getElem (show i < l.length by omega), Option.getD_some, Option.bind_some, List.all_cons]
  by_cases e : lo ≤ l[i] ∧ l[i] ≤ up
  ·
   refine evp (by simpa using e) (evr (ih (i + 1) (by omega)) (by simp [e]))
  ·
   refine evn (by simpa using e) (evs (by simp [e]))
theorem allWithin (l : List Int) (lo up : Int) (hx : l.length < 4611686018427387904) : Ev (fun k => impl_allWithin.f k l lo up) (l.all fun x => decide (lo ≤ x ∧ x ≤ up)) := by
 unfold impl_allWithin.f
 exact allWithin_l0 lo up l hx l.length 0 (by omega)
theorem isTable (n : Int) (l : List Int) (hx : l.length < 4611686018427387904) : Ev (fun k => impl_isTable.f k n l) (isTab n l) := by
 unfold impl_isTable.f isTab
 rw [within]
 simp only [Option.bind_some]
 by_cases h : 0 ≤ n ∧ n ≤ 4
 ·
  obtain ⟨m, rfl⟩ := Int.eq_ofNat_of_zero_le h.1
  refine evp (by simpa using h) (evp h.1 ?_)
  rw [shl1 m (by omega)]
  by_cases e : l.length = 2 ^ m
  ·
   refine evp (by exact_mod_cast e) (evb (allWithin l 0 1 hx) (evs (by simp [e]; omega)))
  ·
   refine evn (by exact_mod_cast e) (evs (by simp [e]))
 ·
  refine evn (by simpa using h) (evs (by simp [h]))
theorem l5Moves_l0 {m : Nat} {l : List Int} (h : Tab m l) (i : Nat) (hi : i < m) : ∀ (d j : Nat) (a b : Int), j + d = l.length → 0 ≤ a → a ≤ j → 0 ≤ b → b ≤ j →
  Ev (fun k => spec_l5Moves.l0 k l (i : Int) a b (j : Int)) (a + sumN (lost l i) j d, b + sumN (won l i) j d) := by
 have hlen := h.len
 have hm := h.1
 intro d
 induction d with
 | zero =>
  intro j a b hj _ _ _ _
  refine Ev.step (fun k => spec_l5Moves.l0.eq_2 ..) (evn (by omega) (evs ?_))
  simp [sumN]
 | succ d ih =>
  intro j a b hj ha ha' hb hb'
  refine Ev.step (fun k => spec_l5Moves.l0.eq_2 ..) (evp (by omega) (evp (by omega) ?_))
  rw [digit j i (by omega) (by omega), w64s j (by omega)]
  by_cases e : bit j i = 1
  ·
   refine evp (by omega) (evr (ih (j + 1) a b (by omega) ha (by omega) hb (by omega)) ?_)
   simp [sumN, lost, won, e]
  ·
   have e0 : bit j i = 0 := by have := bit_lt j i; omega
   have hlt := bit_add_lt (h.2.1 ▸ (show j < l.length by omega)) hi e0
   have hlt' : j + 2 ^ i < l.length := by rw [h.2.1]; exact hlt
   have hq := Nat.two_pow_pos i
   rw [shl1 i (by omega), w64 (x := (j : Int) + ((2 ^ i : Nat) : Int)) (by omega) (by omega), show (j : Int) + ((2 ^ i : Nat) : Int) = ((j + 2 ^ i : Nat) : Int) by omega]
   refine evn (by omega) (evp (by omega) (evp (by omega) (evp (by omega) ?_)))
   rw [rd_nat, rd_nat]
   have u := h.lost i j; have v := h.won i j
   have u' : lost l i j = l.getD j 0 * (1 - l.getD (j + 2 ^ i) 0) := by unfold lost; rw [if_neg e]
   have v' : won l i j = l.getD (j + 2 ^ i) 0 * (1 - l.getD j 0) := by unfold won; rw [if_neg e]
   have p := h.at_ j; have q := h.at_ (j + 2 ^ i)
   rw [w64 (x := 1 - l.getD (j + 2 ^ i) 0) (by omega) (by omega), w64 (x := 1 - l.getD j 0) (by omega) (by omega), ← u', ← v', w64 (x := lost l i j) (by omega) (by omega), w64 (x := won l i j) (by omega) (by omega), w64 (x := a + lost l i j) (by omega) (by omega), w64 (x := b + won l i j) (by omega) (by omega)]
   refine evr (ih (j + 1) _ _ (by omega) (by omega) (by omega) (by omega) (by omega)) ?_
   simp only [sumN, Prod.mk.injEq]; omega
theorem l5Moves {m : Nat} {l : List Int} (h : Tab m l) (i : Nat) (hi : i < m) : Ev (fun k => spec_l5Moves.f k l (i : Int)) (losses l i, gains l i) := by
 unfold spec_l5Moves.f
 exact evr (l5Moves_l0 h i hi l.length 0 0 0 (by omega) (by omega) (by omega) (by omega) (by omega)) (by simp [losses, gains])
theorem ways_l0 {m : Nat} {l : List Int} (h : Tab m l) (i : Nat) (hi : i < m) : ∀ (d j : Nat) (a b : Int), j + d = l.length → 0 ≤ a → a ≤ j → 0 ≤ b → b ≤ j →
  Ev (fun k => impl_ways.l0 k l (i : Int) a b (l.length : Int) (j : Int)) (a + sumN (won l i) j d, b + sumN (lost l i) j d) := by
 have hlen := h.len
 have hm := h.1
 intro d
 induction d with
 | zero =>
  intro j a b hj _ _ _ _
  refine Ev.step (fun k => impl_ways.l0.eq_2 ..) (evn (by omega) (evs ?_))
  simp [sumN]
 | succ d ih =>
  intro j a b hj ha ha' hb hb'
  refine Ev.step (fun k => impl_ways.l0.eq_2 ..) (evp (by omega) (evp (by omega) ?_))
  rw [digit j i (by omega) (by omega), w64s j (by omega)]
  by_cases e : bit j i = 1
  ·
   refine evp (by omega) (evr (ih (j + 1) a b (by omega) ha (by omega) hb (by omega)) ?_)
   simp [sumN, lost, won, e]
  ·
   have e0 : bit j i = 0 := by have := bit_lt j i; omega
   have hlt := bit_add_lt (h.2.1 ▸ (show j < l.length by omega)) hi e0
   have hlt' : j + 2 ^ i < l.length := by rw [h.2.1]; exact hlt
   have hq := Nat.two_pow_pos i
   have hp : (2 : Nat) ^ i < 2 ^ 63 := Nat.pow_lt_pow_right (by decide) (by omega)
   rw [shl1 i (by omega), or_nat j (2 ^ i) (by omega) hp, bit_or j i e0]
   refine evn (by omega) (evp (by omega) (evp (by omega) (evp (by omega) (evp (by omega) ?_))))
   rw [rd_nat, rd_nat]
   have u' : lost l i j = l.getD j 0 * (1 - l.getD (j + 2 ^ i) 0) := by unfold lost; rw [if_neg e]
   have v' : won l i j = l.getD (j + 2 ^ i) 0 * (1 - l.getD j 0) := by unfold won; rw [if_neg e]
   have p := h.at_ j; have q := h.at_ (j + 2 ^ i)
   generalize l.getD (j + 2 ^ i) 0 = y at *; generalize l.getD j 0 = x at *
   rw [w64 (x := y - x) (by omega) (by omega)]
   obtain rfl | rfl : x = 0 ∨ x = 1 := by omega
   ·
    obtain rfl | rfl : y = 0 ∨ y = 1 := by omega
    ·
     refine evn (by omega) (evn (by omega) (evr (ih (j + 1) a b (by omega) ha (by omega) hb (by omega)) ?_))
     simp only [sumN, Prod.mk.injEq]; omega
    ·
     rw [w64 (x := a + 1) (by omega) (by omega)]
     refine evp (by omega) (evr (ih (j + 1) (a + 1) b (by omega) (by omega) (by omega) hb (by omega)) ?_)
     simp only [sumN, Prod.mk.injEq]; omega
   ·
    obtain rfl | rfl : y = 0 ∨ y = 1 := by omega
    ·
     rw [w64 (x := b + 1) (by omega) (by omega)]
     refine evn (by omega) (evp (by omega) (evr (ih (j + 1) a (b + 1) (by omega) ha (by omega) (by omega) (by omega)) ?_))
     simp only [sumN, Prod.mk.injEq]; omega
    ·
     refine evn (by omega) (evn (by omega) (evr (ih (j + 1) a b (by omega) ha (by omega) hb (by omega)) ?_))
     simp only [sumN, Prod.mk.injEq]; omega
theorem ways {m : Nat} {l : List Int} (h : Tab m l) (i : Nat) (hi : i < m) : Ev (fun k => impl_ways.f k l (i : Int)) (gains l i, losses l i) := by
 unfold impl_ways.f
 exact evr (ways_l0 h i hi l.length 0 0 0 (by omega) (by omega) (by omega) (by omega) (by omega)) (by simp [losses, gains])
theorem sInfl_l0 {m : Nat} {l : List Int} (h : Tab m l) : ∀ (d j : Nat) (out : List Int), j + d = m → out.length = j →
  Ev (fun k => spec_InfluencesOf.l0 k (m : Int) l out (j : Int)) (out ++ (List.range' j d).map (fun i => losses l i + gains l i), true) := by
 have hm := h.1
 intro d
 induction d with
 | zero =>
  intro j out hj ho
  exact Ev.step (fun k => spec_InfluencesOf.l0.eq_2 ..) (evn (by omega) (evs (by simp)))
 | succ d ih =>
  intro j out hj ho
  have u := h.losses j; have v := h.gains j
  refine Ev.step (fun k => spec_InfluencesOf.l0.eq_2 ..) (evp (by omega) (evb (l5Moves h j (by omega)) (evp (by omega) ?_)))
  rw [w64s j (by omega), w64 (x := losses l j + gains l j) (by omega) (by omega)]
  refine evr (ih (j + 1) _ (by omega) (by simp; omega)) ?_
  simp [List.range'_succ]
theorem sInfl (n : Int) (l : List Int) (hx : l.length < 4611686018427387904) : Ev (fun k => spec_InfluencesOf.f k n l) (influences n l) := by
 unfold spec_InfluencesOf.f influences
 refine evb (evc rfl) (evb (l2Table n l hx) ?_)
 by_cases e : isTab n l = true
 ·
  obtain ⟨m, rfl, h⟩ := isTab_tab e
  refine evp e (evr (sInfl_l0 h m 0 [] (by omega) rfl) ?_)
  simp [e, List.range_eq_range']
 ·
  refine evn e (evs (by simp [e]))
theorem iInfl_l0 {m : Nat} {l : List Int} (h : Tab m l) : ∀ (d j : Nat) (out : List Int), j + d = m → out.length = j →
  Ev (fun k => impl_InfluencesOf.l0 k l out (m : Int) (j : Int)) (out ++ (List.range' j d).map (fun i => losses l i + gains l i), true) := by
 have hm := h.1
 intro d
 induction d with
 | zero =>
  intro j out hj ho
  exact Ev.step (fun k => impl_InfluencesOf.l0.eq_2 ..) (evn (by omega) (evs (by simp)))
 | succ d ih =>
  intro j out hj ho
  have u := h.losses j; have v := h.gains j
  refine Ev.step (fun k => impl_InfluencesOf.l0.eq_2 ..) (evp (by omega) (evb (ways h j (by omega)) (evp (by omega) ?_)))
  rw [w64s j (by omega), w64 (x := gains l j + losses l j) (by omega) (by omega), Int.add_comm (gains l j)]
  refine evr (ih (j + 1) _ (by omega) (by simp; omega)) ?_
  simp [List.range'_succ]
theorem iInfl (n : Int) (l : List Int) (hx : l.length < 4611686018427387904) : Ev (fun k => impl_InfluencesOf.f k n l) (influences n l) := by
 unfold impl_InfluencesOf.f influences
 refine evb (isTable n l hx) ?_
 by_cases e : isTab n l = true
 ·
  obtain ⟨m, rfl, h⟩ := isTab_tab e
  refine evp e (evr (iInfl_l0 h m 0 [] (by omega) rfl) ?_)
  simp [e, List.range_eq_range']
 ·
  refine evn e (evs (by simp [e]))
theorem sSigns_l0 {m : Nat} {l : List Int} (h : Tab m l) : ∀ (d j : Nat) (out : List Int), j + d = m → out.length = j →
  Ev (fun k => spec_BitSigns.l0 k (m : Int) l out (j : Int)) (if (List.range' j d).any (both l) = true then ([], false) else (out ++ (List.range' j d).map (sign1 l), true)) := by
 have hm := h.1
 intro d
 induction d with
 | zero =>
  intro j out hj ho
  exact Ev.step (fun k => spec_BitSigns.l0.eq_2 ..) (evn (by omega) (evs (by simp)))
 | succ d ih =>
  intro j out hj ho
  have u := h.losses j; have v := h.gains j
  refine Ev.step (fun k => spec_BitSigns.l0.eq_2 ..) (evp (by omega) (evb (l5Moves h j (by omega)) ?_))
  have nxt : ∀ x, x = sign1 l j → both l j = false → Ev (fun k => spec_BitSigns.l0 k (m : Int) l (out ++ [x]) (wrap64 ((j : Int) + 1))) (if (List.range' j (d + 1)).any (both l) = true then ([], false) else (out ++ (List.range' j (d + 1)).map (sign1 l), true)) := by
   intro x hx hb
   rw [w64s j (by omega)]
   refine evr (ih (j + 1) _ (by omega) (by simp; omega)) ?_
   rw [List.range'_succ, List.any_cons, hb, Bool.false_or]; simp [hx]
  by_cases a : losses l j > 0
  ·
   refine evp a (Ev.step (fun k => spec_BitSigns.j1.eq_2 ..) ?_)
   by_cases b : gains l j > 0
   ·
    exact evp (by simpa using b) (evs (by rw [if_pos (by simp [List.range'_succ, both, a, b])]))
   ·
    refine evn (by simpa using b) (evp a (evp (by omega) (nxt _ ?_ ?_)))
    ·
     simp [sign1, a]
    ·
     simp [both]; omega
  ·
   refine evn a (Ev.step (fun k => spec_BitSigns.j1.eq_2 ..) (evn (by simp) (evn a ?_)))
   by_cases b : gains l j > 0
   ·
    refine evp b (evp (by omega) (nxt _ ?_ ?_))
    ·
     unfold sign1; rw [if_neg (by omega), if_pos (by omega)]
    ·
     simp [both]; omega
   ·
    refine evn b (evp (by omega) (nxt _ ?_ ?_))
    ·
     unfold sign1; rw [if_neg (by omega), if_neg (by omega)]
    ·
     simp [both]; omega
theorem sSigns (n : Int) (l : List Int) (hx : l.length < 4611686018427387904) : Ev (fun k => spec_BitSigns.f k n l) (signs n l) := by
 unfold spec_BitSigns.f signs
 refine evb (evc rfl) (evb (l2Table n l hx) ?_)
 by_cases e : isTab n l = true
 ·
  obtain ⟨m, rfl, h⟩ := isTab_tab e
  refine evp e (evr (sSigns_l0 h m 0 [] (by omega) rfl) ?_)
  simp [e, List.range_eq_range']
 ·
  refine evn e (evs (by simp [e]))
theorem iSigns_l0 {m : Nat} {l : List Int} (h : Tab m l) : ∀ (d j : Nat) (out : List Int), j + d = m → out.length = j →
  Ev (fun k => impl_BitSigns.l0 k l out (m : Int) (j : Int)) (if (List.range' j d).any (both l) = true then ([], false) else (out ++ (List.range' j d).map (sign1 l), true)) := by
 have hm := h.1
 intro d
 induction d with
 | zero =>
  intro j out hj ho
  exact Ev.step (fun k => impl_BitSigns.l0.eq_2 ..) (evn (by omega) (evs (by simp)))
 | succ d ih =>
  intro j out hj ho
  have u := h.losses j; have v := h.gains j
  refine Ev.step (fun k => impl_BitSigns.l0.eq_2 ..) (evp (by omega) (evb (ways h j (by omega)) ?_))
  have nxt : both l j = false → Ev (fun k => impl_BitSigns.l0 k l (out ++ [wrap64 (mn (gains l j) 1 - mn (losses l j) 1)]) (m : Int) (wrap64 ((j : Int) + 1))) (if (List.range' j (d + 1)).any (both l) = true then ([], false) else (out ++ (List.range' j (d + 1)).map (sign1 l), true)) := by
   intro hb
   have hx : wrap64 (mn (gains l j) 1 - mn (losses l j) 1) = sign1 l j := by
    have e1 : mn (gains l j) 1 = if gains l j > 0 then 1 else 0 := by unfold mn; split <;> split <;> omega
    have e2 : mn (losses l j) 1 = if losses l j > 0 then 1 else 0 := by unfold mn; split <;> split <;> omega
    have hb' : ¬ (0 < losses l j ∧ 0 < gains l j) := by simpa [both] using hb
    rw [e1, e2]; unfold sign1
    by_cases a : losses l j > 0
    ·
     rw [if_neg (show ¬ gains l j > 0 by omega), if_pos a, if_pos a]; exact w64 (by omega) (by omega)
    ·
     by_cases b : gains l j > 0
     ·
      rw [if_pos b, if_neg a, if_neg (show ¬ 0 < losses l j from a)]; exact w64 (by omega) (by omega)
     ·
      rw [if_neg b, if_neg a, if_neg (show ¬ 0 < losses l j from a)]; exact w64 (by omega) (by omega)
   rw [w64s j (by omega), hx]
   refine evr (ih (j + 1) _ (by omega) (by simp; omega)) ?_
   rw [List.range'_succ, List.any_cons, hb, Bool.false_or]; simp
  by_cases b : gains l j > 0
  ·
   refine evp b ?_
   by_cases a : losses l j > 0
   ·
    exact evp a (evs (by rw [if_pos (by simp [List.range'_succ, both, a, b])]))
   ·
    exact evn a (evp (by omega) (nxt (by simp [both]; omega)))
  ·
   exact evn b (evp (by omega) (nxt (by simp [both]; omega)))
theorem iSigns (n : Int) (l : List Int) (hx : l.length < 4611686018427387904) : Ev (fun k => impl_BitSigns.f k n l) (signs n l) := by
 unfold impl_BitSigns.f signs
 refine evb (isTable n l hx) ?_
 by_cases e : isTab n l = true
 ·
  obtain ⟨m, rfl, h⟩ := isTab_tab e
  refine evp e (evr (iSigns_l0 h m 0 [] (by omega) rfl) ?_)
  simp [e, List.range_eq_range']
 ·
  refine evn e (evs (by simp [e]))
theorem copied (l : List Int) (h : l.length < 17592186044416) : impl_copied.f l = some l := by
 unfold impl_copied.f
 simp only [Option.bind_some]
 rw [if_pos (by simpa using h)]; rfl
theorem l2Dot_l0 (a b : List Int) (M : Int) (hM : 0 ≤ M ∧ M ≤ 1000000000000) (hab : ∀ i, -M ≤ a.getD i 0 * b.getD i 0 ∧ a.getD i 0 * b.getD i 0 ≤ M) (hl : a.length ≤ 1000) (hb : a.length ≤ b.length) : ∀ (d i : Nat) (s : Int), i + d = a.length → -(M * i) ≤ s → s ≤ M * i →
  Ev (fun k => spec_l2Dot.l0 k a b s (i : Int)) (s + dot (a.drop i) (b.drop i)) := by
 intro d
 induction d with
 | zero =>
  intro i s hi h0 hs
  exact Ev.step (fun k => spec_l2Dot.l0.eq_2 ..) (evn (by omega) (evs (by rw [List.drop_of_length_le (show a.length ≤ i by omega)]; simp [dot])))
 | succ d ih =>
  intro i s hi h0 hs
  have hm := hab i
  have hMi : M * (i : Int) ≤ 1000000000000 * 1000 := Int.mul_le_mul hM.2 (by omega) (by omega) (by omega)
  have hMs : M * ((i + 1 : Nat) : Int) = M * i + M := by rw [show ((i + 1 : Nat) : Int) = (i : Int) + 1 by omega, Int.mul_add]; omega
  refine Ev.step (fun k => spec_l2Dot.l0.eq_2 ..) (evp (by omega) (evp (by omega) (evp (by omega) ?_)))
  rw [rd_nat, rd_nat, w64s i (by omega), w64 (x := a.getD i 0 * b.getD i 0) (by omega) (by omega), w64 (x := s + a.getD i 0 * b.getD i 0) (by omega) (by omega)]
  refine evr (ih (i + 1) _ (by omega) (by omega) (by omega)) ?_
  rw [List.drop_eq_getElem_cons (show i < a.length by omega), List.drop_eq_getElem_cons (show i < b.length by omega)]
  simp only [List.getD_eq_getElem?_getD, List.getElem?_eq_getElem (show i < a.length by omega), List.getElem?_eq_getElem (show i < b.length by omega), Option.getD_some, dot]; omega
theorem getD_in {l : List Int} {A : Int} (hA : 0 ≤ A) (h : ∀ x ∈ l, -A ≤ x ∧ x ≤ A) (i : Nat) : -A ≤ l.getD i 0 ∧ l.getD i 0 ≤ A := by
 by_cases hi : i < l.length
 ·
  rw [List.getD_eq_getElem?_getD, List.getElem?_eq_getElem hi]; exact h _ (List.getElem_mem hi)
 ·
  rw [List.getD_eq_getElem?_getD, List.getElem?_eq_none (by omega)]; simp; omega
theorem l2Dot (a b : List Int) (A B : Int) (hA : 0 ≤ A ∧ A ≤ 1000000) (hB : 0 ≤ B ∧ B ≤ 1000000) (ha : ∀ x ∈ a, -A ≤ x ∧ x ≤ A) (hb : ∀ x ∈ b, -B ≤ x ∧ x ≤ B) (hl : a.length ≤ 1000) (hab : a.length ≤ b.length) : Ev (fun k => spec_l2Dot.f k a b) (dot a b) := by
 unfold spec_l2Dot.f
 have hM : A * B ≤ 1000000 * 1000000 := Int.mul_le_mul hA.2 hB.2 hB.1 (by omega)
 have hM0 := Int.mul_nonneg hA.1 hB.1
 exact evr (l2Dot_l0 a b (A * B) ⟨hM0, by omega⟩ (fun i => mul_bd (getD_in hA.1 ha i) (getD_in hB.1 hb i)) hl hab a.length 0 0 (by omega) (by simp) (by simp)) (by simp)
theorem product_l0 (a b : List Int) (M : Int) (hM : 0 ≤ M ∧ M ≤ 1000000000000) (hab : ∀ i, -M ≤ a.getD i 0 * b.getD i 0 ∧ a.getD i 0 * b.getD i 0 ≤ M) (hl : a.length ≤ 1000) (hb : a.length ≤ b.length) : ∀ (d i : Nat) (s : Int), i + d = a.length → -(M * i) ≤ s → s ≤ M * i →
  Ev (fun k => impl_product.l0 k b s a (a.length : Int) (i : Int)) (s + dot (a.drop i) (b.drop i)) := by
 intro d
 induction d with
 | zero =>
  intro i s hi h0 hs
  exact Ev.step (fun k => impl_product.l0.eq_2 ..) (evn (by omega) (evs (by rw [List.drop_of_length_le (show a.length ≤ i by omega)]; simp [dot])))
 | succ d ih =>
  intro i s hi h0 hs
  have hm := hab i
  have hMi : M * (i : Int) ≤ 1000000000000 * 1000 := Int.mul_le_mul hM.2 (by omega) (by omega) (by omega)
  have hMs : M * ((i + 1 : Nat) : Int) = M * i + M := by rw [show ((i + 1 : Nat) : Int) = (i : Int) + 1 by omega, Int.mul_add]; omega
  refine Ev.step (fun k => impl_product.l0.eq_2 ..) (evp (by omega) (evp (by omega) (evp (by omega) (evp (by omega) ?_))))
  rw [rd_nat, rd_nat, w64s i (by omega), w64 (x := a.getD i 0 * b.getD i 0) (by omega) (by omega), w64 (x := s + a.getD i 0 * b.getD i 0) (by omega) (by omega)]
  refine evr (ih (i + 1) _ (by omega) (by omega) (by omega)) ?_
  rw [List.drop_eq_getElem_cons (show i < a.length by omega), List.drop_eq_getElem_cons (show i < b.length by omega)]
  simp only [List.getD_eq_getElem?_getD, List.getElem?_eq_getElem (show i < a.length by omega), List.getElem?_eq_getElem (show i < b.length by omega), Option.getD_some, dot]; omega
theorem getD_in' {l : List Int} {A : Int} (hA : 0 ≤ A) (h : ∀ x ∈ l, -A ≤ x ∧ x ≤ A) (i : Nat) : -A ≤ l.getD i 0 ∧ l.getD i 0 ≤ A := by
 by_cases hi : i < l.length
 ·
  rw [List.getD_eq_getElem?_getD, List.getElem?_eq_getElem hi]; exact h _ (List.getElem_mem hi)
 ·
  rw [List.getD_eq_getElem?_getD, List.getElem?_eq_none (by omega)]; simp; omega
theorem product (a b : List Int) (A B : Int) (hA : 0 ≤ A ∧ A ≤ 1000000) (hB : 0 ≤ B ∧ B ≤ 1000000) (ha : ∀ x ∈ a, -A ≤ x ∧ x ≤ A) (hb : ∀ x ∈ b, -B ≤ x ∧ x ≤ B) (hl : a.length ≤ 1000) (hab : a.length ≤ b.length) : Ev (fun k => impl_product.f k a b) (dot a b) := by
 unfold impl_product.f
 have hM : A * B ≤ 1000000 * 1000000 := Int.mul_le_mul hA.2 hB.2 hB.1 (by omega)
 have hM0 := Int.mul_nonneg hA.1 hB.1
 exact evr (product_l0 a b (A * B) ⟨hM0, by omega⟩ (fun i => mul_bd (getD_in' hA.1 ha i) (getD_in' hB.1 hb i)) hl hab a.length 0 0 (by omega) (by simp) (by simp)) (by simp)
theorem l2Side (a : List Int) (b : Int) (x : List Int) (A B : Int) (hA : 0 ≤ A ∧ A ≤ 1000000) (hB : 0 ≤ B ∧ B ≤ 1000000) (ha : ∀ x ∈ a, -A ≤ x ∧ x ≤ A) (hb : ∀ y ∈ x, -B ≤ y ∧ y ≤ B) (hl : a.length ≤ 1000) (hab : a.length ≤ x.length) : Ev (fun k => spec_l2Side.f k a b x) (sideV a b x) := by
 unfold spec_l2Side.f sideV
 refine evb (l2Dot a x A B hA hB ha hb hl hab) ?_
 by_cases e : dot a x ≥ b
 ·
  exact evp e (evs (by rw [if_pos e]))
 ·
  exact evn e (evs (by rw [if_neg e]))
theorem l2BitPoint_l0 (n k : Nat) (hn : n ≤ 8) (hk : k < 2 ^ 62) : ∀ (d i : Nat) (out : List Int), i + d = n → out.length = i →
  Ev (fun f => spec_l2BitPoint.l0 f (n : Int) (k : Int) out (i : Int)) (out ++ (List.range' i d).map fun i => (bit k i : Int)) := by
 intro d
 induction d with
 | zero =>
  intro i out hi ho
  exact Ev.step (fun k => spec_l2BitPoint.l0.eq_2 ..) (evn (by omega) (evs (by simp)))
 | succ d ih =>
  intro i out hi ho
  refine Ev.step (fun k => spec_l2BitPoint.l0.eq_2 ..) (evp (by omega) (evp (by omega) (evp (by omega) ?_)))
  rw [digit k i (by omega) (by omega), w64s i (by omega)]
  refine evr (ih (i + 1) _ (by omega) (by simp; omega)) ?_
  simp [List.range'_succ]
theorem l2BitPoint (n k : Nat) (hn : n ≤ 8) (hk : k < 2 ^ 62) : Ev (fun f => spec_l2BitPoint.f f (n : Int) (k : Int)) (bitPt n k) := by
 unfold spec_l2BitPoint.f bitPt
 refine evr (l2BitPoint_l0 n k hn hk n 0 [] (by omega) rfl) ?_
 rw [List.range_eq_range']; rfl
theorem bitPoint_l0 (n k : Nat) (hn : n ≤ 8) (hk : k < 2 ^ 62) : ∀ (d i : Nat) (out : List Int), i + d = n → out.length = i →
  Ev (fun f => impl_bitPoint.l0 f (k : Int) out (n : Int) (i : Int)) (out ++ (List.range' i d).map fun i => (bit k i : Int)) := by
 intro d
 induction d with
 | zero =>
  intro i out hi ho
  exact Ev.step (fun k => impl_bitPoint.l0.eq_2 ..) (evn (by omega) (evs (by simp)))
 | succ d ih =>
  intro i out hi ho
  refine Ev.step (fun k => impl_bitPoint.l0.eq_2 ..) (evp (by omega) (evp (by omega) (evp (by omega) ?_)))
  rw [digit k i (by omega) (by omega), w64s i (by omega)]
  refine evr (ih (i + 1) _ (by omega) (by simp; omega)) ?_
  simp [List.range'_succ]
theorem bitPoint (n k : Nat) (hn : n ≤ 8) (hk : k < 2 ^ 62) : Ev (fun f => impl_bitPoint.f f (n : Int) (k : Int)) (bitPt n k) := by
 unfold impl_bitPoint.f bitPt
 refine evr (bitPoint_l0 n k hn hk n 0 [] (by omega) rfl) ?_
 rw [List.range_eq_range']; rfl
theorem l2TableOf_l0 (n : Nat) (hn : n ≤ 4) (a : List Int) (b : Int) (A : Int) (hA : 0 ≤ A ∧ A ≤ 1000000) (ha : ∀ x ∈ a, -A ≤ x ∧ x ≤ A) (hl : a.length ≤ n) : ∀ (d c : Nat) (out : List Int), c + d = 2 ^ n → out.length = c →
  Ev (fun k => spec_l2TableOf.l0 k (n : Int) out (c : Int) a b) (out ++ (List.range' c d).map fun k => if dot a (bitPt n k) ≥ b then 1 else 0) := by
 have hp := pow4 n hn
 intro d
 induction d with
 | zero =>
  intro c out hc ho
  refine Ev.step (fun k => spec_l2TableOf.l0.eq_2 ..) (evp (by omega) ?_)
  rw [shl1 n (by omega)]
  exact evn (by omega) (evs (by simp))
 | succ d ih =>
  intro c out hc ho
  refine Ev.step (fun k => spec_l2TableOf.l0.eq_2 ..) (evp (by omega) ?_)
  rw [shl1 n (by omega), w64s c (by omega)]
  refine evp (by omega) (evb (l2BitPoint n c (by omega) (by omega)) (evb (l2Side a b _ A 1 hA (by omega) ha (bitPt_in n c) (by omega) (by rw [bitPt_len]; exact hl)) (evp (by omega) ?_)))
  have hv : wrap64 (Int.tdiv (wrap64 (sideV a b (bitPt n c) + 1)) 2) = if dot a (bitPt n c) ≥ b then 1 else 0 := by
   unfold sideV
   split
   ·
    rw [w64 (x := 1 + 1) (by omega) (by omega), show Int.tdiv (1 + 1) 2 = 1 from rfl, w64 (by omega) (by omega)]
   ·
    rw [w64 (x := -1 + 1) (by omega) (by omega), show Int.tdiv (-1 + 1) 2 = 0 from rfl, w64 (by omega) (by omega)]
  rw [hv]
  refine evr (ih (c + 1) _ (by omega) (by simp; omega)) ?_
  simp [List.range'_succ]
theorem l2TableOf (n : Nat) (hn : n ≤ 4) (a : List Int) (b : Int) (A : Int) (hA : 0 ≤ A ∧ A ≤ 1000000) (ha : ∀ x ∈ a, -A ≤ x ∧ x ≤ A) (hl : a.length ≤ n) : Ev (fun k => spec_l2TableOf.f k (n : Int) a b) (tabOf n a b) := by
 unfold spec_l2TableOf.f tabOf
 refine evr (l2TableOf_l0 n hn a b A hA ha hl (2 ^ n) 0 [] (by omega) rfl) ?_
 rw [List.range_eq_range']; rfl
theorem l2Numbers_l0 (l : List Int) (b : Int) (hb : 0 ≤ b ∧ b ≤ 1000000000) (hx : l.length < 4611686018427387904) : ∀ (d i : Nat), i + d = l.length →
  Ev (fun k => spec_l2Numbers.l0 k l b (i : Int)) (inB (-b) b (l.drop i)) := by
 intro d
 induction d with
 | zero =>
  intro i hi
  exact Ev.step (fun k => spec_l2Numbers.l0.eq_2 ..) (evn (by omega) (evs (by rw [List.drop_of_length_le (show l.length ≤ i by omega)]; rfl)))
 | succ d ih =>
  intro i hi
  refine Ev.step (fun k => spec_l2Numbers.l0.eq_2 ..) (evp (by omega) (evp (by omega) ?_))
  rw [w64s i (by omega), rd_nat, w64 (x := -b) (by omega) (by omega), l1In, List.drop_eq_getElem_cons (show i < l.length by omega)]
  simp only [List.getD_eq_getElem?_getD, List.getElem?_eq_getElem (show i < l.length by omega), Option.getD_some, Option.bind_some, inB, List.all_cons]
  by_cases e : -b ≤ l[i] ∧ l[i] ≤ b
  ·
   exact evp (by simpa using e) (evr (ih (i + 1) (by omega)) (by rw [decide_eq_true e]; rfl))
  ·
   exact evn (by simpa using e) (evs (by rw [decide_eq_false e]; rfl))
theorem l2Numbers (l : List Int) (b : Int) (hb : 0 ≤ b ∧ b ≤ 1000000000) (hx : l.length < 4611686018427387904) : Ev (fun k => spec_l2Numbers.f k l b) (inB (-b) b l) := by
 unfold spec_l2Numbers.f
 exact l2Numbers_l0 l b hb hx l.length 0 (by omega)
theorem l2Plane (l : List Int) (b : Int) (hl : l.length < 4611686018427387904) : Ev (fun k => spec_l2Plane.f k l b) (planeB l b) := by
 unfold spec_l2Plane.f planeB
 rw [l1In, l1In]; simp only [Option.bind_some]
 by_cases e : 1 ≤ l.length ∧ l.length ≤ 4
 ·
  refine evp (by simp; omega) (evb (l2Numbers l 99 (by omega) hl) ?_)
  rw [decide_eq_true e, Bool.true_and]
  by_cases e' : inB (-99) 99 l = true
  ·
   exact evp e' (evs (by rw [e', Bool.true_and]))
  ·
   exact evn e' (evs (by rw [Bool.eq_false_iff.2 e']; rfl))
 ·
  exact evn (by simp; omega) (evs (by rw [decide_eq_false e]; rfl))
def prods (n : Nat) (w : List Int) : List Int := (List.range (2 ^ n)).map fun k => dot w (bitPt n k)
theorem prods_len (n : Nat) (w : List Int) : (prods n w).length = 2 ^ n := by simp [prods]
theorem prods_at (n : Nat) (w : List Int) (k : Nat) (h : k < 2 ^ n) : (prods n w).getD k 0 = dot w (bitPt n k) := by simp [prods, List.getD_eq_getElem?_getD, h]
theorem bitPt_01 (n k : Nat) : ∀ x ∈ bitPt n k, -1 ≤ x ∧ x ≤ 1 := bitPt_in n k
theorem dot_small (n : Nat) (w : List Int) (hn : n ≤ 4) (hw : ∀ x ∈ w, -9 ≤ x ∧ x ≤ 9) (hl : w.length = n) (k : Nat) : -36 ≤ dot w (bitPt n k) ∧ dot w (bitPt n k) ≤ 36 := by
 have := dot_bd 9 1 (by omega) (by omega) w (bitPt n k) hw (bitPt_in n k)
 omega
theorem productsOf_l0 (n : Nat) (hn : n ≤ 4) (w : List Int) (hw : ∀ x ∈ w, -9 ≤ x ∧ x ≤ 9) (hl : w.length = n) : ∀ (d c : Nat) (out : List Int), c + d = 2 ^ n → out.length = c →
  Ev (fun k => impl_productsOf.l0 k (n : Int) w out ((2 ^ n : Nat) : Int) (c : Int)) (out ++ (List.range' c d).map fun k => dot w (bitPt n k)) := by
 have hp := pow4 n hn
 intro d
 induction d with
 | zero =>
  intro c out hc ho
  exact Ev.step (fun k => impl_productsOf.l0.eq_2 ..) (evn (by omega) (evs (by simp)))
 | succ d ih =>
  intro c out hc ho
  refine Ev.step (fun k => impl_productsOf.l0.eq_2 ..) (evp (by omega) ?_)
  rw [w64s c (by omega)]
  refine evb (bitPoint n c (by omega) (by omega)) (evb (product w _ 9 1 (by omega) (by omega) hw (bitPt_in n c) (by omega) (by rw [bitPt_len]; omega)) (evp (by omega) ?_))
  refine evr (ih (c + 1) _ (by omega) (by simp; omega)) ?_
  simp [List.range'_succ]
theorem productsOf (n : Nat) (hn : n ≤ 4) (w : List Int) (hw : ∀ x ∈ w, -9 ≤ x ∧ x ≤ 9) (hl : w.length = n) : Ev (fun k => impl_productsOf.f k (n : Int) w) (prods n w) := by
 unfold impl_productsOf.f prods
 have hp := pow4 n hn
 refine evp (by omega) ?_
 rw [shl1 n (by omega)]
 refine evr (productsOf_l0 n hn w hw hl (2 ^ n) 0 [] (by omega) rfl) ?_
 rw [List.range_eq_range']; rfl
def gp (t p : List Int) : Nat → Int × Int
 | 0 => (1000000000, -1000000000)
 | i + 1 => if t.getD i 0 = 1 then (mn (gp t p i).1 (p.getD i 0), (gp t p i).2) else ((gp t p i).1, mx (gp t p i).2 (p.getD i 0))
theorem gap_l0 (t p : List Int) (hl : t.length = p.length) (hx : t.length ≤ 1048576) : ∀ (d i : Nat), i + d = t.length → Ev (fun k => impl_gap.l0 k p (gp t p i).1 (gp t p i).2 t (t.length : Int) (i : Int)) (gp t p t.length) := by
 intro d
 induction d with
 | zero =>
  intro i hi
  refine Ev.step (fun k => impl_gap.l0.eq_2 ..) (evn (by omega) (evs ?_))
  rw [show i = t.length by omega]
 | succ d ih =>
  intro i hi
  have h := ih (i + 1) (by omega)
  simp only [gp] at h
  refine Ev.step (fun k => impl_gap.l0.eq_2 ..) (evp (by omega) (evp (by omega) (evp (by omega) ?_)))
  rw [rd_nat, rd_nat, w64s i (by omega)]
  by_cases e : t.getD i 0 = 1
  ·
   rw [if_pos e] at h
   exact evp e (evp (by omega) h)
  ·
   rw [if_neg e] at h
   exact evn e (evp (by omega) h)
theorem gap (t p : List Int) (hl : t.length = p.length) (hx : t.length ≤ 1048576) : Ev (fun k => impl_gap.f k t p) (gp t p t.length) := by
 unfold impl_gap.f
 exact gap_l0 t p hl hx t.length 0 (by omega)
theorem gp_bd (t p : List Int) (B : Int) (hB : 0 ≤ B ∧ B ≤ 100000) (hp : ∀ i, -B ≤ p.getD i 0 ∧ p.getD i 0 ≤ B) : ∀ i, ((gp t p i).1 = 1000000000 ∨ -B ≤ (gp t p i).1 ∧ (gp t p i).1 ≤ B) ∧ ((gp t p i).2 = -1000000000 ∨ -B ≤ (gp t p i).2 ∧ (gp t p i).2 ≤ B) := by
 intro i
 induction i with
 | zero => exact ⟨.inl rfl, .inl rfl⟩
 | succ i ih =>
  have := hp i
  simp only [gp, mn, mx]
  split
  ·
   refine ⟨.inr ?_, ih.2⟩
   simp only
   split <;> omega
  ·
   refine ⟨ih.1, .inr ?_⟩
   simp only
   split <;> omega
def CurOk (l : List Int) : Prop := (l.length : Int) ≤ 65536 ∧ ∀ x ∈ l, 0 ≤ x ∧ x ≤ 255
theorem cur_ok (l : List Int) (hl : (l.length : Int) ≤ 65536) (hb : ∀ x ∈ l, (Lit.int .u8 x).wf = true) : CurOk l := by
 refine ⟨hl, fun x hx => ?_⟩
 have := hb x hx
 simp only [Lit.wf, Bool.and_eq_true, decide_eq_true_eq, IntKind.min, IntKind.max, IntKind.signed, IntKind.bits] at this
 simp at this
 omega
theorem cur_and (y : Int) (h0 : 0 ≤ y) (h1 : y < 18446744073709551616) : 0 ≤ Go.bits .and .u64 (y / 1099511627776) 255 ∧ Go.bits .and .u64 (y / 1099511627776) 255 ≤ 255 := by
 obtain ⟨n, hn⟩ := Int.eq_ofNat_of_zero_le (show 0 ≤ y / 1099511627776 by omega)
 have hn2 : n < 2 ^ 64 := by omega
 have h := (bits_nat .u64 64 (by decide) (fun n h₀ h₁ => by rw [show IntKind.u64.wrap n = n % 18446744073709551616 by simp [IntKind.wrap, IntKind.bits, IntKind.signed]]; omega) n 255 hn2 (by decide)).1
 rw [hn, show (255 : Int) = ((255 : Nat) : Int) from rfl, h]
 have := @Nat.and_le_right n 255
 omega
theorem cur_u64 (z : Int) : 0 ≤ IntKind.u64.wrap z ∧ IntKind.u64.wrap z < 18446744073709551616 := by
 rw [show IntKind.u64.wrap z = z % 18446744073709551616 by simp [IntKind.wrap, IntKind.bits, IntKind.signed]]; omega
theorem cnext {l : List Int} (hl : CurOk l) (p s : Int) (hp : 0 ≤ p ∧ p ≤ 1000000) : ∃ x s', spec_l1Cur_next.f l p s = some (x, p + 1, s') ∧ 0 ≤ x ∧ x ≤ 255 := by
 have hr : 0 ≤ rd l p ∧ rd l p ≤ 255 := by
  obtain ⟨j, rfl⟩ := Int.eq_ofNat_of_zero_le hp.1
  rw [rd_nat]
  by_cases hj : j < l.length
  ·
   rw [List.getD_eq_getElem?_getD, List.getElem?_eq_getElem hj]; exact hl.2 _ (List.getElem_mem hj)
  ·
   rw [List.getD_eq_getElem?_getD, List.getElem?_eq_none (by omega)]; decide
 have ew : wrap64 (p + 1) = p + 1 := w64 (by omega) (by omega)
 have hw : ∀ z : Int, ∃ x s', (some (wrap64 (Go.bits .and .u64 ((IntKind.u64.wrap z) / 1099511627776) 255), p + 1, IntKind.u64.wrap z) : Option (Int × Int × Int)) = some (x, p + 1, s') ∧ 0 ≤ x ∧ x ≤ 255 := by
  intro z
  have h := cur_u64 z
  have h2 := cur_and _ h.1 h.2
  refine ⟨_, _, rfl, ?_⟩
  rw [w64 (by omega) (by omega)]; exact h2
 unfold spec_l1Cur_next.f
 rw [ew]
 by_cases h : p < (l.length : Int)
 ·
  rw [if_pos h, if_pos hp.1]
  by_cases h2 : p + 1 ≤ (l.length : Int)
  ·
   rw [if_pos h2]
   refine ⟨_, _, rfl, ?_⟩
   rw [w64 (by omega) (by omega)]; exact hr
  ·
   omega
 ·
  rw [if_neg h, if_neg (by omega)]
  exact hw _
theorem cur_tmod (x n : Int) (hx : 0 ≤ x) (hn : 0 < n) : 0 ≤ Int.tmod x n ∧ Int.tmod x n < n := by
 rw [Int.tmod_eq_emod_of_nonneg hx]
 exact ⟨Int.emod_nonneg _ (by omega), Int.emod_lt_of_pos _ hn⟩
theorem cpick {l : List Int} (hl : CurOk l) (p s n : Int) (hp : 0 ≤ p ∧ p ≤ 900000) : ∃ x p' s', spec_l1Cur_pick.f l p s n = some (x, p', s') ∧ 0 ≤ x ∧ (x < n ∨ n ≤ 1 ∧ x = 0) ∧ p ≤ p' ∧ p' ≤ p + 2 := by
 unfold spec_l1Cur_pick.f
 by_cases h1 : n ≤ 1
 ·
  rw [if_pos h1]; exact ⟨0, p, s, rfl, Int.le_refl _, .inr ⟨h1, rfl⟩, by omega, by omega⟩
 ·
  rw [if_neg h1]
  obtain ⟨x, s1, e, hx0, hx1⟩ := cnext hl p s (by omega)
  rw [e]; simp only [Option.bind_some]
  by_cases h2 : n > 200
  ·
   rw [if_pos h2]
   obtain ⟨y, s2, e2, hy0, hy1⟩ := cnext hl (p + 1) s1 (by omega)
   rw [e2]; simp only [Option.bind_some]
   rw [if_neg (by omega), w64 (x := x * 256) (by omega) (by omega), w64 (by omega) (by omega)]
   have := cur_tmod (x * 256 + y) n (by omega) (by omega)
   exact ⟨_, _, _, rfl, this.1, .inl this.2, by omega, by omega⟩
  ·
   rw [if_neg h2, if_neg (by omega)]
   have := cur_tmod x n hx0 (by omega)
   exact ⟨_, _, _, rfl, this.1, .inl this.2, by omega, by omega⟩
theorem cone {l : List Int} (hl : CurOk l) (p s n : Int) (hp : 0 ≤ p ∧ p ≤ 900000) : ∃ b p' s', spec_l1Cur_one.f l p s n = some (b, p', s') ∧ p ≤ p' ∧ p' ≤ p + 2 := by
 obtain ⟨x, p', s', e, _, _, h1, h2⟩ := cpick hl p s n hp
 unfold spec_l1Cur_one.f
 rw [e]; exact ⟨_, _, _, rfl, h1, h2⟩
theorem camong {l : List Int} (hl : CurOk l) (p s : Int) (xs : List Int) (hx : xs ≠ []) (hp : 0 ≤ p ∧ p ≤ 900000) : ∃ x p' s', spec_l1Cur_among.f l p s xs = some (x, p', s') ∧ x ∈ xs ∧ p ≤ p' ∧ p' ≤ p + 2 := by
 have hlen : 0 < xs.length := List.length_pos_iff.2 hx
 obtain ⟨x, p', s', e, h0, h1, h2, h3⟩ := cpick hl p s (xs.length : Int) hp
 have hlt : x < (xs.length : Int) := by omega
 unfold spec_l1Cur_among.f
 rw [e]; simp only [Option.bind_some]
 rw [if_pos h0, if_pos hlt]
 refine ⟨_, _, _, rfl, ?_, h2, h3⟩
 obtain ⟨j, rfl⟩ := Int.eq_ofNat_of_zero_le h0
 rw [rd_nat, List.getD_eq_getElem?_getD, List.getElem?_eq_getElem (show j < xs.length by omega)]
 exact List.getElem_mem _
theorem l1Most (a b : Int) : spec_l1Most.f a b = some (if a > b then a else b) := by unfold spec_l1Most.f; split <;> rfl
theorem vInts_l0 (a b : List Int) (hl : a.length = b.length) (hx : a.length ≤ 1048576) : ∀ (d i : Nat), i + d = a.length → Ev (fun k => laws_vInts.l0 k a b (i : Int)) (decide (a.drop i = b.drop i)) := by
 intro d
 induction d with
 | zero =>
  intro i hi
  refine Ev.step (fun k => laws_vInts.l0.eq_2 ..) (evn (by omega) (evs ?_))
  simp [List.drop_of_length_le (show a.length ≤ i by omega), List.drop_of_length_le (show b.length ≤ i by omega)]
 | succ d ih =>
  intro i hi
  refine Ev.step (fun k => laws_vInts.l0.eq_2 ..) (evp (by omega) (evp (by omega) (evp (by omega) ?_)))
  rw [w64s i (by omega), rd_nat, rd_nat, List.drop_eq_getElem_cons (show i < a.length by omega), List.drop_eq_getElem_cons (show i < b.length by omega)]
  have ea : a.getD i 0 = a[i] := by rw [List.getD_eq_getElem?_getD, List.getElem?_eq_getElem (show i < a.length by omega)]; rfl
  have eb : b.getD i 0 = b[i] := by rw [List.getD_eq_getElem?_getD, List.getElem?_eq_getElem (show i < b.length by omega)]; rfl
  rw [ea, eb]
  by_cases e : a[i] = b[i]
  ·
   refine evp e (evr (ih (i + 1) (by omega)) ?_)
   rw [e]; simp only [List.cons.injEq, true_and]
  ·
   refine evn e (evs ?_)
   simp only [List.cons.injEq, e, false_and, decide_false]
theorem vInts (a b : List Int) (hx : a.length ≤ 1048576) : Ev (fun k => laws_vInts.f k a b) (decide (a = b)) := by
 unfold laws_vInts.f
 by_cases h : a.length = b.length
 ·
  refine evp (by omega) (evr (vInts_l0 a b h hx a.length 0 (by omega)) (by simp))
 ·
  refine evn (by omega) (evs ?_)
  have : a ≠ b := fun e => h (by rw [e])
  simp [this]
theorem cplane_l0 {l : List Int} (hl : CurOk l) (n : Nat) (m : Int) (hm : 1 ≤ m ∧ m ≤ 20) (hn : n ≤ 9) : ∀ (d i : Nat) (p s : Int) (v : List Int), i + d = n → v.length = i → 0 ≤ p ∧ p + 2 * d ≤ 700000 →
  ∃ r, Ev (fun k => spec_l1Cur_plane.l0 k (n : Int) m (i : Int) l p s v 0) r ∧ (n ≤ r.1.length ∧ r.1.length ≤ n + 1) ∧ p ≤ r.2.2.1 ∧ r.2.2.1 ≤ p + 2 * d + 10 := by
 intro d
 induction d with
 | zero =>
  intro i p s v hi hv hp
  obtain ⟨x, p1, s1, e1, _, _, g1, g2⟩ := cpick hl p s (wrap64 ((wrap64 (2 * m)) + 3)) (by omega)
  obtain ⟨y, p2, s2, e2, h0, h1, g3, g4⟩ := cpick hl p1 s1 60 (by omega)
  by_cases c0 : y = 0
  ·
   obtain ⟨z, p3, s3, e3, _, g5, g6⟩ := camong hl p2 s2 [99, -99, 100, -100, 4611686018427387904] (by simp) (by omega)
   exact ⟨_, Ev.step (fun k => spec_l1Cur_plane.l0.eq_2 ..) (evn (by omega) (evb (evc e1) (evb (evc e2) (evp c0 (evb (evc e3) (evs rfl)))))), by simp only; omega, by simp only; omega, by simp only; omega⟩
  by_cases c1 : y = 1
  ·
   by_cases c : (n : Int) > 0
   ·
    obtain ⟨z, p3, s3, e3, z0, z1, g5, g6⟩ := cpick hl p2 s2 (n : Int) (by omega)
    obtain ⟨u, p4, s4, e4, _, g7, g8⟩ := camong hl p3 s3 [99, -99, 100, -100] (by simp) (by omega)
    exact ⟨_, Ev.step (fun k => spec_l1Cur_plane.l0.eq_2 ..) (evn (by omega) (evb (evc e1) (evb (evc e2) (evn c0 (evp c1 (evp c (evb (evc e3) (evb (evc e4) (evp z0 (evp (by simp only; omega) (evs rfl))))))))))), by simp only [List.length_set]; omega, by simp only; omega, by simp only; omega⟩
   ·
    exact ⟨_, Ev.step (fun k => spec_l1Cur_plane.l0.eq_2 ..) (evn (by omega) (evb (evc e1) (evb (evc e2) (evn c0 (evp c1 (evn c (evs rfl))))))), by simp only; omega, by simp only; omega, by simp only; omega⟩
  by_cases c2 : y = 2
  ·
   exact ⟨_, Ev.step (fun k => spec_l1Cur_plane.l0.eq_2 ..) (evn (by omega) (evb (evc e1) (evb (evc e2) (evn c0 (evn c1 (evp c2 (evp (by omega) (evs rfl)))))))), by simp; omega, by simp only; omega, by simp only; omega⟩
  ·
   exact ⟨_, Ev.step (fun k => spec_l1Cur_plane.l0.eq_2 ..) (evn (by omega) (evb (evc e1) (evb (evc e2) (evn c0 (evn c1 (evn c2 (evs rfl))))))), by simp only; omega, by simp only; omega, by simp only; omega⟩
 | succ d ih =>
  intro i p s v hi hv hp
  obtain ⟨x, p1, s1, e1, _, _, g1, g2⟩ := cpick hl p s (wrap64 ((wrap64 (2 * m)) + 1)) (by omega)
  obtain ⟨r, hr, h1, h2, h3⟩ := ih (i + 1) p1 s1 (v ++ [wrap64 (x - m)]) (by omega) (by simp; omega) (by omega)
  refine ⟨r, Ev.step (fun k => spec_l1Cur_plane.l0.eq_2 ..) (evp (by omega) (evb (evc e1) (evp (by omega) ?_))), h1, by omega, by omega⟩
  simp only
  rw [w64s i (by omega)]; exact hr
theorem cplane {l : List Int} (hl : CurOk l) (p s : Int) (n : Nat) (hn : n ≤ 9) (hp : 0 ≤ p ∧ p ≤ 600000) : ∃ r, Ev (fun k => spec_l1Cur_plane.f k l p s (n : Int)) r ∧ (n ≤ r.1.length ∧ r.1.length ≤ n + 1) ∧ p ≤ r.2.2.1 ∧ r.2.2.1 ≤ p + 30 := by
 obtain ⟨m, p1, s1, e1, hm, g1, g2⟩ := camong hl p s [1, 3, 5, 20] (by simp) (by omega)
 have hm2 : 1 ≤ m ∧ m ≤ 20 := by simp at hm; omega
 obtain ⟨r, hr, h1, h2, h3⟩ := cplane_l0 hl n m hm2 hn n 0 p1 s1 [] (by omega) rfl (by omega)
 unfold spec_l1Cur_plane.f
 exact ⟨r, evb (evc e1) hr, h1, by omega, by omega⟩
theorem ctable_j3 {l : List Int} (hl : CurOk l) (t : List Int) (p s : Int) (ht : 1 ≤ t.length ∧ t.length ≤ 100) (hp : 0 ≤ p ∧ p ≤ 700000) : ∃ r, Ev (fun k => spec_l1Cur_table.j3 k t l p s) r ∧ (t.length ≤ r.1.length ∧ r.1.length ≤ t.length + 1) ∧ p ≤ r.2.1 ∧ r.2.1 ≤ p + 10 := by
 obtain ⟨b, p1, s1, e1, g1, g2⟩ := cone hl p s 40 (by omega)
 by_cases c : b = true
 ·
  obtain ⟨x, p2, s2, e2, h0, h1, g3, g4⟩ := cpick hl p1 s1 (t.length : Int) (by omega)
  obtain ⟨y, p3, s3, e3, _, g5, g6⟩ := camong hl p2 s2 [2, -1] (by simp) (by omega)
  obtain ⟨b2, p4, s4, e4, g7, g8⟩ := cone hl p3 s3 40 (by omega)
  by_cases c2 : b2 = true
  ·
   exact ⟨_, Ev.step (fun k => spec_l1Cur_table.j3.eq_2 ..) (evb (evc e1) (evp c (evb (evc e2) (evb (evc e3) (evp h0 (evp (by simp only; omega) (evb (evs rfl) (evb (evc e4) (evp c2 (evp (by simp only [List.length_set]; omega) (evs rfl))))))))))), by simp, by simp only; omega, by simp only; omega⟩
  ·
   exact ⟨_, Ev.step (fun k => spec_l1Cur_table.j3.eq_2 ..) (evb (evc e1) (evp c (evb (evc e2) (evb (evc e3) (evp h0 (evp (by simp only; omega) (evb (evs rfl) (evb (evc e4) (evn c2 (evs rfl)))))))))), by simp, by simp only; omega, by simp only; omega⟩
 ·
  obtain ⟨b2, p4, s4, e4, g7, g8⟩ := cone hl p1 s1 40 (by omega)
  by_cases c2 : b2 = true
  ·
   exact ⟨_, Ev.step (fun k => spec_l1Cur_table.j3.eq_2 ..) (evb (evc e1) (evn c (evb (evc e4) (evp c2 (evp (by omega) (evs rfl)))))), by simp, by simp only; omega, by simp only; omega⟩
  ·
   exact ⟨_, Ev.step (fun k => spec_l1Cur_table.j3.eq_2 ..) (evb (evc e1) (evn c (evb (evc e4) (evn c2 (evs rfl))))), by simp, by simp only; omega, by simp only; omega⟩
theorem ctable_l0 {l : List Int} (hl : CurOk l) (n : Nat) (hn : n ≤ 5) : ∀ (d i : Nat) (p s : Int) (t : List Int), i + d = 2 ^ n → t.length = i → 0 ≤ p ∧ p + 2 * d ≤ 650000 →
  ∃ r, Ev (fun k => spec_l1Cur_table.l0 k (n : Int) t (i : Int) l p s) r ∧ r.1.length ≤ 40 ∧ p ≤ r.2.1 ∧ r.2.1 ≤ p + 2 * d + 10 := by
 have h2 : 1 ≤ 2 ^ n ∧ 2 ^ n ≤ 32 := ⟨Nat.two_pow_pos n, Nat.pow_le_pow_right (n := 2) (by decide) hn⟩
 intro d
 induction d with
 | zero =>
  intro i p s t hi ht hp
  obtain ⟨r, hr, h3, h4, h5⟩ := ctable_j3 hl t p s (by omega) (by omega)
  refine ⟨r, Ev.step (fun k => spec_l1Cur_table.l0.eq_2 ..) (evp (by omega) (evn ?_ hr)), by omega, by omega, by omega⟩
  rw [shl1 n (by omega)]; omega
 | succ d ih =>
  intro i p s t hi ht hp
  obtain ⟨x, p1, s1, e1, _, _, g1, g2⟩ := cpick hl p s 2 (by omega)
  obtain ⟨r, hr, h3, h4, h5⟩ := ih (i + 1) p1 s1 (t ++ [x]) (by omega) (by simp; omega) (by omega)
  refine ⟨r, Ev.step (fun k => spec_l1Cur_table.l0.eq_2 ..) (evp (by omega) (evp ?_ (evb (evc e1) (evp (by omega) ?_)))), h3, by omega, by omega⟩
  ·
   rw [shl1 n (by omega)]; omega
  ·
   simp only
   rw [w64s i (by omega)]; exact hr
theorem ctable_j1 {l : List Int} (hl : CurOk l) (n : Nat) (hn : n ≤ 5) (b : Bool) (p s : Int) (w : List Int) (q : Int) (hw : b = true → planeB w q = true ∧ w.length = n) (hp : 0 ≤ p ∧ p ≤ 600000) :
  ∃ r, Ev (fun k => spec_l1Cur_table.j1 k (n : Int) [] b l p s w q) r ∧ r.1.length ≤ 40 ∧ p ≤ r.2.1 ∧ r.2.1 ≤ p + 100 := by
 have h2 : 1 ≤ 2 ^ n ∧ 2 ^ n ≤ 32 := ⟨Nat.two_pow_pos n, Nat.pow_le_pow_right (n := 2) (by decide) hn⟩
 by_cases c : b = true
 ·
  obtain ⟨h1, h3⟩ := hw c
  have hP := (planeB_iff w q).1 h1
  have h4 := hP.1
  have ht := l2TableOf n (by omega) w q 99 (by omega) hP.2.1 (by omega)
  have hl2 := tabOf_len n w q
  obtain ⟨r, hr, h5, h6, h7⟩ := ctable_j3 hl (tabOf n w q) p s (by omega) (by omega)
  exact ⟨r, Ev.step (fun k => spec_l1Cur_table.j1.eq_2 ..) (evp c (evb ht hr)), by omega, by omega, by omega⟩
 ·
  obtain ⟨r, hr, h5, h6, h7⟩ := ctable_l0 hl n hn (2 ^ n) 0 p s [] (by omega) rfl (by omega)
  exact ⟨r, Ev.step (fun k => spec_l1Cur_table.j1.eq_2 ..) (evn c hr), by omega, by omega, by omega⟩
theorem ctable {l : List Int} (hl : CurOk l) (p s n : Int) (hp : 0 ≤ p ∧ p ≤ 500000) : ∃ r, Ev (fun k => spec_l1Cur_table.f k l p s n) r ∧ r.1.length ≤ 40 ∧ p ≤ r.2.1 ∧ r.2.1 ≤ p + 200 := by
 unfold spec_l1Cur_table.f
 have h0 : ∃ r, Ev (fun k => spec_l1Cur_table.j0 k n [] true l p s) r ∧ r.1.length ≤ 40 ∧ p ≤ r.2.1 ∧ r.2.1 ≤ p + 200 :=
  ⟨_, Ev.step (fun k => spec_l1Cur_table.j0.eq_2 ..) (evp rfl (evs rfl)), by simp, by simp only; omega, by simp only; omega⟩
 by_cases c1 : n < 0
 ·
  obtain ⟨r, hr, h⟩ := h0
  exact ⟨r, evb (evs rfl) (evp c1 hr), h⟩
 by_cases c2 : n > 5
 ·
  obtain ⟨r, hr, h⟩ := h0
  exact ⟨r, evb (evs rfl) (evn c1 (by rw [decide_eq_true c2]; exact hr)), h⟩
 obtain ⟨m, rfl⟩ := Int.eq_ofNat_of_zero_le (show 0 ≤ n by omega)
 obtain ⟨v, hv, h1, h2, h3⟩ := cplane hl p s m (by omega) (by omega)
 have hj : ∃ r, Ev (fun k => spec_l1Cur_table.j0 k (m : Int) [] false l p s) r ∧ r.1.length ≤ 40 ∧ p ≤ r.2.1 ∧ r.2.1 ≤ p + 200 := by
  have hno := ctable_j1 hl m (by omega) false v.2.2.1 v.2.2.2 v.1 v.2.1 (fun h => by cases h) (by omega)
  by_cases c3 : (m : Int) > 0
  ·
   by_cases c4 : planeB v.1 v.2.1 = true
   ·
    by_cases c5 : (v.1.length : Int) = (m : Int)
    ·
     obtain ⟨b, p1, s1, e1, g1, g2⟩ := cone hl v.2.2.1 v.2.2.2 2 (by omega)
     obtain ⟨r, hr, h4, h5, h6⟩ := ctable_j1 hl m (by omega) b p1 s1 v.1 v.2.1 (fun _ => ⟨c4, by omega⟩) (by omega)
     exact ⟨r, Ev.step (fun k => spec_l1Cur_table.j0.eq_2 ..) (evn (by simp) (evb hv (evp c3 (evb (l2Plane _ _ (by omega)) (evp c4 (evp c5 (evb (evc e1) hr))))))), h4, by omega, by omega⟩
    ·
     obtain ⟨r, hr, h4, h5, h6⟩ := hno
     exact ⟨r, Ev.step (fun k => spec_l1Cur_table.j0.eq_2 ..) (evn (by simp) (evb hv (evp c3 (evb (l2Plane _ _ (by omega)) (evp c4 (evn c5 hr)))))), h4, by omega, by omega⟩
   ·
    obtain ⟨r, hr, h4, h5, h6⟩ := hno
    exact ⟨r, Ev.step (fun k => spec_l1Cur_table.j0.eq_2 ..) (evn (by simp) (evb hv (evp c3 (evb (l2Plane _ _ (by omega)) (evn c4 hr))))), h4, by omega, by omega⟩
  ·
   obtain ⟨r, hr, h4, h5, h6⟩ := hno
   exact ⟨r, Ev.step (fun k => spec_l1Cur_table.j0.eq_2 ..) (evn (by simp) (evb hv (evn c3 hr))), h4, by omega, by omega⟩
 obtain ⟨r, hr, h⟩ := hj
 exact ⟨r, evb (evs rfl) (evn c1 (by rw [decide_eq_false c2]; exact hr)), h⟩
def gpv (n : Nat) (t w : List Int) : Int × Int := gp t (prods n w) t.length
def pick (n : Nat) (t : List Int) (o : Option (List Int)) (v : List Int) : Option (List Int) :=
 if (o.all fun b => decide (impl_leastPlane.sz v < impl_leastPlane.sz b)) && decide ((gpv n t v).1 > (gpv n t v).2) then some v else o
def lp (n : Nat) (t : List Int) : Option (List Int) := (wts 3 n).foldl (pick n t) none
def bnd (n : Nat) (t v : List Int) : Int := if (gpv n t v).1 = 1000000000 then (gpv n t v).2 + 1 else (gpv n t v).1
def lpS (n : Nat) (t : List Int) : Option (List Int) → List Int × Int × Int
 | none => ([], 0, 1000000000)
 | some v => (v, bnd n t v, impl_leastPlane.sz v)
def okw (n : Nat) (v : List Int) : Prop := v.length = n ∧ ∀ x ∈ v, -9 ≤ x ∧ x ≤ 9
theorem okw_sz {n : Nat} {v : List Int} (hn : n ≤ 4) (h : okw n v) : 0 ≤ impl_leastPlane.sz v ∧ impl_leastPlane.sz v ≤ 36 := by
 have := impl_leastPlane.sz_bd 9 v h.2
 have := h.1
 omega
theorem wts_okw (n : Nat) : ∀ v ∈ wts 3 n, okw n v := fun v hv => ⟨wts_len 3 n v hv, fun x hx => by have := wts_bd 3 n v hv x hx; omega⟩
theorem pick_okw {n : Nat} {t : List Int} {o : Option (List Int)} {v : List Int} (ho : ∀ b, o = some b → okw n b) (hv : okw n v) : ∀ b, pick n t o v = some b → okw n b := by
 intro b h
 unfold pick at h
 split at h
 ·
  cases h; exact hv
 ·
  exact ho b h
theorem gpv_bd {n : Nat} (hn : n ≤ 4) {t v : List Int} (hv : okw n v) : ((gpv n t v).1 = 1000000000 ∨ -36 ≤ (gpv n t v).1 ∧ (gpv n t v).1 ≤ 36) ∧ ((gpv n t v).2 = -1000000000 ∨ -36 ≤ (gpv n t v).2 ∧ (gpv n t v).2 ≤ 36) := by
 refine gp_bd t (prods n v) 36 (by omega) (fun i => ?_) t.length
 by_cases h : i < 2 ^ n
 ·
  rw [prods_at n v i h]; exact dot_small n v hn hv.2 hv.1 i
 ·
  rw [List.getD_eq_getElem?_getD, List.getElem?_eq_none (by rw [prods_len]; omega)]; simp
theorem step_pick (n : Nat) (hn : n ≤ 4) (t : List Int) (ht : t.length = 2 ^ n) (o : Option (List Int)) (v : List Int) (ho : ∀ b, o = some b → okw n b) (hv : okw n v) :
  Ev (fun k => impl_leastPlane.step k t (n : Int) (lpS n t o) v) (lpS n t (pick n t o v)) := by
 have hp := pow4 n hn
 have hz := okw_sz hn hv
 have hg := gpv_bd (t := t) hn hv
 unfold impl_leastPlane.step pick
 by_cases c : impl_leastPlane.sz v ≥ (lpS n t o).2.2
 ·
  refine evp c (evs ?_)
  cases o with
  | none => simp only [lpS] at c; omega
  | some b =>
   simp only [lpS] at c
   rw [show (Option.all (fun b => decide (impl_leastPlane.sz v < impl_leastPlane.sz b)) (some b)) = false by simp; omega, Bool.false_and]; rfl
 ·
  refine evn c (evb (productsOf n hn v hv.2 hv.1) (evb (gap t _ (by rw [prods_len, ht]) (by omega)) ?_))
  have ha : (o.all fun b => decide (impl_leastPlane.sz v < impl_leastPlane.sz b)) = true := by
   cases o with
   | none => rfl
   | some b => simp only [lpS] at c; simp; omega
  rw [ha, Bool.true_and]
  show Ev (fun k => if (gpv n t v).1 ≤ (gpv n t v).2 then _ else _) _
  by_cases c2 : (gpv n t v).1 ≤ (gpv n t v).2
  ·
   exact evp c2 (evs (by rw [decide_eq_false (by omega)]; rfl))
  ·
   refine evn c2 (evb (evc (copied v (by have := hv.1; omega))) (evs ?_))
   rw [decide_eq_true (by omega), if_pos rfl]
   show (v, (if (gpv n t v).1 = 1000000000 then wrap64 ((gpv n t v).2 + 1) else (gpv n t v).1), impl_leastPlane.sz v) = (v, bnd n t v, impl_leastPlane.sz v)
   unfold bnd
   by_cases c3 : (gpv n t v).1 = 1000000000
   ·
    rw [if_pos c3, if_pos c3, w64 (by omega) (by omega)]
   ·
    rw [if_neg c3, if_neg c3]
theorem fold_pick (n : Nat) (hn : n ≤ 4) (t : List Int) (ht : t.length = 2 ^ n) : ∀ (L : List (List Int)) (o : Option (List Int)), (∀ v ∈ L, okw n v) → (∀ b, o = some b → okw n b) →
  Ev (fun k => L.foldlM (impl_leastPlane.step k t (n : Int)) (lpS n t o)) (lpS n t (L.foldl (pick n t) o)) := by
 intro L
 induction L with
 | nil => intro o _ _; exact evs rfl
 | cons v L ih =>
  intro o hL ho
  simp only [List.foldlM_cons, List.foldl_cons]
  exact evb (step_pick n hn t ht o v ho (hL v (by simp))) (ih _ (fun x hx => hL x (by simp [hx])) (pick_okw ho (hL v (by simp))))
theorem fold_okw (n : Nat) (t : List Int) : ∀ (L : List (List Int)) (o : Option (List Int)), (∀ v ∈ L, okw n v) → (∀ b, o = some b → okw n b) → ∀ b, L.foldl (pick n t) o = some b → okw n b := by
 intro L
 induction L with
 | nil => intro o _ ho; exact ho
 | cons v L ih => intro o hL ho; exact ih _ (fun x hx => hL x (by simp [hx])) (pick_okw ho (hL v (by simp)))
theorem lp_okw (n : Nat) (t : List Int) : ∀ b, lp n t = some b → okw n b := fold_okw n t _ _ (wts_okw n) (fun b h => by cases h)
theorem leastPlane (n : Nat) (hn : n ≤ 4) (t : List Int) (ht : t.length = 2 ^ n) : Ev (fun k => impl_leastPlane.f k (n : Int) t) ((lpS n t (lp n t)).1, (lpS n t (lp n t)).2.1, (lpS n t (lp n t)).2.2, (lp n t).isSome) := by
 unfold impl_leastPlane.f
 refine evp (by omega) ?_
 rw [Int.toNat_natCast]
 refine evb (fold_pick n hn t ht (wts 3 n) none (wts_okw n) (fun b h => by cases h)) (evs ?_)
 show ((lpS n t (lp n t)).1, (lpS n t (lp n t)).2.1, (lpS n t (lp n t)).2.2, _) = _
 have : decide ((lpS n t (lp n t)).2.2 < 1000000000) = (lp n t).isSome := by
  cases h : lp n t with
  | none => simp [lpS]
  | some v => have := okw_sz hn (lp_okw n t v h); exact decide_eq_true (show impl_leastPlane.sz v < 1000000000 by omega)
 exact congrArg (fun b => ((lpS n t (lp n t)).1, (lpS n t (lp n t)).2.1, (lpS n t (lp n t)).2.2, b)) this
theorem isTab_len' {n : Int} {l : List Int} (h : isTab n l = true) : ∃ m : Nat, n = m ∧ m ≤ 4 ∧ l.length = 2 ^ m ∧ l.length ≤ 16 := by
 obtain ⟨h1, h2, _⟩ := (isTab_iff n l).1 h
 refine ⟨n.toNat, by omega, by omega, h2, ?_⟩
 have := pow4 n.toNat (by omega)
 omega
def thrV (n : Int) (l : List Int) : Bool × Bool := if isTab n l = true then ((lp n.toNat l).isSome, true) else (false, false)
theorem lp_zero (t : List Int) (h : t.length = 1) : (lp 0 t).isSome = true := by
 have e : (gpv 0 t []).1 > (gpv 0 t []).2 := by
  unfold gpv
  rw [h]
  simp only [gp]
  have : (prods 0 []).getD 0 0 = 0 := by simp [prods, dot]
  rw [this]
  split <;> simp [mn, mx]
 simp only [lp, wts, List.foldl_cons, List.foldl_nil, pick, Option.all_none, Bool.true_and]
 rw [if_pos (by simpa using e)]; rfl
theorem iThr (n : Int) (l : List Int) (hl : l.length ≤ 1048576) : Ev (fun k => impl_IsThreshold.f k n l) (thrV n l) := by
 unfold impl_IsThreshold.f thrV
 refine evb (isTable n l (by omega)) ?_
 by_cases e : isTab n l = true
 ·
  obtain ⟨m, rfl, hm, hlen, _⟩ := isTab_len' e
  refine evp e ?_
  have hi : Ev (fun k => impl_isThreshold.f k (m : Int) l) (lp m l).isSome := by
   unfold impl_isThreshold.f
   by_cases h0 : (m : Int) = 0
   ·
    obtain rfl : m = 0 := by omega
    exact evp h0 (evs (lp_zero l (by simpa using hlen)).symm)
   ·
    exact evn h0 (evb (leastPlane m hm l hlen) (evs rfl))
  refine evb hi (evs ?_)
  rw [if_pos e, Int.toNat_natCast]
 ·
  exact evn e (evs (by rw [if_neg e]))
def planeV (n : Int) (l : List Int) : List Int × Int × Bool := if isTab n l = true ∧ n ≠ 0 then (match lp n.toNat l with | some v => (v, bnd n.toNat l v, true) | none => ([], 0, false)) else ([], 0, false)
theorem planeV_len (n : Int) (l : List Int) : (planeV n l).1.length ≤ 4 := by
 unfold planeV
 split
 ·
  rename_i e
  obtain ⟨m, rfl, hm, _⟩ := isTab_len' e.1
  cases h : lp m l with
  | none => simp [h]
  | some v => have := (lp_okw m l v h).1; simp [h]; omega
 ·
  simp
theorem iPlane (n : Int) (l : List Int) (hl : l.length ≤ 1048576) : Ev (fun k => impl_LeastPlane.f k n l) (planeV n l) := by
 unfold impl_LeastPlane.f
 by_cases h0 : n = 0
 ·
  refine evp h0 (Ev.step (fun k => impl_LeastPlane.j0.eq_2 ..) (evp rfl (evs ?_)))
  unfold planeV
  rw [if_neg (fun h => h.2 h0)]
 ·
  refine evn h0 (evb (isTable n l (by omega)) ?_)
  by_cases e : isTab n l = true
  ·
   obtain ⟨m, rfl, hm, hlen, _⟩ := isTab_len' e
   refine Ev.step (fun k => impl_LeastPlane.j0.eq_2 ..) (evn (by simp [e]) (evb (leastPlane m hm l hlen) ?_))
   rw [show planeV (m : Int) l = (match lp m l with | some v => (v, bnd m l v, true) | none => ([], 0, false)) by unfold planeV; rw [if_pos ⟨e, h0⟩, Int.toNat_natCast]]
   cases h : lp m l with
   | none => exact evn (by simp) (evs rfl)
   | some v => exact evp rfl (evs rfl)
  ·
   exact Ev.step (fun k => impl_LeastPlane.j0.eq_2 ..) (evp (by simp [e]) (evs (by unfold planeV; rw [if_neg (fun h => e h.1)])))
theorem gp_le (t p : List Int) : ∀ i j, j < i → (t.getD j 0 = 1 → (gp t p i).1 ≤ p.getD j 0) ∧ (t.getD j 0 ≠ 1 → p.getD j 0 ≤ (gp t p i).2) := by
 intro i
 induction i with
 | zero => intro j h; omega
 | succ i ih =>
  intro j hj
  simp only [gp]
  by_cases e : t.getD i 0 = 1
  ·
   rw [if_pos e]
   rcases Nat.lt_or_ge j i with h | h
   ·
    have := ih j h
    exact ⟨fun h1 => by have := this.1 h1; unfold mn; simp only; split <;> omega, this.2⟩
   ·
    obtain rfl : j = i := by omega
    exact ⟨fun _ => by unfold mn; simp only; split <;> omega, fun h => absurd e h⟩
  ·
   rw [if_neg e]
   rcases Nat.lt_or_ge j i with h | h
   ·
    have := ih j h
    exact ⟨this.1, fun h1 => by have := this.2 h1; unfold mx; simp only; split <;> omega⟩
   ·
    obtain rfl : j = i := by omega
    exact ⟨fun h => absurd h e, fun _ => by unfold mx; simp only; split <;> omega⟩
theorem fold_par (n : Nat) (t : List Int) : ∀ (L : List (List Int)) (o : Option (List Int)), (∀ b, o = some b → (gpv n t b).1 > (gpv n t b).2) → ∀ b, L.foldl (pick n t) o = some b → (gpv n t b).1 > (gpv n t b).2 := by
 intro L
 induction L with
 | nil => intro o ho; exact ho
 | cons v L ih =>
  intro o ho
  refine ih _ (fun b hb => ?_)
  unfold pick at hb
  split at hb
  ·
   rename_i e
   obtain rfl := Option.some.inj hb
   rw [Bool.and_eq_true] at e
   exact of_decide_eq_true e.2
  ·
   exact ho b hb
theorem lp_par {n : Nat} {t v : List Int} (h : lp n t = some v) (ht : t.length = 2 ^ n) : ∀ x y, x < 2 ^ n → y < 2 ^ n → t.getD x 0 = 1 → t.getD y 0 ≠ 1 → dot v (bitPt n y) < dot v (bitPt n x) := by
 intro x y hx hy h1 h0
 have hp := fold_par n t (wts 3 n) none (fun b h => by cases h) v h
 unfold gpv at hp
 have a := (gp_le t (prods n v) t.length x (by omega)).1 h1
 have b := (gp_le t (prods n v) t.length y (by omega)).2 h0
 rw [prods_at n v x hx] at a
 rw [prods_at n v y hy] at b
 omega
theorem bit_next1 : ∀ m, m < 5 → ∀ i, i < m → ∀ x, x < 2 ^ m → bit x i = 0 → x + 2 ^ i < 2 ^ m := by decide +kernel
theorem bit_next2 : ∀ m, m < 5 → ∀ i, i < m → ∀ x, x < 2 ^ m → bit x i = 0 → bitPt m (x + 2 ^ i) = (bitPt m x).set i 1 := by decide +kernel
theorem bit_next3 : ∀ m, m < 5 → ∀ i, i < m → ∀ x, x < 2 ^ m → bit x i = 0 → (bitPt m x).getD i 0 = 0 := by decide +kernel
theorem bit_next (m : Nat) (hm : m < 5) (i : Nat) (hi : i < m) (x : Nat) (hx : x < 2 ^ m) (hb : bit x i = 0) : x + 2 ^ i < 2 ^ m ∧ bitPt m (x + 2 ^ i) = (bitPt m x).set i 1 ∧ (bitPt m x).getD i 0 = 0 := ⟨bit_next1 m hm i hi x hx hb, bit_next2 m hm i hi x hx hb, bit_next3 m hm i hi x hx hb⟩
theorem bits_tell : ∀ m, m < 5 → ∀ a, a < 2 ^ m → ∀ b, b < 2 ^ m → (∀ i, i < m → bit a i = bit b i) → a = b := by decide +kernel
theorem dot_set : ∀ (v p : List Int) (i : Nat) (c : Int), i < v.length → i < p.length → dot v (p.set i c) = dot v p + v.getD i 0 * (c - p.getD i 0) := by
 intro v
 induction v with
 | nil => intro p i c h; simp at h
 | cons a v ih =>
  intro p i c h1 h2
  cases p with
  | nil => simp at h2
  | cons b p =>
   cases i with
   | zero => simp only [List.set_cons_zero, dot, List.getD_cons_zero]; rw [Int.mul_sub]; omega
   | succ i =>
    simp only [List.set_cons_succ, dot, List.getD_cons_succ]
    rw [ih p i c (by simpa using h1) (by simpa using h2)]; omega
theorem lp_grow {m : Nat} (hm : m ≤ 4) {t v : List Int} (h : lp m t = some v) (ht : t.length = 2 ^ m) (i : Nat) (hi : i < m) (x : Nat) (hx : x < 2 ^ m) (hb : bit x i = 0) :
  (t.getD x 0 ≠ 1 → t.getD (x + 2 ^ i) 0 = 1 → 0 < v.getD i 0) ∧ (t.getD x 0 = 1 → t.getD (x + 2 ^ i) 0 ≠ 1 → v.getD i 0 < 0) := by
 obtain ⟨b1, b2, b3⟩ := bit_next m (by omega) i hi x hx hb
 have hv := (lp_okw m t v h).1
 have hd : dot v (bitPt m (x + 2 ^ i)) = dot v (bitPt m x) + v.getD i 0 := by
  rw [b2, dot_set v _ i 1 (by omega) (by rw [bitPt_len]; exact hi), b3]; omega
 refine ⟨fun h0 h1 => ?_, fun h0 h1 => ?_⟩
 ·
  have := lp_par h ht (x + 2 ^ i) x b1 hx h1 h0; omega
 ·
  have := lp_par h ht x (x + 2 ^ i) hx b1 h0 h1; omega
theorem lp_signs {m : Nat} {t v : List Int} (hT : Tab m t) (h : lp m t = some v) (i : Nat) (hi : i < m) : (0 < losses t i → v.getD i 0 < 0) ∧ (0 < gains t i → 0 < v.getD i 0) := by
 have hm := hT.1
 have key : ∀ f : Nat → Int, (∀ k, 0 ≤ f k) → 0 < sumN f 0 t.length → ∃ k, k < t.length ∧ f k ≠ 0 := fun f hf h => by
  refine Classical.byContradiction fun hn => ?_
  have := (sumN_zero f hf t.length 0).2 (fun k _ hk => Classical.byContradiction fun e => hn ⟨k, by omega, e⟩)
  omega
 constructor
 ·
  intro hl
  obtain ⟨k, hk, e⟩ := key _ (fun k => (hT.lost i k).1) hl
  have hk2 : k < 2 ^ m := by rw [← hT.2.1]; exact hk
  unfold Base.lost at e
  have a := hT.at_ k; have b := hT.at_ (k + 2 ^ i)
  split at e
  ·
   exact absurd rfl e
  ·
   rename_i hb
   have hb0 : bit k i = 0 := by have := bit_lt k i; omega
   refine (lp_grow hm h hT.2.1 i hi k hk2 hb0).2 ?_ ?_
   ·
    refine Classical.byContradiction fun h1 => e ?_
    rw [show t.getD k 0 = 0 by omega, Int.zero_mul]
   ·
    intro h1; rw [h1] at e; exact e (by simp)
 ·
  intro hl
  obtain ⟨k, hk, e⟩ := key _ (fun k => (hT.won i k).1) hl
  have hk2 : k < 2 ^ m := by rw [← hT.2.1]; exact hk
  unfold Base.won at e
  have a := hT.at_ k; have b := hT.at_ (k + 2 ^ i)
  split at e
  ·
   exact absurd rfl e
  ·
   rename_i hb
   have hb0 : bit k i = 0 := by have := bit_lt k i; omega
   refine (lp_grow hm h hT.2.1 i hi k hk2 hb0).1 ?_ ?_
   ·
    intro h1; rw [h1] at e; exact e (by simp)
   ·
    refine Classical.byContradiction fun h1 => e ?_
    rw [show t.getD (k + 2 ^ i) 0 = 0 by omega, Int.zero_mul]
def cf (y j : Nat) : Int := if j = 0 then 1 else (bit y (j - 1) : Int)
def chF (l : List Int) (x j : Nat) : Int := sumN (fun y => l.getD y 0 * cf y j) 0 x
def chL (m : Nat) (l : List Int) (x : Nat) : List Int := (List.range (m + 1)).map (chF l x)
def chowV (n : Int) (l : List Int) : List Int × Bool := if isTab n l = true then (chL n.toNat l l.length, true) else ([], false)
theorem chL_len (m : Nat) (l : List Int) (x : Nat) : (chL m l x).length = m + 1 := by simp [chL]
theorem cf_01 (y j : Nat) : 0 ≤ cf y j ∧ cf y j ≤ 1 := by
 unfold cf; split
 ·
  omega
 ·
  have := bit_lt y (j - 1); omega
theorem chF_bd {m : Nat} {l : List Int} (h : Tab m l) (x j : Nat) : 0 ≤ chF l x j ∧ chF l x j ≤ x := by
 have := sumN_le (fun y => l.getD y 0 * cf y j) 1 (fun k => by
  have a := h.at_ k; have b := cf_01 k j
  generalize l.getD k 0 = u at *; generalize cf k j = v at *
  obtain rfl | rfl : u = 0 ∨ u = 1 := by omega
  all_goals omega) x 0
 unfold chF; omega
theorem chF_next (l : List Int) (x j : Nat) : chF l (x + 1) j = chF l x j + l.getD x 0 * cf x j := by
 unfold chF; rw [sumN_succ, Nat.zero_add]
theorem set_map (N : Nat) (F : Nat → Int) (j : Nat) (v : Int) : ((List.range N).map F).set j v = (List.range N).map (fun i => if i = j then v else F i) := by
 apply List.ext_getElem (by simp)
 intro i h1 h2
 simp only [List.getElem_set, List.getElem_map, List.getElem_range]
 by_cases e : j = i
 ·
  rw [if_pos e, if_pos e.symm]
 ·
  rw [if_neg e, if_neg (fun h => e h.symm)]
theorem rd_map (N : Nat) (F : Nat → Int) (j : Nat) (h : j < N) : rd ((List.range N).map F) (j : Int) = F j := by
 simp [rd, List.getD_eq_getElem?_getD, List.getElem?_map, List.getElem?_range h]
theorem map_same (N : Nat) (F G : Nat → Int) (h : ∀ j, j < N → F j = G j) : (List.range N).map F = (List.range N).map G := List.map_congr_left fun j hj => h j (List.mem_range.1 hj)
def chR (G : Nat → Int) (v : Int) (x i : Nat) : Nat → Int := fun j => if i + 1 ≤ j then G j + v * (bit x (j - 1) : Int) else G j
theorem chR_step' (G : Nat → Int) (v : Int) (x i : Nat) (j : Nat) : chR (fun j => if j = i + 1 then G (i + 1) + v * ((bit x i : Nat) : Int) else G j) v x (i + 1) j = chR G v x i j := by
 simp only [chR]
 by_cases h : j = i + 1
 ·
  rw [h, if_neg (by omega), if_pos rfl, if_pos (Nat.le_refl _)]; rfl
 ·
  rw [if_neg h]
  by_cases h2 : i + 1 + 1 ≤ j
  ·
   rw [if_pos h2, if_pos (by omega)]
  ·
   rw [if_neg h2, if_neg (by omega)]
theorem chR_next (l : List Int) (x j : Nat) : chR (fun i => if i = 0 then chF l x 0 + l.getD x 0 else chF l x i) (l.getD x 0) x 0 j = chF l (x + 1) j := by
 unfold chR
 rw [chF_next]
 unfold cf
 by_cases e0 : j = 0
 ·
  subst e0; simp
 ·
  simp only [if_neg e0]; rw [if_pos (by omega)]
theorem chow_l1 (m : Nat) (hm : m ≤ 4) (l : List Int) (x : Nat) (hx : x < 100) (v : Int) (hv : 0 ≤ v ∧ v ≤ 1) (R : List Int × Bool) : ∀ (d i : Nat) (G : Nat → Int), i + d = m → (∀ j, 0 ≤ G j ∧ G j ≤ 100 + (if j ≤ i then 1 else 0)) →
  Ev (fun k => impl_ChowNumbers.l0 k (m : Int) ((List.range (m + 1)).map (chR G v x i)) l (l.length : Int) (wrap64 ((x : Int) + 1))) R →
  Ev (fun k => impl_ChowNumbers.l1 k (m : Int) ((List.range (m + 1)).map G) (x : Int) v l (l.length : Int) (x : Int) (m : Int) (i : Int)) R := by
 intro d
 induction d with
 | zero =>
  intro i G hi hG hR
  refine Ev.step (fun k => impl_ChowNumbers.l1.eq_2 ..) (evn (by omega) ?_)
  rw [map_same (m + 1) G (chR G v x i) (fun j hj => by unfold chR; rw [if_neg (by omega)])]
  exact hR
 | succ d ih =>
  intro i G hi hG hR
  have hw : wrap64 ((i : Int) + 1) = ((i + 1 : Nat) : Int) := w64s i (by omega)
  refine Ev.step (fun k => impl_ChowNumbers.l1.eq_2 ..) (evp (by omega) ?_)
  rw [hw]
  refine evp (by omega) (evp (by simp; omega) (evp (by omega) ?_))
  rw [rd_map _ _ _ (by omega), Int.toNat_natCast, digit x i (by omega) (by omega), set_map]
  have hb := bit_lt x i
  have e1 : wrap64 (v * ((bit x i : Nat) : Int)) = v * ((bit x i : Nat) : Int) := by
   obtain h | h : v = 0 ∨ v = 1 := by omega
   ·
    rw [h, Int.zero_mul]; exact w64 (by decide) (by decide)
   ·
    rw [h, Int.one_mul]; exact w64 (by omega) (by omega)
  have hvb : 0 ≤ v * ((bit x i : Nat) : Int) ∧ v * ((bit x i : Nat) : Int) ≤ 1 := by
   obtain h | h : v = 0 ∨ v = 1 := by omega
   ·
    rw [h, Int.zero_mul]; omega
   ·
    rw [h, Int.one_mul]; omega
  have hg := hG (i + 1)
  rw [if_neg (by omega)] at hg
  rw [e1, w64 (x := G (i + 1) + v * ((bit x i : Nat) : Int)) (by omega) (by omega)]
  refine ih (i + 1) (fun j => if j = i + 1 then G (i + 1) + v * ((bit x i : Nat) : Int) else G j) (by omega) (fun j => ?_) ?_
  ·
   by_cases e : j = i + 1
   ·
    simp only [e, if_true]; rw [if_pos (Nat.le_refl _)]; omega
   ·
    simp only [if_neg e]
    have := hG j
    by_cases h1 : j ≤ i
    ·
     rw [if_pos h1] at this; rw [if_pos (by omega)]; exact this
    ·
     rw [if_neg h1] at this; rw [if_neg (by omega)]; exact this
  ·
   rw [map_same (m + 1) _ (chR G v x i) (fun j _ => chR_step' G v x i j)]
   exact hR
theorem chow_l0 (m : Nat) (l : List Int) (h : Tab m l) : ∀ (d x : Nat), x + d = l.length → Ev (fun k => impl_ChowNumbers.l0 k (m : Int) (chL m l x) l (l.length : Int) (x : Int)) (chL m l l.length, true) := by
 have h16 := h.len
 intro d
 induction d with
 | zero =>
  intro x hx
  refine Ev.step (fun k => impl_ChowNumbers.l0.eq_2 ..) (evn (by omega) (evs ?_))
  rw [show x = l.length by omega]
 | succ d ih =>
  intro x hx
  have hv : 0 ≤ l.getD x 0 ∧ l.getD x 0 ≤ 1 := h.at_ x
  have er : rd l (x : Int) = l.getD x 0 := by simp [rd]
  refine Ev.step (fun k => impl_ChowNumbers.l0.eq_2 ..) (evp (by omega) (evp (by omega) (evp (by omega) (evp (by rw [chL_len]; omega) ?_))))
  rw [er]
  unfold chL
  have hb := chF_bd h x
  rw [show rd ((List.range (m + 1)).map (chF l x)) 0 = chF l x 0 from rd_map _ _ 0 (by omega), show ((0 : Int).toNat) = 0 from rfl, set_map, w64 (by have := hb 0; omega) (by have := hb 0; omega)]
  refine chow_l1 m h.1 l x (by omega) _ hv _ m 0 _ (by omega) (fun j => ?_) ?_
  ·
   have := hb j; have := hb 0
   by_cases e : j = 0
   ·
    subst e; simp only [if_true]; omega
   ·
    simp only [if_neg e]; rw [if_neg (by omega)]; omega
  ·
   rw [w64s x (by omega), map_same (m + 1) _ (chF l (x + 1)) (fun j hj => chR_next l x j)]
   exact ih (x + 1) (by omega)
theorem iChow (n : Int) (l : List Int) (hx : l.length < 4611686018427387904) : Ev (fun k => impl_ChowNumbers.f k n l) (chowV n l) := by
 unfold impl_ChowNumbers.f chowV
 refine evb (isTable n l hx) ?_
 by_cases e : isTab n l = true
 ·
  obtain ⟨m, rfl, h⟩ := isTab_tab e
  have hm := h.1
  have hw : wrap64 ((m : Int) + 1) = ((m + 1 : Nat) : Int) := w64s m (by omega)
  refine evp e ?_
  rw [hw, Int.toNat_natCast, if_pos e, Int.toNat_natCast]
  refine evp (by omega) (evp (by omega) ?_)
  have e0 : List.replicate (m + 1) 0 = chL m l 0 := by
   unfold chL
   apply List.ext_getElem (by simp)
   intro i h1 h2; simp [chF, sumN]
  rw [e0]
  exact chow_l0 m l h l.length 0 (by omega)
 ·
  exact evn e (evs (by rw [if_neg e]))
theorem l1LeastC (a b : Int) : spec_l1Least.f a b = some (if a < b then a else b) := by unfold spec_l1Least.f; split <;> rfl
theorem l1MostC (a b : Int) : spec_l1Most.f a b = some (if a > b then a else b) := by unfold spec_l1Most.f; split <;> rfl
theorem schow_l1 (m : Nat) (hm : m ≤ 4) (l : List Int) (x : Nat) (hx : x < l.length) (hx1 : x < 100) (v : Int) (hvl : l.getD x 0 = v) (hv : 0 ≤ v ∧ v ≤ 1) (R : List Int × Bool) : ∀ (d i : Nat) (G : Nat → Int), i + d = m → (∀ j, 0 ≤ G j ∧ G j ≤ 100 + (if j ≤ i then 1 else 0)) →
  Ev (fun k => spec_ChowNumbers.l0 k (m : Int) l ((List.range (m + 1)).map (chR G v x i)) (wrap64 ((x : Int) + 1))) R →
  Ev (fun k => spec_ChowNumbers.l1 k (m : Int) l ((List.range (m + 1)).map G) (x : Int) (i : Int)) R := by
 have er : rd l (x : Int) = v := by show l.getD ((x : Int)).toNat 0 = v; rw [Int.toNat_natCast]; exact hvl
 intro d
 induction d with
 | zero =>
  intro i G hi hG hR
  refine Ev.step (fun k => spec_ChowNumbers.l1.eq_2 ..) (evn (by omega) ?_)
  rw [map_same (m + 1) G (chR G v x i) (fun j hj => by unfold chR; rw [if_neg (by omega)])]
  exact hR
 | succ d ih =>
  intro i G hi hG hR
  have hw : wrap64 ((i : Int) + 1) = ((i + 1 : Nat) : Int) := w64s i (by omega)
  refine Ev.step (fun k => spec_ChowNumbers.l1.eq_2 ..) (evp (by omega) ?_)
  rw [hw]
  refine evp (by omega) (evp (by simp; omega) (evp (by omega) (evp (by omega) (evp (by omega) ?_))))
  rw [er, rd_map _ _ _ (by omega), Int.toNat_natCast, digit x i (by omega) (by omega), set_map]
  have hb := bit_lt x i
  have e1 : wrap64 (v * ((bit x i : Nat) : Int)) = v * ((bit x i : Nat) : Int) := by
   obtain h | h : v = 0 ∨ v = 1 := by omega
   ·
    rw [h, Int.zero_mul]; exact w64 (by decide) (by decide)
   ·
    rw [h, Int.one_mul]; exact w64 (by omega) (by omega)
  have hvb : 0 ≤ v * ((bit x i : Nat) : Int) ∧ v * ((bit x i : Nat) : Int) ≤ 1 := by
   obtain h | h : v = 0 ∨ v = 1 := by omega
   ·
    rw [h, Int.zero_mul]; omega
   ·
    rw [h, Int.one_mul]; omega
  have hg := hG (i + 1)
  rw [if_neg (by omega)] at hg
  rw [e1, w64 (x := G (i + 1) + v * ((bit x i : Nat) : Int)) (by omega) (by omega)]
  refine ih (i + 1) (fun j => if j = i + 1 then G (i + 1) + v * ((bit x i : Nat) : Int) else G j) (by omega) (fun j => ?_) ?_
  ·
   by_cases e : j = i + 1
   ·
    simp only [e, if_true]; rw [if_pos (Nat.le_refl _)]; omega
   ·
    simp only [if_neg e]
    have := hG j
    by_cases h1 : j ≤ i
    ·
     rw [if_pos h1] at this; rw [if_pos (by omega)]; exact this
    ·
     rw [if_neg h1] at this; rw [if_neg (by omega)]; exact this
  ·
   rw [map_same (m + 1) _ (chR G v x i) (fun j _ => chR_step' G v x i j)]
   exact hR
theorem schow_l0 (m : Nat) (l : List Int) (h : Tab m l) : ∀ (d x : Nat), x + d = l.length → Ev (fun k => spec_ChowNumbers.l0 k (m : Int) l (chL m l x) (x : Int)) (chL m l l.length, true) := by
 have h16 := h.len
 intro d
 induction d with
 | zero =>
  intro x hx
  refine Ev.step (fun k => spec_ChowNumbers.l0.eq_2 ..) (evn (by omega) (evs ?_))
  rw [show x = l.length by omega]
 | succ d ih =>
  intro x hx
  have hv : 0 ≤ l.getD x 0 ∧ l.getD x 0 ≤ 1 := h.at_ x
  have er : rd l (x : Int) = l.getD x 0 := by simp [rd]
  refine Ev.step (fun k => spec_ChowNumbers.l0.eq_2 ..) (evp (by omega) (evp (by rw [chL_len]; omega) (evp (by omega) ?_)))
  rw [er]
  unfold chL
  have hb := chF_bd h x
  rw [show rd ((List.range (m + 1)).map (chF l x)) 0 = chF l x 0 from rd_map _ _ 0 (by omega), show ((0 : Int).toNat) = 0 from rfl, set_map, w64 (by have := hb 0; omega) (by have := hb 0; omega)]
  refine schow_l1 m h.1 l x (by omega) (by omega) _ rfl hv _ m 0 _ (by omega) (fun j => ?_) ?_
  ·
   have := hb j; have := hb 0
   by_cases e : j = 0
   ·
    subst e; simp only [if_true]; omega
   ·
    simp only [if_neg e]; rw [if_neg (by omega)]; omega
  ·
   rw [w64s x (by omega), map_same (m + 1) _ (chF l (x + 1)) (fun j hj => chR_next l x j)]
   exact ih (x + 1) (by omega)
theorem sChow (n : Int) (l : List Int) (hx : l.length < 4611686018427387904) : Ev (fun k => spec_ChowNumbers.f k n l) (chowV n l) := by
 unfold spec_ChowNumbers.f chowV
 refine evb (evc (l1LeastC n 4)) (evb (evc (l1MostC 0 _)) ?_)
 obtain ⟨t, ht⟩ : ∃ t : Nat, (if (0 : Int) > (if n < 4 then n else 4) then 0 else (if n < 4 then n else 4)) = (t : Int) := ⟨_, (Int.toNat_of_nonneg (by split <;> omega)).symm⟩
 have ht4 : t ≤ 4 := by split at ht <;> split at ht <;> omega
 rw [ht]
 have hw : wrap64 ((t : Int) + 1) = ((t + 1 : Nat) : Int) := w64s t (by omega)
 rw [hw, Int.toNat_natCast]
 refine evp (by omega) (evp (by omega) (evb (l2Table n l hx) ?_))
 by_cases e : isTab n l = true
 ·
  obtain ⟨m, rfl, h⟩ := isTab_tab e
  have hm := h.1
  have htm : t = m := by split at ht <;> split at ht <;> omega
  subst htm
  refine evp e ?_
  rw [if_pos e, Int.toNat_natCast]
  have e0 : List.replicate (t + 1) 0 = chL t l 0 := by
   unfold chL
   apply List.ext_getElem (by simp)
   intro i h1 h2; simp [chF, sumN]
  rw [e0]
  exact schow_l0 t l h l.length 0 (by omega)
 ·
  exact evn e (evs (by rw [if_neg e]))
theorem gain_f (f : Nat → Int) : ∀ m, m < 5 → ∀ i, i < m → 2 * sumN (fun y => f y * (bit y i : Int)) 0 (2 ^ m) - sumN (fun y => f y * 1) 0 (2 ^ m) = sumN (fun x => if bit x i = 1 then 0 else f (x + 2 ^ i) - f x) 0 (2 ^ m) := by
 intro m hm i hi
 have fin : ∀ m, m < 5 → ∀ i, i < m → (m = 1 ∧ i = 0) ∨ (m = 2 ∧ i = 0) ∨ (m = 2 ∧ i = 1) ∨ (m = 3 ∧ i = 0) ∨ (m = 3 ∧ i = 1) ∨ (m = 3 ∧ i = 2) ∨ (m = 4 ∧ i = 0) ∨ (m = 4 ∧ i = 1) ∨ (m = 4 ∧ i = 2) ∨ (m = 4 ∧ i = 3) := by omega
 obtain ⟨rfl, rfl⟩ | ⟨rfl, rfl⟩ | ⟨rfl, rfl⟩ | ⟨rfl, rfl⟩ | ⟨rfl, rfl⟩ | ⟨rfl, rfl⟩ | ⟨rfl, rfl⟩ | ⟨rfl, rfl⟩ | ⟨rfl, rfl⟩ | ⟨rfl, rfl⟩ := fin m hm i hi
 all_goals
  simp [sumN, bit]
  omega
theorem chow_gain {m : Nat} {l : List Int} (h : Tab m l) (i : Nat) (hi : i < m) : 2 * chF l l.length (i + 1) - chF l l.length 0 = gains l i - losses l i := by
 have hm := h.1
 have e1 : chF l l.length (i + 1) = sumN (fun y => l.getD y 0 * (bit y i : Int)) 0 (2 ^ m) := by unfold chF cf; simp [h.2.1]
 have e2 : chF l l.length 0 = sumN (fun y => l.getD y 0 * 1) 0 (2 ^ m) := by unfold chF cf; simp [h.2.1]
 rw [e1, e2, gain_f _ m (by omega) i hi]
 have e3 : gains l i + (-1) * losses l i = sumN (fun c => won l i c + (-1) * lost l i c) 0 (2 ^ m) := by
  unfold gains losses
  rw [h.2.1, sumN_add]
  have : ∀ d s, sumN (fun c => (-1) * lost l i c) s d = (-1) * sumN (lost l i) s d := by
   intro d
   induction d with
   | zero => intro s; simp [sumN]
   | succ d ih => intro s; simp only [sumN]; rw [ih]; omega
  rw [this]
 rw [show gains l i - losses l i = gains l i + (-1) * losses l i by omega, e3]
 refine sumN_congr' _ _ _ _ (fun k _ _ => ?_)
 unfold won lost
 by_cases hb : bit k i = 1
 ·
  simp [hb]
 ·
  simp only [if_neg hb]
  generalize l.getD (k + 2 ^ i) 0 = u
  generalize l.getD k 0 = v
  rw [Int.mul_sub, Int.mul_sub, Int.mul_comm v u]; omega
theorem sumN_put (f : Nat → Int) (a : Nat) (v : Int) : ∀ d i, sumN (fun y => if y = a then v else f y) i d = sumN f i d + (if i ≤ a ∧ a < i + d then v - f a else 0) := by
 intro d
 induction d with
 | zero => intro i; simp only [sumN]; rw [if_neg (by omega)]; rfl
 | succ d ih =>
  intro i
  simp only [sumN]
  rw [ih (i + 1)]
  by_cases e : i = a
  ·
   subst e; rw [if_pos rfl, if_neg (by omega), if_pos (by omega)]; omega
  ·
   rw [if_neg e]
   by_cases h : i + 1 ≤ a ∧ a < i + 1 + d
   ·
    rw [if_pos h, if_pos (by omega)]; omega
   ·
    rw [if_neg h, if_neg (by omega)]; omega
theorem mem_getD (l : List Int) (x : Int) (hx : x ∈ l) : ∃ y, x = l.getD y 0 := by
 obtain ⟨y, hy, rfl⟩ := List.getElem_of_mem hx
 exact ⟨y, by simp [List.getD_eq_getElem?_getD, List.getElem?_eq_getElem hy]⟩
theorem chow_other {m : Nat} {l : List Int} (h : Tab m l) (a b : Nat) (ha : a < l.length) (hb : b < l.length) (hv : l.getD a 0 ≠ l.getD b 0) : Tab m ((l.set a (l.getD b 0)).set b (l.getD a 0)) ∧ chL m ((l.set a (l.getD b 0)).set b (l.getD a 0)) l.length ≠ chL m l l.length := by
 have hm := h.1
 have hab : a ≠ b := fun e => hv (by rw [e])
 have hg : ∀ y, ((l.set a (l.getD b 0)).set b (l.getD a 0)).getD y 0 = if y = b then l.getD a 0 else if y = a then l.getD b 0 else l.getD y 0 := fun y => by
  by_cases e1 : y = b
  ·
   subst e1
   rw [if_pos rfl, List.getD_eq_getElem?_getD, List.getElem?_set_self (by rw [List.length_set]; exact hb)]; rfl
  ·
   rw [if_neg e1, List.getD_eq_getElem?_getD, List.getElem?_set_ne (fun h => e1 h.symm)]
   by_cases e2 : y = a
   ·
    subst e2
    rw [if_pos rfl, List.getElem?_set_self ha]; rfl
   ·
    rw [if_neg e2, List.getElem?_set_ne (fun h => e2 h.symm), List.getD_eq_getElem?_getD]
 refine ⟨⟨hm, by simp only [List.length_set]; exact h.2.1, fun x hx => ?_⟩, fun e => ?_⟩
 ·
  obtain ⟨y, rfl⟩ := mem_getD _ x hx
  rw [hg]
  split
  ·
   exact h.at_ a
  ·
   split
   ·
    exact h.at_ b
   ·
    exact h.at_ y
 ·
  obtain ⟨i, hi, hbit⟩ : ∃ i, i < m ∧ bit a i ≠ bit b i := by
   refine Classical.byContradiction fun hn => hab ?_
   refine bits_tell m (by omega) a (by rw [← h.2.1]; exact ha) b (by rw [← h.2.1]; exact hb) (fun i hi => ?_)
   exact Classical.byContradiction fun h => hn ⟨i, hi, h⟩
  have hc : ∀ j, j < m + 1 → chF ((l.set a (l.getD b 0)).set b (l.getD a 0)) l.length j = chF l l.length j := fun j hj => by
   have := congrArg (fun L => rd L (j : Int)) e
   simp only [chL] at this
   rwa [rd_map _ _ j hj, rd_map _ _ j hj] at this
  have h1 := hc (i + 1) (by omega)
  unfold chF cf at h1
  simp only [Nat.add_sub_cancel, if_neg (Nat.succ_ne_zero i)] at h1
  have e2 : (fun y => ((l.set a (l.getD b 0)).set b (l.getD a 0)).getD y 0 * ((bit y i : Nat) : Int)) = fun y => if y = b then l.getD a 0 * ((bit b i : Nat) : Int) else (fun y => if y = a then l.getD b 0 * ((bit a i : Nat) : Int) else l.getD y 0 * ((bit y i : Nat) : Int)) y := by
   funext y
   rw [hg]
   by_cases c1 : y = b
   ·
    rw [if_pos c1, if_pos c1, c1]
   ·
    rw [if_neg c1, if_neg c1]
    by_cases c2 : y = a
    ·
     simp only [c2, if_true]
    ·
     simp only [if_neg c2]
  rw [e2, sumN_put, sumN_put, if_pos (by omega), if_pos (by omega)] at h1
  rw [if_neg (fun h => hab h.symm)] at h1
  have ha1 := h.at_ a; have hb1 := h.at_ b
  have hba := bit_lt a i; have hbb := bit_lt b i
  generalize l.getD a 0 = u at *
  generalize l.getD b 0 = v at *
  obtain ⟨rfl, rfl⟩ | ⟨rfl, rfl⟩ : (u = 0 ∧ v = 1) ∨ (u = 1 ∧ v = 0) := by omega
  ·
   simp only [Int.zero_mul, Int.one_mul] at h1; omega
  ·
   simp only [Int.zero_mul, Int.one_mul] at h1; omega
theorem dIsTable {l : List Int} (hl : CurOk l) : ∃ r, Ev (fun k => spec_DrawIsTable.f k l) r ∧ r.2.length ≤ 40 := by
 obtain ⟨x, p1, s1, e1, hx, g1, g2⟩ := camong hl 0 0 [2, 3, 3, 1, 4, 0] (by simp) (by omega)
 obtain ⟨y, p2, s2, e2, h0, h1, g3, g4⟩ := cpick hl p1 s1 24 (by omega)
 obtain ⟨r, hr, h1, h2, h3⟩ := ctable hl p2 s2 (wrap64 (x + wrap64 (Int.tdiv y 23))) (by omega)
 have eb : spec_l1Cur_bits.f l 0 0 = some (x, p1, s1) := by unfold spec_l1Cur_bits.f; rw [e1]; rfl
 unfold spec_DrawIsTable.f
 exact ⟨_, evb (evc eb) (evb (evc e2) (evb hr (evs rfl))), h1⟩
theorem vAdd_l0 {m : Nat} {l : List Int} (h : Tab m l) : ∀ (d x : Nat), x + d = l.length → Ev (fun k => laws_vAdd.l0 k l (sumN (fun y => l.getD y 0) 0 x) (x : Int)) (sumN (fun y => l.getD y 0) 0 l.length) := by
 have h16 := h.len
 intro d
 induction d with
 | zero =>
  intro x hx
  exact Ev.step (fun k => laws_vAdd.l0.eq_2 ..) (evn (by omega) (evs (by rw [show x = l.length by omega])))
 | succ d ih =>
  intro x hx
  have hv := h.at_ x
  have er : rd l (x : Int) = l.getD x 0 := by show l.getD ((x : Int)).toNat 0 = _; rw [Int.toNat_natCast]
  have hb := sumN_le (fun y => l.getD y 0) 1 (fun k => h.at_ k) x 0
  refine Ev.step (fun k => laws_vAdd.l0.eq_2 ..) (evp (by omega) (evp (by omega) ?_))
  rw [er, w64 (by omega) (by omega), w64s x (by omega)]
  refine evr ?_ rfl
  have := ih (x + 1) (by omega)
  rw [sumN_succ, Nat.zero_add] at this
  exact this
theorem vAdd {m : Nat} {l : List Int} (h : Tab m l) : Ev (fun k => laws_vAdd.f k l) (chF l l.length 0) := by
 unfold laws_vAdd.f
 refine evr (vAdd_l0 h l.length 0 (by omega)) ?_
 unfold chF cf
 exact sumN_congr' _ _ _ _ (fun k _ _ => by simp)
theorem both_no {m : Nat} {t v : List Int} (hT : Tab m t) (h : lp m t = some v) : (List.range m).any (both t) = false := by
 rw [List.any_eq_false]
 intro i hi hb
 have hi := List.mem_range.1 hi
 unfold both at hb
 rw [Bool.and_eq_true, decide_eq_true_eq, decide_eq_true_eq] at hb
 have h1 := (lp_signs hT h i hi).1 hb.1
 have h2 := (lp_signs hT h i hi).2 hb.2
 omega
theorem sgn_at (m : Nat) (t : List Int) (i : Nat) (hi : i < m) : rd ((List.range m).map (sign1 t)) (i : Int) = sign1 t i := rd_map m _ i hi
theorem law_l3 {m : Nat} {t : List Int} (hT : Tab m t) (a : Nat) (ha : a < t.length) (R : Bool) (x22 : Bool) (hR : Ev (fun k => laws_FnChow.l2 k (m : Int) t (chL m t t.length) x22 (((a + 1 : Nat) : Int))) R) : ∀ d b, b + d = a → Ev (fun k => laws_FnChow.l3 k (m : Int) t (chL m t t.length) x22 (a : Int) (b : Int)) R := by
 have h16 := hT.len
 have hm := hT.1
 have er : ∀ y : Nat, rd t (y : Int) = t.getD y 0 := fun y => by show t.getD ((y : Int)).toNat 0 = _; rw [Int.toNat_natCast]
 intro d
 induction d with
 | zero =>
  intro b hb
  refine Ev.step (fun k => laws_FnChow.l3.eq_2 ..) (evn (by omega) ?_)
  rw [w64s a (by omega)]
  exact hR
 | succ d ih =>
  intro b hb
  have hn := ih (b + 1) (by omega)
  refine Ev.step (fun k => laws_FnChow.l3.eq_2 ..) (evp (by omega) (evp (by omega) (evp (by omega) (evp (by omega) (evp (by omega) ?_)))))
  rw [er, er, w64s b (by omega)]
  by_cases c : t.getD a 0 = t.getD b 0
  ·
   exact evp c hn
  ·
   obtain ⟨h1, h2⟩ := chow_other hT a b ha (by omega) c
   have hC : Ev (fun k => impl_ChowNumbers.f k (m : Int) ((t.set ((a : Int)).toNat (t.getD b 0)).set ((b : Int)).toNat (t.getD a 0))) (chL m ((t.set a (t.getD b 0)).set b (t.getD a 0)) t.length, true) := by
    rw [Int.toNat_natCast, Int.toNat_natCast]
    refine evr (iChow _ _ (by simp only [List.length_set]; omega)) ?_
    unfold chowV
    rw [if_pos ((isTab_iff _ _).2 ⟨by omega, by rw [Int.toNat_natCast]; exact h1.2.1, h1.2.2⟩), Int.toNat_natCast]
    simp only [List.length_set]
   refine evn c (evb (evs rfl) (evp (by simp; omega) (evb (evs (List.nil_append t)) (evp (by omega) (evp (by omega) (evb hC (evp rfl (evb (vInts _ _ (by rw [chL_len]; omega)) (evn (by simpa using h2) hn)))))))))
theorem law_l2 {m : Nat} {t : List Int} (hT : Tab m t) (x22 : Bool) : ∀ d a, a + d = t.length → Ev (fun k => laws_FnChow.l2 k (m : Int) t (chL m t t.length) x22 (a : Int)) x22 := by
 have h16 := hT.len
 intro d
 induction d with
 | zero =>
  intro a ha
  exact Ev.step (fun k => laws_FnChow.l2.eq_2 ..) (evn (by omega) (evs rfl))
 | succ d ih =>
  intro a ha
  refine Ev.step (fun k => laws_FnChow.l2.eq_2 ..) (evp (by omega) ?_)
  exact law_l3 hT a (by omega) _ x22 (ih (a + 1) (by omega)) a 0 (by omega)
theorem law_l1 {m : Nat} {t v : List Int} (hT : Tab m t) (hv : lp m t = some v) (bd : Int) : ∀ d i, i + d = m → Ev (fun k => laws_FnChow.l1 k (m : Int) t (chL m t t.length) ((List.range m).map (sign1 t)) true (i : Int) v bd) true := by
 have hm := hT.1
 have hvl := lp_okw m t v hv
 intro d
 induction d with
 | zero =>
  intro i hi
  refine Ev.step (fun k => laws_FnChow.l1.eq_2 ..) (evp rfl ?_)
  refine Ev.step (fun k => laws_FnChow.j6.eq_2 ..) (evn (by simp; omega) ?_)
  exact law_l2 hT true t.length 0 (by omega)
 | succ d ih =>
  intro i hi
  have hn := ih (i + 1) (by omega)
  have ev : rd v (i : Int) = v.getD i 0 := by show v.getD ((i : Int)).toNat 0 = _; rw [Int.toNat_natCast]
  have hs := lp_signs hT hv i (by omega)
  have hvb : -9 ≤ v.getD i 0 ∧ v.getD i 0 ≤ 9 := by
   have hi2 : i < v.length := by rw [hvl.1]; omega
   rw [List.getD_eq_getElem?_getD, List.getElem?_eq_getElem hi2]
   exact hvl.2 _ (List.getElem_mem hi2)
  refine Ev.step (fun k => laws_FnChow.l1.eq_2 ..) (evp rfl ?_)
  refine Ev.step (fun k => laws_FnChow.j6.eq_2 ..) (evp (decide_eq_true (by omega)) (evp (by omega) (evp (by simp; omega) (evp (by have := hvl.1; omega) ?_))))
  rw [sgn_at m t i (by omega), ev, w64s i (by omega)]
  unfold sign1
  by_cases c1 : 0 < losses t i
  ·
   have := hs.1 c1
   rw [if_pos c1, w64 (by omega) (by omega)]
   exact evn (by omega) (evn (by decide) (evn (by omega) hn))
  ·
   rw [if_neg c1]
   by_cases c2 : 0 < gains t i
   ·
    have := hs.2 c2
    rw [if_pos c2, w64 (by omega) (by omega)]
    exact evn (by omega) (evn (by decide) (evn (by omega) hn))
   ·
    rw [if_neg c2, Int.zero_mul, w64 (by decide) (by decide)]
    exact evn (by decide) (evp rfl hn)
theorem law_tail {m : Nat} {t : List Int} (hT : Tab m t) (e : isTab (m : Int) t = true) (i : Int) : Ev (fun k => laws_FnChow.j2 k (m : Int) t (chL m t t.length) (signs (m : Int) t).1 (signs (m : Int) t).2 (influences (m : Int) t).1 i false) true := by
 have h16 := hT.len
 have ht := iThr (m : Int) t (by omega)
 unfold thrV at ht
 rw [if_pos e, Int.toNat_natCast] at ht
 refine Ev.step (fun k => laws_FnChow.j2.eq_2 ..) (evn (by decide) (evb ht (evp rfl ?_)))
 cases hv : lp m t with
 | none =>
  refine evn (by decide) (Ev.step (fun k => laws_FnChow.j3.eq_2 ..) (evn (by decide) (evn (by decide) ?_)))
  exact Ev.step (fun k => laws_FnChow.j4.eq_2 ..) (evp rfl (evs rfl))
 | some v =>
  have hs : signs (m : Int) t = ((List.range m).map (sign1 t), true) := by
   unfold signs
   rw [if_pos e, Int.toNat_natCast, if_neg (by rw [both_no hT hv]; decide)]
  rw [hs]
  refine evp rfl (Ev.step (fun k => laws_FnChow.j3.eq_2 ..) (evn (by simp) (evp rfl ?_)))
  by_cases h0 : m = 0
  ·
   subst h0
   exact Ev.step (fun k => laws_FnChow.j4.eq_2 ..) (evp (by decide) (evs rfl))
  ·
   have hp := iPlane (m : Int) t (by omega)
   rw [show planeV (m : Int) t = (v, bnd m t v, true) by unfold planeV; rw [if_pos ⟨e, by omega⟩, Int.toNat_natCast, hv]] at hp
   refine Ev.step (fun k => laws_FnChow.j4.eq_2 ..) (evn (by simpa using h0) (evb hp ?_))
   exact law_l1 hT hv _ m 0 (by omega)
theorem law_l0 {m : Nat} {t : List Int} (hT : Tab m t) (e : isTab (m : Int) t = true) : ∀ d i, i + d = m → Ev (fun k => laws_FnChow.l0 k (m : Int) t (chL m t t.length) (signs (m : Int) t).1 (signs (m : Int) t).2 (influences (m : Int) t).1 (i : Int)) true := by
 have hm := hT.1
 have h16 := hT.len
 intro d
 induction d with
 | zero =>
  intro i hi
  cases hf : (signs (m : Int) t).2 with
  | false =>
   refine Ev.step (fun k => laws_FnChow.l0.eq_2 ..) (evn (by decide) ?_)
   have := law_tail hT e (i : Int); rw [hf] at this; exact this
  | true =>
   refine Ev.step (fun k => laws_FnChow.l0.eq_2 ..) (evp rfl ?_)
   rw [decide_eq_false (by omega)]
   have := law_tail hT e (i : Int); rw [hf] at this; exact this
 | succ d ih =>
  intro i hi
  have hn := ih (i + 1) (by omega)
  by_cases hf : (signs (m : Int) t).2 = true
  ·
   have hs : signs (m : Int) t = ((List.range m).map (sign1 t), true) ∧ (List.range m).any (both t) = false := by
    unfold signs at hf ⊢
    rw [if_pos e, Int.toNat_natCast] at hf ⊢
    by_cases c : (List.range m).any (both t) = true
    ·
     rw [if_pos c] at hf; cases hf
    ·
     rw [if_neg c]; exact ⟨rfl, by simpa using c⟩
   have hb : both t i = false := by
    have := List.any_eq_false.1 hs.2 i (List.mem_range.2 (by omega))
    simpa using this
   have hI : influences (m : Int) t = ((List.range m).map (fun i => losses t i + gains t i), true) := by
    unfold influences; rw [if_pos e, Int.toNat_natCast]
   rw [hs.1] at hn ⊢
   rw [hI] at hn ⊢
   refine Ev.step (fun k => laws_FnChow.l0.eq_2 ..) (evp rfl ?_)
   rw [decide_eq_true (show (i : Int) < (m : Int) by omega)]
   have hw : wrap64 ((i : Int) + 1) = ((i + 1 : Nat) : Int) := w64s i (by omega)
   have hg := chow_gain hT i (by omega)
   have hl := hT.losses i; have hga := hT.gains i
   have hc1 := chF_bd hT t.length (i + 1); have hc0 := chF_bd hT t.length 0
   have r1 : rd (chL m t t.length) ((i + 1 : Nat) : Int) = chF t t.length (i + 1) := rd_map _ _ _ (by omega)
   have r0 : rd (chL m t t.length) 0 = chF t t.length 0 := rd_map _ _ 0 (by omega)
   refine Ev.step (fun k => laws_FnChow.j2.eq_2 ..) (evp rfl ?_)
   rw [hw, r1, r0]
   refine evp (by omega) (evp (by rw [chL_len]; omega) (evp (by rw [chL_len]; omega) (evp (by omega) (evp (by simp; omega) ?_))))
   rw [sgn_at m t i (by omega), show rd ((List.range m).map (fun i => losses t i + gains t i)) (i : Int) = losses t i + gains t i from rd_map m _ i (by omega), w64 (x := 2 * chF t t.length (i + 1)) (by omega) (by omega), hg]
   rw [w64 (x := gains t i - losses t i) (by omega) (by omega)]
   unfold both at hb
   rw [Bool.and_eq_false_iff, decide_eq_false_iff_not, decide_eq_false_iff_not] at hb
   unfold sign1
   by_cases c1 : 0 < losses t i
   ·
    rw [if_pos c1, w64 (by omega) (by omega)]
    exact evn (by decide) (evp (by simp; omega) (evp (by omega) (evn (by omega) hn)))
   ·
    rw [if_neg c1]
    by_cases c2 : 0 < gains t i
    ·
     rw [if_pos c2, w64 (by omega) (by omega)]
     exact evn (by decide) (evp (by simp; omega) (evp (by omega) (evn (by omega) hn)))
    ·
     rw [if_neg c2]
     exact evp rfl (evp (by omega) (evp (by simp; omega) (evp (by omega) hn)))
  ·
   have hf0 : (signs (m : Int) t).2 = false := by simpa using hf
   refine Ev.step (fun k => laws_FnChow.l0.eq_2 ..) (evn hf ?_)
   exact law_tail hT e (i : Int)
theorem law_j0 (n : Int) (t : List Int) (ht : t.length ≤ 40) : Ev (fun k => laws_FnChow.j0 k n t (chowV n t).1 (chowV n t).2 (signs n t).1 (signs n t).2 (influences n t).1 false) true := by
 by_cases e : isTab n t = true
 ·
  obtain ⟨m, rfl, hT⟩ := isTab_tab e
  have hC : chowV (m : Int) t = (chL m t t.length, true) := by unfold chowV; rw [if_pos e, Int.toNat_natCast]
  rw [hC]
  refine Ev.step (fun k => laws_FnChow.j0.eq_2 ..) (evn (by decide) (evp rfl (evp (by simp only [chL_len]; omega) (evb (vAdd hT) (evp (rd_map _ _ 0 (by omega)) ?_)))))
  exact law_l0 hT e m 0 (by omega)
 ·
  have h1 : chowV n t = ([], false) := by unfold chowV; rw [if_neg e]
  have h2 : signs n t = ([], false) := by unfold signs; rw [if_neg e]
  rw [h1, h2]
  exact Ev.step (fun k => laws_FnChow.j0.eq_2 ..) (evn (by decide) (evn (by decide) (evs rfl)))
theorem law (l0 : List Int) (hb : ∀ x ∈ l0, (Lit.int .u8 x).wf = true) : Ev (fun k => laws_FnChow.f k l0) true := by
 unfold laws_FnChow.f laws_vBig.f
 simp only [Option.bind_some]
 by_cases c : (l0.length : Int) > 65536
 ·
  exact evp (decide_eq_true c) (evs rfl)
 have hl := cur_ok l0 (by omega) hb
 refine evn (by simpa using c) ?_
 have bne_self : ∀ b : Bool, ¬ (b != b) = true := fun b => by cases b <;> decide
 obtain ⟨⟨n, t⟩, hd, ht⟩ := dIsTable hl
 simp only at ht
 have hcl : (chowV n t).1.length ≤ 1048576 := by
  unfold chowV
  split
  ·
   rename_i e; obtain ⟨m, rfl, hT⟩ := isTab_tab e; have := hT.1; simp only [chL_len, Int.toNat_natCast]; omega
  ·
   simp
 have hsl : (signs n t).1.length ≤ 1048576 := by have := signs_len n t; omega
 have hil : (influences n t).1.length ≤ 1048576 := by
  unfold influences
  split
  ·
   rename_i e; obtain ⟨m, rfl, hT⟩ := isTab_tab e; have := hT.1; simp; omega
  ·
   simp
 have h2 : (chowV n t).2 = (influences n t).2 := by unfold chowV influences; split <;> rfl
 have hj := law_j0 n t ht
 have hj2 : Ev (fun k => laws_FnChow.j0 k n t (chowV n t).1 (chowV n t).2 (signs n t).1 (signs n t).2 (influences n t).1 ((chowV n t).2 != (influences n t).2)) true := by
  rw [show ((chowV n t).2 != (influences n t).2) = false by rw [h2]; cases (influences n t).2 <;> rfl]
  exact hj
 have hd2 : Ev (fun k => spec_DrawChowNumbers.f k l0) (n, t) := by unfold spec_DrawChowNumbers.f; exact evb hd (evs rfl)
 refine evb hd2 (evb (iChow n t (by omega)) (evb (sChow n t (by omega)) (evb (iSigns n t (by omega)) (evb (sSigns n t (by omega)) (evb (iInfl n t (by omega)) (evb (sInfl n t (by omega)) ?_))))))
 refine evn (bne_self _) (evb (vInts _ _ hcl) (evp (decide_eq_true rfl) (evn (bne_self _) (evb (vInts _ _ hsl) (evp (decide_eq_true rfl) (evn (bne_self _) (evb (vInts _ _ hil) (evp (decide_eq_true rfl) hj2))))))))
end Go.Proofs.Ytmfmgnpefjmieaa.LFnChow
