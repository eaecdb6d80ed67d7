/- Own lemmas: what the printed functions of one law come to. -/
import Derived.Test.YtlbleemoiabmdaaDoorMFnExactCountWinsx4
import Derived.Test.YtlbleemoiabmdaaDoorBase
namespace Go.Proofs.YtlbleemoiabmdaaDoor.LFnExactCountWins
open Go Go.RowKit Go.Proofs.YtlbleemoiabmdaaDoor.Base Go.Proofs.YtlbleemoiabmdaaDoor.PFnExactCountWins Go.Proofs.YtlbleemoiabmdaaDoorW.PrintWords Go.Proofs.YtlbleemoiabmdaaDoorW.PrintLast Go.Proofs.YtlbleemoiabmdaaDoorW.PrintMore
set_option linter.unusedVariables false
set_option linter.unusedSimpArgs false
set_option maxRecDepth 4000

/-! ### laws_toIntS -/
theorem toIntS_l0 (x0 : List Int) (hx : x0.length < 4611686018427387904) : ∀ (d i : Nat) (x3 : List Int), i + d = x0.length → x3.length = x0.length →
    Ev (fun k => laws_toIntS.l0 k x0 x3 (i : Int)) (x3.take i ++ x0.drop i) := by
  intro d
  induction d with
  | zero =>
    intro i x3 hi hl
    refine Ev.step (fun k => laws_toIntS.l0.eq_2 ..) (evn (by omega) (evs ?_))
    simp [List.take_of_length_le (show x3.length ≤ i by omega), List.drop_of_length_le (show x0.length ≤ i by omega)]
  | succ d ih =>
    intro i x3 hi hl
    refine Ev.step (fun k => laws_toIntS.l0.eq_2 ..) (evp (by omega) (evp (by omega) (evp (by omega) ?_)))
    rw [w64s i (by omega), rd_nat]
    refine evr (ih (i + 1) _ (by omega) (by simpa using hl)) ?_
    rw [Int.toNat_natCast, set_take _ _ _ (by omega), List.drop_eq_getElem_cons (show i < x0.length by omega), List.append_assoc]
    simp [List.getD_eq_getElem?_getD, List.getElem?_eq_getElem (show i < x0.length by omega)]
theorem toIntS (l : List Int) (h : l.length ≤ 35184372088832) : Ev (fun k => laws_toIntS.f k l) l := by
  unfold laws_toIntS.f
  refine evp (by omega) (evp (by simpa using h) ?_)
  refine evr (toIntS_l0 l (by omega) l.length 0 _ (by omega) (by simp)) (by simp)

/-! ### laws_eqIntS -/
theorem eqIntS_l0 (a b : List Int) (hl : a.length = b.length) (hx : a.length < 4611686018427387904) : ∀ (d i : Nat), i + d = a.length →
    Ev (fun k => laws_eqIntS.l0 k a b (i : Int)) (decide (a.drop i = b.drop i)) := by
  intro d
  induction d with
  | zero =>
    intro i hi
    refine Ev.step (fun k => laws_eqIntS.l0.eq_2 ..) (evn (by omega) (evs ?_))
    simp [List.drop_of_length_le (show a.length ≤ i by omega), List.drop_of_length_le (show b.length ≤ i by omega)]
  | succ d ih =>
    intro i hi
    refine Ev.step (fun k => laws_eqIntS.l0.eq_2 ..) (evp (by omega) (evp (by omega) (evp (by omega) ?_)))
    rw [w64s i (by omega), rd_nat, rd_nat]
    have ea := List.drop_eq_getElem_cons (show i < a.length by omega)
    have eb := List.drop_eq_getElem_cons (show i < b.length by omega)
    simp only [List.getD_eq_getElem?_getD, List.getElem?_eq_getElem (show i < a.length by omega), List.getElem?_eq_getElem (show i < b.length by omega), Option.getD_some]
    by_cases e : a[i] = b[i]
    · refine evp e (evr (ih (i + 1) (by omega)) ?_)
      rw [ea, eb, e]; simp only [List.cons.injEq, true_and]
    · refine evn e (evs ?_)
      rw [ea, eb]; simp only [List.cons.injEq, e, false_and, decide_false]
theorem eqIntS (a b : List Int) (hx : a.length < 4611686018427387904) : Ev (fun k => laws_eqIntS.f k a b) (decide (a = b)) := by
  unfold laws_eqIntS.f
  by_cases h : a.length = b.length
  · refine evp (by omega) (evr (eqIntS_l0 a b h hx a.length 0 (by omega)) (by simp))
  · refine evn (by omega) (evs ?_)
    have : a ≠ b := fun e => h (by rw [e])
    simp [this]

/-! ### spec_l1In -/
theorem l1In (a b c : Int) : spec_l1In.f a b c = some (decide (b ≤ a ∧ a ≤ c)) := by
  unfold spec_l1In.f; split <;> simp_all <;> omega

/-! ### impl_within -/
theorem within (a b c : Int) : impl_within.f a b c = some (decide (b ≤ a ∧ a ≤ c)) := by
  unfold impl_within.f; split <;> simp_all <;> omega

/-! ### impl_allWithin -/
theorem allWithin_l0 (lo up : Int) (l : List Int) (hx : l.length < 4611686018427387904) : ∀ (d i : Nat), i + d = l.length →
    Ev (fun k => impl_allWithin.l0 k lo up l (l.length : Int) (i : Int)) ((l.drop i).all fun x => decide (lo ≤ x ∧ x ≤ up)) := by
  intro d
  induction d with
  | zero =>
    intro i hi
    refine Ev.step (fun k => impl_allWithin.l0.eq_2 ..) (evn (by omega) (evs ?_))
    simp [List.drop_of_length_le (show l.length ≤ i by omega)]
  | succ d ih =>
    intro i hi
    refine Ev.step (fun k => impl_allWithin.l0.eq_2 ..) (evp (by omega) (evp (by omega) (evp (by omega) ?_)))
    rw [w64s i (by omega), rd_nat, within, List.drop_eq_getElem_cons (show i < l.length by omega)]
    simp only [List.getD_eq_getElem?_getD, List.getElem?_eq_getElem (show i < l.length by omega), Option.getD_some, Option.bind_some, List.all_cons]
    by_cases e : lo ≤ l[i] ∧ l[i] ≤ up
    · refine evp (by simpa using e) (evr (ih (i + 1) (by omega)) (by simp [e]))
    · refine evn (by simpa using e) (evs (by simp [e]))
theorem allWithin (l : List Int) (lo up : Int) (hx : l.length < 4611686018427387904) : Ev (fun k => impl_allWithin.f k l lo up) (l.all fun x => decide (lo ≤ x ∧ x ≤ up)) := by
  unfold impl_allWithin.f
  exact allWithin_l0 lo up l hx l.length 0 (by omega)

/-! ### laws_szIntS -/
theorem szIntS (l : List Int) (m : Int) (h0 : 0 ≤ m) (hm : m ≤ 1048576) (hl : l.length ≤ maxLen) : laws_szIntS.f l m = some (if (l.length : Int) ≤ m then m - l.length else -1) := by
  unfold maxLen at hl
  unfold laws_szIntS.f
  rw [w64 (x := m - (l.length : Int)) (by omega) (by omega)]
  by_cases h : (l.length : Int) ≤ m
  · rw [if_neg (by omega), if_pos h]
  · rw [if_pos (by omega), if_neg h]

/-! ### laws_szVote laws_szIntS -/
theorem szVote (l : List Int) (q m : Int) (h0 : 0 ≤ m) (hm : m ≤ 1048576) (hl : l.length ≤ maxLen) : laws_szVote.f l q m = some (if (l.length : Int) ≤ m then m - l.length else -1) := by
  unfold laws_szVote.f
  rw [szIntS l m h0 hm hl]
  simp only [Option.bind_some]
  by_cases h : (l.length : Int) ≤ m
  · rw [if_pos h, if_neg (by omega)]
  · rw [if_neg h, if_pos (by omega)]

/-! ### laws_toVote laws_toIntS -/
theorem toVote (l : List Int) (q : Int) (h : l.length ≤ 35184372088832) : Ev (fun k => laws_toVote.f k l q) (l, q) := by
  unfold laws_toVote.f
  exact evb (toIntS l h) (evs rfl)

/-! ### laws_eqVote laws_eqIntS -/
theorem eqVote (l : List Int) (q : Int) (l' : List Int) (q' : Int) (h : l.length < 4611686018427387904) : Ev (fun k => laws_eqVote.f k l q l' q') (decide (l = l') && decide (q = q')) := by
  unfold laws_eqVote.f
  refine evb (eqIntS l l' h) ?_
  by_cases e : l = l'
  · refine evp (by simpa using e) ?_
    by_cases e' : q = q'
    · exact evp e' (evs (by simp [e, e']))
    · exact evn e' (evs (by simp [e, e']))
  · exact evn (by simpa using e) (evs (by simp [e]))

/-! ### spec_l6Vote -/
theorem l6Vote_l0 (l : List Int) (q : Int) (hl : l.length < 4611686018427387904) : ∀ (d i : Nat) (s : Int), i + d = l.length → i ≤ 9 → 0 ≤ s → s ≤ 20 * i →
    Ev (fun k => spec_l6Vote.l0 k s (i : Int) l q) (decide (1 ≤ l.length ∧ l.length ≤ 8) && (okW (l.drop i) && decide (1 ≤ q ∧ q ≤ s + isum (l.drop i)))) := by
  intro d
  induction d with
  | zero =>
    intro i s hi h9 hs0 hs
    have hd : l.drop i = [] := List.drop_of_length_le (by omega)
    refine Ev.step (fun k => spec_l6Vote.l0.eq_2 ..) (evn (by omega) (Ev.step (fun k => spec_l6Vote.j1.eq_2 ..) (evn (by simp) ?_)))
    rw [l1In, l1In]; simp only [Option.bind_some]
    by_cases e : 1 ≤ l.length ∧ l.length ≤ 8
    · refine evp (by simp; omega) (evs ?_)
      rw [hd, decide_eq_true e]; simp [okW, isum]
    · refine evn (by simp; omega) (evs ?_)
      rw [decide_eq_false e]; simp
  | succ d ih =>
    intro i s hi h9 hs0 hs
    have hd := List.drop_eq_getElem_cons (show i < l.length by omega)
    refine Ev.step (fun k => spec_l6Vote.l0.eq_2 ..) (evp (by omega) (Ev.step (fun k => spec_l6Vote.j1.eq_2 ..) ?_))
    by_cases e8 : i ≤ 8
    · refine evp (by simp; omega) (evp (by omega) (evp (by omega) ?_))
      rw [l1In, rd_nat, w64s i (by omega)]
      simp only [List.getD_eq_getElem?_getD, List.getElem?_eq_getElem (show i < l.length by omega), Option.getD_some, Option.bind_some]
      by_cases e : 0 ≤ l[i] ∧ l[i] ≤ 20
      · refine evp (by simpa using e) ?_
        rw [w64 (x := s + l[i]) (by omega) (by omega)]
        refine evr (ih (i + 1) _ (by omega) (by omega) (by omega) (by omega)) ?_
        rw [hd, show s + isum (l[i] :: l.drop (i + 1)) = s + l[i] + isum (l.drop (i + 1)) by simp only [isum]; omega]; simp only [okW, List.all_cons, decide_eq_true e, Bool.true_and]
      · refine evn (by simpa using e) (evs ?_)
        rw [hd]; simp only [okW, List.all_cons, decide_eq_false e, Bool.false_and, Bool.and_false]
    · refine evn (by simp; omega) ?_
      rw [l1In, l1In]; simp only [Option.bind_some]
      have e : ¬ (1 ≤ l.length ∧ l.length ≤ 8) := by omega
      refine evn (by simp; omega) (evs ?_)
      rw [decide_eq_false e]; simp
theorem l6Vote (l : List Int) (q : Int) (hl : l.length < 4611686018427387904) : Ev (fun k => spec_l6Vote.f k l q) (voteB l q) := by
  unfold spec_l6Vote.f
  exact evr (l6Vote_l0 l q hl l.length 0 0 (by omega) (by omega) (by omega) (by omega)) (by simp [voteB])

/-! ### impl_total -/
theorem total_l0 (l : List Int) (b : Int) (hb : 0 ≤ b ∧ b ≤ 1000000000000) (hx : ∀ x ∈ l, -b ≤ x ∧ x ≤ b) (hl : l.length ≤ 1048576) : ∀ (d i : Nat) (s : Int), i + d = l.length → -(b * i) ≤ s → s ≤ b * i →
    Ev (fun k => impl_total.l0 k s l (l.length : Int) (i : Int)) (s + isum (l.drop i)) := by
  intro d
  induction d with
  | zero =>
    intro i s hi hs0 hs
    have hd : l.drop i = [] := List.drop_of_length_le (by omega)
    exact Ev.step (fun k => impl_total.l0.eq_2 ..) (evn (by omega) (evs (by rw [hd]; simp [isum])))
  | succ d ih =>
    intro i s hi hs0 hs
    have hd := List.drop_eq_getElem_cons (show i < l.length by omega)
    have hi' := hx l[i] (List.getElem_mem (by omega))
    have hbi : b * (i : Int) ≤ 1000000000000 * 1048576 := Int.mul_le_mul hb.2 (by omega) (by omega) (by omega)
    have hbs : b * ((i + 1 : Nat) : Int) = b * i + b := by rw [show ((i + 1 : Nat) : Int) = (i : Int) + 1 by omega, Int.mul_add]; omega
    refine Ev.step (fun k => impl_total.l0.eq_2 ..) (evp (by omega) (evp (by omega) (evp (by omega) ?_)))
    rw [rd_nat, w64s i (by omega)]
    simp only [List.getD_eq_getElem?_getD, List.getElem?_eq_getElem (show i < l.length by omega), Option.getD_some]
    rw [w64 (x := s + l[i]) (by omega) (by omega)]
    refine evr (ih (i + 1) _ (by omega) (by omega) (by omega)) ?_
    rw [hd]; simp only [isum, Int.add_assoc]
theorem total (l : List Int) (b : Int) (hb : 0 ≤ b ∧ b ≤ 1000000000000) (hx : ∀ x ∈ l, -b ≤ x ∧ x ≤ b) (hl : l.length ≤ 1048576) : Ev (fun k => impl_total.f k l) (isum l) := by
  unfold impl_total.f
  exact evr (total_l0 l b hb hx hl l.length 0 0 (by omega) (by simp) (by simp)) (by simp)

/-! ### impl_IsVote -/
theorem iIsVote (l : List Int) (q : Int) (hl : l.length < 4611686018427387904) : Ev (fun k => impl_IsVote.f k l q) (voteB l q) := by
  unfold impl_IsVote.f voteB
  rw [within]; simp only [Option.bind_some]
  by_cases e : 1 ≤ l.length ∧ l.length ≤ 8
  · refine evp (by simp; omega) (evb (allWithin l 0 20 hl) ?_)
    rw [decide_eq_true e, Bool.true_and]
    by_cases e' : okW l = true
    · refine evp e' (evb (total l 20 (by omega) (fun x hx => ?_) (by omega)) (evb (evc (within ..)) (evs ?_)))
      · have := (List.all_eq_true.1 e') x hx; simp at this; omega
      · rw [e', Bool.true_and]
    · exact evn e' (evs (by simp [e']))
  · exact evn (by simp; omega) (evs (by simp [e]))

/-! ### spec_l6Wins -/
theorem l6Wins_l1 {l : List Int} {q : Int} (h : Vot l q) (c : Nat) (hc : c < 2 ^ l.length) (out : List Bool) (ho : out.length = c) (r : List Bool)
    (hr : Ev (fun k => spec_l6Wins.l0 k (out ++ [winB l q c]) ((c + 1 : Nat) : Int) l q) r) : ∀ (d i : Nat) (s : Int), i + d = l.length → 0 ≤ s → s ≤ 20 * i → s + sumN (wterm l c) i d = wsum l c →
    Ev (fun k => spec_l6Wins.l1 k out (c : Int) s (i : Int) l q) r := by
  have h8 := h.1
  have hp := pow8 l.length h8.2
  intro d
  induction d with
  | zero =>
    intro i s hi h0 hs he
    refine Ev.step (fun k => spec_l6Wins.l1.eq_2 ..) (evn (by omega) (evp (by omega) ?_))
    rw [w64s c (by omega)]
    simp only [sumN, Int.add_zero] at he
    subst he
    exact hr
  | succ d ih =>
    intro i s hi h0 hs he
    have ht := h.wterm c i
    refine Ev.step (fun k => spec_l6Wins.l1.eq_2 ..) (evp (by omega) (evp (by omega) ?_))
    rw [digit c i (by omega) (by omega), rd_nat, w64s i (by omega), show l.getD i 0 * ((bit c i : Nat) : Int) = wterm l c i from rfl, w64 (x := wterm l c i) (by omega) (by omega), w64 (x := s + wterm l c i) (by omega) (by omega)]
    refine ih (i + 1) _ (by omega) (by omega) (by omega) ?_
    rw [← he]; simp only [sumN]; omega
theorem l6Wins_l0 {l : List Int} {q : Int} (h : Vot l q) : ∀ (d c : Nat) (out : List Bool), c + d = 2 ^ l.length → out.length = c →
    Ev (fun k => spec_l6Wins.l0 k out (c : Int) l q) (out ++ (List.range' c d).map (winB l q)) := by
  have h8 := h.1
  have hp := pow8 l.length h8.2
  intro d
  induction d with
  | zero =>
    intro c out hc ho
    refine Ev.step (fun k => spec_l6Wins.l0.eq_2 ..) ?_
    rw [shl1 l.length (by omega)]
    exact evn (by omega) (evs (by simp))
  | succ d ih =>
    intro c out hc ho
    refine Ev.step (fun k => spec_l6Wins.l0.eq_2 ..) ?_
    rw [shl1 l.length (by omega)]
    refine evp (by omega) (evr (l6Wins_l1 h c (by omega) out ho _ (ih (c + 1) _ (by omega) (by simp; omega)) l.length 0 0 (by omega) (by omega) (by omega) (by simp [wsum])) ?_)
    simp [List.range'_succ]
theorem l6Wins {l : List Int} {q : Int} (h : Vot l q) : Ev (fun k => spec_l6Wins.f k l q) ((List.range (2 ^ l.length)).map (winB l q)) := by
  unfold spec_l6Wins.f
  refine evr (l6Wins_l0 h (2 ^ l.length) 0 [] (by omega) rfl) ?_
  rw [List.range_eq_range']; rfl

/-! ### impl_Vote_wins -/
theorem wins_l0 {l : List Int} {q : Int} (h : Vot l q) (c : Nat) (hc : c < 2 ^ 62) : ∀ (d i : Nat) (s : Int), i + d = l.length → 0 ≤ s → s ≤ 20 * i → s + sumN (wterm l c) i d = wsum l c →
    Ev (fun k => impl_Vote_wins.l0 k (c : Int) s l (l.length : Int) (i : Int) l q) (winB l q c) := by
  have h8 := h.1
  intro d
  induction d with
  | zero =>
    intro i s hi h0 hs he
    refine Ev.step (fun k => impl_Vote_wins.l0.eq_2 ..) (evn (by omega) (evs ?_))
    simp only [sumN, Int.add_zero] at he
    subst he
    rfl
  | succ d ih =>
    intro i s hi h0 hs he
    have ht := h.wterm c i
    refine Ev.step (fun k => impl_Vote_wins.l0.eq_2 ..) (evp (by omega) (evp (by omega) (evp (by omega) ?_)))
    rw [digit c i (by omega) (by omega), rd_nat, w64s i (by omega), show l.getD i 0 * ((bit c i : Nat) : Int) = wterm l c i from rfl, w64 (x := wterm l c i) (by omega) (by omega), w64 (x := s + wterm l c i) (by omega) (by omega)]
    refine ih (i + 1) _ (by omega) (by omega) (by omega) ?_
    rw [← he]; simp only [sumN]; omega
theorem wins {l : List Int} {q : Int} (h : Vot l q) (c : Nat) (hc : c < 2 ^ 62) : Ev (fun k => impl_Vote_wins.f k l q (c : Int)) (winB l q c) := by
  unfold impl_Vote_wins.f
  exact wins_l0 h c hc l.length 0 0 (by omega) (by omega) (by omega) (by simp [wsum])

/-! ### impl_Vote_all -/
theorem vall {l : List Int} (q : Int) (h : l.length ≤ 8) : impl_Vote_all.f l q = some (((2 ^ l.length : Nat) : Int) - 1) := by
  unfold impl_Vote_all.f
  have hp := pow8 l.length h
  rw [shl1 l.length (by omega), w64 (by omega) (by omega)]

/-! ### cmp_Compare_int -/
theorem compareInt (a b : Int) : cmp_Compare_int.f a b = some (if a < b then -1 else if a > b then 1 else 0) := by
  unfold cmp_Compare_int.f cmp_isNaN_int.f
  simp only [bne_self_eq_false, Option.bind_some, Bool.false_eq_true, if_false]
  split
  · rfl
  · split <;> rfl

/-! ### slices_Compare_int_int cmp_Compare_int -/
theorem compareL_l0 (a b : List Int) (hx : a.length < 4611686018427387904) : ∀ (d i : Nat), i + d = a.length → i ≤ b.length →
    Ev (fun k => slices_Compare_int_int.l0 k a b a (a.length : Int) (i : Int)) (cmpv (a.drop i) (b.drop i)) := by
  intro d
  induction d with
  | zero =>
    intro i hi hb
    refine Ev.step (fun k => slices_Compare_int_int.l0.eq_2 ..) (evn (by omega) ?_)
    rw [List.drop_of_length_le (show a.length ≤ i by omega)]
    by_cases e : a.length < b.length
    · refine evp (by omega) (evs ?_)
      rw [List.drop_eq_getElem_cons (show i < b.length by omega)]; rfl
    · refine evn (by omega) (evs ?_)
      rw [List.drop_of_length_le (show b.length ≤ i by omega)]; rfl
  | succ d ih =>
    intro i hi hb
    refine Ev.step (fun k => slices_Compare_int_int.l0.eq_2 ..) (evp (by omega) (evp (by omega) (evp (by omega) ?_)))
    rw [List.drop_eq_getElem_cons (show i < a.length by omega)]
    by_cases e : i ≥ b.length
    · refine evp (by omega) (evs ?_)
      rw [List.drop_of_length_le (show b.length ≤ i by omega)]; rfl
    · refine evn (by omega) (evp (by omega) ?_)
      rw [rd_nat, rd_nat, compareInt, w64s i (by omega), List.drop_eq_getElem_cons (show i < b.length by omega)]
      simp only [List.getD_eq_getElem?_getD, List.getElem?_eq_getElem (show i < a.length by omega), List.getElem?_eq_getElem (show i < b.length by omega), Option.getD_some, Option.bind_some, cmpv]
      by_cases e1 : a[i] < b[i]
      · rw [if_pos e1]; exact evn (by decide) (evs (by rw [if_pos e1]))
      · rw [if_neg e1]
        by_cases e2 : a[i] > b[i]
        · rw [if_pos e2]; exact evn (by decide) (evs (by rw [if_neg e1, if_pos e2]))
        · rw [if_neg e2]; exact evp rfl (evr (ih (i + 1) (by omega) (by omega)) (by rw [if_neg e1, if_neg e2]))
theorem compareL (a b : List Int) (hx : a.length < 4611686018427387904) : Ev (fun k => slices_Compare_int_int.f k a b) (cmpv a b) := by
  unfold slices_Compare_int_int.f
  exact compareL_l0 a b hx a.length 0 (by omega) (by omega)

/-! ### impl_compareSets slices_Compare_int_int cmp_Compare_int impl_Vote_wins impl_Vote_all -/
theorem cmpT_cmpv : ∀ a b : List Int, cmpT a b = cmpv a b
  | [], [] => rfl
  | [], _ :: _ => rfl
  | _ :: _, [] => rfl
  | x :: a, y :: b => by unfold cmpT cmpv; rw [cmpT_cmpv a b]
theorem compareS (a b : List Int) (ha : a.length ≤ 1048576) (hb : b.length ≤ 1048576) : Ev (fun k => impl_compareSets.f k a b) (cfS a b) := by
  unfold impl_compareSets.f cfS
  by_cases e : (a.length : Int) = (b.length : Int)
  · rw [if_pos e, cmpT_cmpv]
    exact evp e (evb (compareL a b (by omega)) (evs rfl))
  · rw [if_neg e]
    exact evn e (evs (w64 (by omega) (by omega)))
theorem ev_all {P : Nat → Nat → Prop} : ∀ n : Nat, (∀ t, t < n → ∃ K, ∀ k, K ≤ k → P t k) → ∃ K, ∀ k, K ≤ k → ∀ t, t < n → P t k
  | 0, _ => ⟨0, fun _ _ t ht => absurd ht (by omega)⟩
  | n + 1, h => by
    obtain ⟨K1, h1⟩ := ev_all n (fun t ht => h t (by omega))
    obtain ⟨K2, h2⟩ := h n (by omega)
    refine ⟨max K1 K2, fun k hk t ht => ?_⟩
    rcases Nat.lt_or_ge t n with h3 | h3
    · exact h1 k (by omega) t h3
    · obtain rfl : t = n := by omega
      exact h2 k (by omega)
theorem okv_ev {l : List Int} {q : Int} (h : Vot l q) : ∃ K, ∀ k, K ≤ k → OKV k l q ∧ ∀ t : Nat, t < 256 → winV k l q t = winB l q t := by
  obtain ⟨K1, h1⟩ := ev_all (P := fun t k => impl_Vote_wins.f k l q (t : Int) = some (winB l q t)) 256 (fun t ht => wins h t (by omega))
  obtain ⟨K2, h2⟩ := ev_all (P := fun s k => ∀ t, t < 256 → impl_compareSets.f k (bitsV s) (bitsV t) = some (cfS (bitsV s) (bitsV t))) 256 (fun s hs => ev_all 256 (fun t ht => compareS _ _ (by have := bitsV_len s hs; omega) (by have := bitsV_len t ht; omega)))
  refine ⟨max K1 K2, fun k hk => ⟨⟨h.1.2, fun t ht => ?_, fun s hs t ht => h2 k (by omega) s hs t ht, ?_⟩, fun t ht => ?_⟩⟩
  · rw [h1 k (by omega) t ht]; rfl
  · rw [vall q h.1.2]
  · unfold winV; rw [h1 k (by omega) t ht]; rfl

/-! ### impl_CountWins impl_compareSets -/
def countV (l : List Int) (q : Int) : Int × Bool := if voteB l q = true then ((((List.range (2 ^ l.length)).filter (winB l q)).length : Nat), true) else (0, false)
theorem iCount (l : List Int) (q : Int) (hl : l.length < 4611686018427387904) : Ev (fun k => impl_CountWins.f k l q) (countV l q) := by
  unfold impl_CountWins.f countV
  refine evb (iIsVote l q hl) ?_
  by_cases e : voteB l q = true
  · have h := (voteB_iff l q).1 e
    rw [if_pos e]
    refine evp e ?_
    obtain ⟨K, hK⟩ := okv_ev h
    refine ⟨K, fun k hk => ?_⟩
    have hp := pow8 l.length h.1.2
    dsimp only
    rw [if_pos (hK k hk).1, filter_congr_ (winV k l q) (winB l q) _ (fun s hs => (hK k hk).2 s (by have := List.mem_range.1 hs; omega))]
  · exact evn e (evs (by rw [if_neg e]))

/-! ### spec_CountWins impl_CountWins -/
theorem sCount_l0 (f : Nat → Bool) (n : Nat) (hn : n < 1000000) : ∀ (d c : Nat) (m : Nat), c + d = n → m ≤ c →
    Ev (fun k => spec_CountWins.l0 k (m : Int) ((List.range n).map f) (c : Int)) (((m + ((List.range' c d).filter f).length : Nat) : Int), true) := by
  intro d
  induction d with
  | zero =>
    intro c m hc hm
    exact Ev.step (fun k => spec_CountWins.l0.eq_2 ..) (evn (by simp; omega) (evs (by simp)))
  | succ d ih =>
    intro c m hc hm
    refine Ev.step (fun k => spec_CountWins.l0.eq_2 ..) (evp (by simp; omega) (evp (by omega) ?_))
    rw [w64s c (by omega), rdOf_map f n c (by omega)]
    by_cases e : f c = true
    · refine evp e ?_
      rw [w64s m (by omega)]
      refine evr (ih (c + 1) (m + 1) (by omega) (by omega)) ?_
      rw [List.range'_succ, List.filter_cons_of_pos e, List.length_cons]
      simp only [Prod.mk.injEq, and_true]; omega
    · refine evn e (evr (ih (c + 1) m (by omega) (by omega)) ?_)
      rw [List.range'_succ, List.filter_cons_of_neg e]
theorem sCount (l : List Int) (q : Int) (hl : l.length < 4611686018427387904) : Ev (fun k => spec_CountWins.f k l q) (countV l q) := by
  unfold spec_CountWins.f countV
  refine evb (l6Vote l q hl) ?_
  by_cases e : voteB l q = true
  · have h := (voteB_iff l q).1 e
    have hp := pow8 l.length h.1.2
    refine evp e (evb (l6Wins h) (evr (sCount_l0 _ (2 ^ l.length) (by omega) (2 ^ l.length) 0 0 (by omega) (by omega)) ?_))
    rw [if_pos e, List.range_eq_range', Nat.zero_add]
  · exact evn e (evs (by rw [if_neg e]))

/-! ### laws_FnExactCountWins -/
theorem law (l : List Int) (q : Int) (hl : l.length ≤ maxLen) : Ev (fun k => laws_FnExactCountWins.f k l q) true := by
  unfold laws_FnExactCountWins.f
  rw [szVote l q 1048576 (by omega) (by omega) hl]; simp only [Option.bind_some]
  by_cases h : (l.length : Int) ≤ 1048576
  · rw [if_pos h]
    have hs := sCount l q (by omega)
    have hi := iCount l q (by omega)
    generalize countV l q = R at *
    repeat (first
    | exact evs rfl
    | dsimp only
    | (with_reducible refine evb hs ?_)
    | (with_reducible refine evb hi ?_)
    | ((with_reducible refine evb (toIntS _ ?_) ?_); (focus (first | omega | assumption)))
    | ((with_reducible refine evb (eqIntS _ _ ?_) ?_); (focus (first | omega | assumption)))
    | ((with_reducible refine evb (toVote _ _ ?_) ?_); (focus (first | omega | assumption)))
    | ((with_reducible refine evb (eqVote _ _ _ _ ?_) ?_); (focus (first | omega | assumption)))
    | (refine evp ?_ ?_; focus (first | omega | (simp; done)))
    | (refine evn ?_ ?_; focus (first | omega | (simp; done)))
    | (with_reducible refine Ev.step (fun k => laws_FnExactCountWins.j0.eq_2 ..) ?_)
    )
  · rw [if_neg h]; exact evp (by omega) (evs rfl)

end Go.Proofs.YtlbleemoiabmdaaDoor.LFnExactCountWins
