/- Own lemmas: what the printed functions of one law come to. -/
import Derived.Test.YtheohibankpfeaaMFnExactWinsWithx4
import Derived.Test.YtheohibankpfeaaBase
namespace Go.Proofs.Ytheohibankpfeaa.LFnExactWinsWith
open Go Go.RowKit Go.Proofs.Ytheohibankpfeaa.Base Go.Proofs.Ytheohibankpfeaa.PFnExactWinsWith Go.Proofs.YtheohibankpfeaaW.PrintWords Go.Proofs.YtheohibankpfeaaW.PrintLast Go.Proofs.YtheohibankpfeaaW.PrintMore
set_option linter.unusedVariables false
set_option linter.unusedSimpArgs false
set_option maxRecDepth 4000

/-! ### laws_toIntS -/
theorem toIntS_l0 (x0 : List Int) (hx : x0.length < 4611686018427387904) : ∀ (d i : Nat) (x3 : List Int), i + d = x0.length → x3.length = x0.length →
    Ev (fun k => laws_toIntS.l0 k x0 x3 (i : Int)) (x3.take i ++ x0.drop i) := by
  intro d
  induction d with
  | zero =>
    intro i x3 hi hl
    refine Ev.step (fun k => laws_toIntS.l0.eq_2 ..) (evn (by omega) (evs ?_))
    simp [List.take_of_length_le (show x3.length ≤ i by omega), List.drop_of_length_le (show x0.length ≤ i by omega)]
  | succ d ih =>
    intro i x3 hi hl
    refine Ev.step (fun k => laws_toIntS.l0.eq_2 ..) (evp (by omega) (evp (by omega) (evp (by omega) ?_)))
    rw [w64s i (by omega), rd_nat]
    refine evr (ih (i + 1) _ (by omega) (by simpa using hl)) ?_
    rw [Int.toNat_natCast, set_take _ _ _ (by omega), List.drop_eq_getElem_cons (show i < x0.length by omega), List.append_assoc]
    simp [List.getD_eq_getElem?_getD, List.getElem?_eq_getElem (show i < x0.length by omega)]
theorem toIntS (l : List Int) (h : l.length ≤ 35184372088832) : Ev (fun k => laws_toIntS.f k l) l := by
  unfold laws_toIntS.f
  refine evp (by omega) (evp (by simpa using h) ?_)
  refine evr (toIntS_l0 l (by omega) l.length 0 _ (by omega) (by simp)) (by simp)

/-! ### laws_eqIntS -/
theorem eqIntS_l0 (a b : List Int) (hl : a.length = b.length) (hx : a.length < 4611686018427387904) : ∀ (d i : Nat), i + d = a.length →
    Ev (fun k => laws_eqIntS.l0 k a b (i : Int)) (decide (a.drop i = b.drop i)) := by
  intro d
  induction d with
  | zero =>
    intro i hi
    refine Ev.step (fun k => laws_eqIntS.l0.eq_2 ..) (evn (by omega) (evs ?_))
    simp [List.drop_of_length_le (show a.length ≤ i by omega), List.drop_of_length_le (show b.length ≤ i by omega)]
  | succ d ih =>
    intro i hi
    refine Ev.step (fun k => laws_eqIntS.l0.eq_2 ..) (evp (by omega) (evp (by omega) (evp (by omega) ?_)))
    rw [w64s i (by omega), rd_nat, rd_nat]
    have ea := List.drop_eq_getElem_cons (show i < a.length by omega)
    have eb := List.drop_eq_getElem_cons (show i < b.length by omega)
    simp only [List.getD_eq_getElem?_getD, List.getElem?_eq_getElem (show i < a.length by omega), List.getElem?_eq_getElem (show i < b.length by omega), Option.getD_some]
    by_cases e : a[i] = b[i]
    · refine evp e (evr (ih (i + 1) (by omega)) ?_)
      rw [ea, eb, e]; simp only [List.cons.injEq, true_and]
    · refine evn e (evs ?_)
      rw [ea, eb]; simp only [List.cons.injEq, e, false_and, decide_false]
theorem eqIntS (a b : List Int) (hx : a.length < 4611686018427387904) : Ev (fun k => laws_eqIntS.f k a b) (decide (a = b)) := by
  unfold laws_eqIntS.f
  by_cases h : a.length = b.length
  · refine evp (by omega) (evr (eqIntS_l0 a b h hx a.length 0 (by omega)) (by simp))
  · refine evn (by omega) (evs ?_)
    have : a ≠ b := fun e => h (by rw [e])
    simp [this]

/-! ### spec_l1In -/
theorem l1In (a b c : Int) : spec_l1In.f a b c = some (decide (b ≤ a ∧ a ≤ c)) := by
  unfold spec_l1In.f; split <;> simp_all <;> omega

/-! ### impl_within -/
theorem within (a b c : Int) : impl_within.f a b c = some (decide (b ≤ a ∧ a ≤ c)) := by
  unfold impl_within.f; split <;> simp_all <;> omega

/-! ### impl_allWithin -/
theorem allWithin_l0 (lo up : Int) (l : List Int) (hx : l.length < 4611686018427387904) : ∀ (d i : Nat), i + d = l.length →
    Ev (fun k => impl_allWithin.l0 k lo up l (l.length : Int) (i : Int)) ((l.drop i).all fun x => decide (lo ≤ x ∧ x ≤ up)) := by
  intro d
  induction d with
  | zero =>
    intro i hi
    refine Ev.step (fun k => impl_allWithin.l0.eq_2 ..) (evn (by omega) (evs ?_))
    simp [List.drop_of_length_le (show l.length ≤ i by omega)]
  | succ d ih =>
    intro i hi
    refine Ev.step (fun k => impl_allWithin.l0.eq_2 ..) (evp (by omega) (evp (by omega) (evp (by omega) ?_)))
    rw [w64s i (by omega), rd_nat, within, List.drop_eq_getElem_cons (show i < l.length by omega)]
    simp only [List.getD_eq_getElem?_getD, List.getElem?_eq_getElem (show i < l.length by omega), Option.getD_some, Option.bind_some, List.all_cons]
    by_cases e : lo ≤ l[i] ∧ l[i] ≤ up
    · refine evp (by simpa using e) (evr (ih (i + 1) (by omega)) (by simp [e]))
    · refine evn (by simpa using e) (evs (by simp [e]))
theorem allWithin (l : List Int) (lo up : Int) (hx : l.length < 4611686018427387904) : Ev (fun k => impl_allWithin.f k l lo up) (l.all fun x => decide (lo ≤ x ∧ x ≤ up)) := by
  unfold impl_allWithin.f
  exact allWithin_l0 lo up l hx l.length 0 (by omega)

/-! ### laws_szIntS -/
theorem szIntS (l : List Int) (m : Int) (h0 : 0 ≤ m) (hm : m ≤ 1048576) (hl : l.length ≤ maxLen) : laws_szIntS.f l m = some (if (l.length : Int) ≤ m then m - l.length else -1) := by
  unfold maxLen at hl
  unfold laws_szIntS.f
  rw [w64 (x := m - (l.length : Int)) (by omega) (by omega)]
  by_cases h : (l.length : Int) ≤ m
  · rw [if_neg (by omega), if_pos h]
  · rw [if_pos (by omega), if_neg h]

/-! ### laws_szVote laws_szIntS -/
theorem szVote (l : List Int) (q m : Int) (h0 : 0 ≤ m) (hm : m ≤ 1048576) (hl : l.length ≤ maxLen) : laws_szVote.f l q m = some (if (l.length : Int) ≤ m then m - l.length else -1) := by
  unfold laws_szVote.f
  rw [szIntS l m h0 hm hl]
  simp only [Option.bind_some]
  by_cases h : (l.length : Int) ≤ m
  · rw [if_pos h, if_neg (by omega)]
  · rw [if_neg h, if_pos (by omega)]

/-! ### laws_toVote laws_toIntS -/
theorem toVote (l : List Int) (q : Int) (h : l.length ≤ 35184372088832) : Ev (fun k => laws_toVote.f k l q) (l, q) := by
  unfold laws_toVote.f
  exact evb (toIntS l h) (evs rfl)

/-! ### laws_eqVote laws_eqIntS -/
theorem eqVote (l : List Int) (q : Int) (l' : List Int) (q' : Int) (h : l.length < 4611686018427387904) : Ev (fun k => laws_eqVote.f k l q l' q') (decide (l = l') && decide (q = q')) := by
  unfold laws_eqVote.f
  refine evb (eqIntS l l' h) ?_
  by_cases e : l = l'
  · refine evp (by simpa using e) ?_
    by_cases e' : q = q'
    · exact evp e' (evs (by simp [e, e']))
    · exact evn e' (evs (by simp [e, e']))
  · exact evn (by simpa using e) (evs (by simp [e]))

/-! ### spec_l6Vote -/
theorem l6Vote_l0 (l : List Int) (q : Int) (hl : l.length < 4611686018427387904) : ∀ (d i : Nat) (s : Int), i + d = l.length → i ≤ 9 → 0 ≤ s → s ≤ 20 * i →
    Ev (fun k => spec_l6Vote.l0 k s (i : Int) l q) (decide (1 ≤ l.length ∧ l.length ≤ 8) && (okW (l.drop i) && decide (1 ≤ q ∧ q ≤ s + isum (l.drop i)))) := by
  intro d
  induction d with
  | zero =>
    intro i s hi h9 hs0 hs
    have hd : l.drop i = [] := List.drop_of_length_le (by omega)
    refine Ev.step (fun k => spec_l6Vote.l0.eq_2 ..) (evn (by omega) (Ev.step (fun k => spec_l6Vote.j1.eq_2 ..) (evn (by simp) ?_)))
    rw [l1In, l1In]; simp only [Option.bind_some]
    by_cases e : 1 ≤ l.length ∧ l.length ≤ 8
    · refine evp (by simp; omega) (evs ?_)
      rw [hd, decide_eq_true e]; simp [okW, isum]
    · refine evn (by simp; omega) (evs ?_)
      rw [decide_eq_false e]; simp
  | succ d ih =>
    intro i s hi h9 hs0 hs
    have hd := List.drop_eq_getElem_cons (show i < l.length by omega)
    refine Ev.step (fun k => spec_l6Vote.l0.eq_2 ..) (evp (by omega) (Ev.step (fun k => spec_l6Vote.j1.eq_2 ..) ?_))
    by_cases e8 : i ≤ 8
    · refine evp (by simp; omega) (evp (by omega) (evp (by omega) ?_))
      rw [l1In, rd_nat, w64s i (by omega)]
      simp only [List.getD_eq_getElem?_getD, List.getElem?_eq_getElem (show i < l.length by omega), Option.getD_some, Option.bind_some]
      by_cases e : 0 ≤ l[i] ∧ l[i] ≤ 20
      · refine evp (by simpa using e) ?_
        rw [w64 (x := s + l[i]) (by omega) (by omega)]
        refine evr (ih (i + 1) _ (by omega) (by omega) (by omega) (by omega)) ?_
        rw [hd, show s + isum (l[i] :: l.drop (i + 1)) = s + l[i] + isum (l.drop (i + 1)) by simp only [isum]; omega]; simp only [okW, List.all_cons, decide_eq_true e, Bool.true_and]
      · refine evn (by simpa using e) (evs ?_)
        rw [hd]; simp only [okW, List.all_cons, decide_eq_false e, Bool.false_and, Bool.and_false]
    · refine evn (by simp; omega) ?_
      rw [l1In, l1In]; simp only [Option.bind_some]
      have e : ¬ (1 ≤ l.length ∧ l.length ≤ 8) := by omega
      refine evn (by simp; omega) (evs ?_)
      rw [decide_eq_false e]; simp
theorem l6Vote (l : List Int) (q : Int) (hl : l.length < 4611686018427387904) : Ev (fun k => spec_l6Vote.f k l q) (voteB l q) := by
  unfold spec_l6Vote.f
  exact evr (l6Vote_l0 l q hl l.length 0 0 (by omega) (by omega) (by omega) (by omega)) (by simp [voteB])

/-! ### impl_total -/
theorem total_l0 (l : List Int) (b : Int) (hb : 0 ≤ b ∧ b ≤ 1000000000000) (hx : ∀ x ∈ l, -b ≤ x ∧ x ≤ b) (hl : l.length ≤ 1048576) : ∀ (d i : Nat) (s : Int), i + d = l.length → -(b * i) ≤ s → s ≤ b * i →
    Ev (fun k => impl_total.l0 k s l (l.length : Int) (i : Int)) (s + isum (l.drop i)) := by
  intro d
  induction d with
  | zero =>
    intro i s hi hs0 hs
    have hd : l.drop i = [] := List.drop_of_length_le (by omega)
    exact Ev.step (fun k => impl_total.l0.eq_2 ..) (evn (by omega) (evs (by rw [hd]; simp [isum])))
  | succ d ih =>
    intro i s hi hs0 hs
    have hd := List.drop_eq_getElem_cons (show i < l.length by omega)
    have hi' := hx l[i] (List.getElem_mem (by omega))
    have hbi : b * (i : Int) ≤ 1000000000000 * 1048576 := Int.mul_le_mul hb.2 (by omega) (by omega) (by omega)
    have hbs : b * ((i + 1 : Nat) : Int) = b * i + b := by rw [show ((i + 1 : Nat) : Int) = (i : Int) + 1 by omega, Int.mul_add]; omega
    refine Ev.step (fun k => impl_total.l0.eq_2 ..) (evp (by omega) (evp (by omega) (evp (by omega) ?_)))
    rw [rd_nat, w64s i (by omega)]
    simp only [List.getD_eq_getElem?_getD, List.getElem?_eq_getElem (show i < l.length by omega), Option.getD_some]
    rw [w64 (x := s + l[i]) (by omega) (by omega)]
    refine evr (ih (i + 1) _ (by omega) (by omega) (by omega)) ?_
    rw [hd]; simp only [isum, Int.add_assoc]
theorem total (l : List Int) (b : Int) (hb : 0 ≤ b ∧ b ≤ 1000000000000) (hx : ∀ x ∈ l, -b ≤ x ∧ x ≤ b) (hl : l.length ≤ 1048576) : Ev (fun k => impl_total.f k l) (isum l) := by
  unfold impl_total.f
  exact evr (total_l0 l b hb hx hl l.length 0 0 (by omega) (by simp) (by simp)) (by simp)

/-! ### impl_IsVote -/
theorem iIsVote (l : List Int) (q : Int) (hl : l.length < 4611686018427387904) : Ev (fun k => impl_IsVote.f k l q) (voteB l q) := by
  unfold impl_IsVote.f voteB
  rw [within]; simp only [Option.bind_some]
  by_cases e : 1 ≤ l.length ∧ l.length ≤ 8
  · refine evp (by simp; omega) (evb (allWithin l 0 20 hl) ?_)
    rw [decide_eq_true e, Bool.true_and]
    by_cases e' : okW l = true
    · refine evp e' (evb (total l 20 (by omega) (fun x hx => ?_) (by omega)) (evb (evc (within ..)) (evs ?_)))
      · have := (List.all_eq_true.1 e') x hx; simp at this; omega
      · rw [e', Bool.true_and]
    · exact evn e' (evs (by simp [e']))
  · exact evn (by simp; omega) (evs (by simp [e]))

/-! ### spec_l6Wins -/
theorem l6Wins_l1 {l : List Int} {q : Int} (h : Vot l q) (c : Nat) (hc : c < 2 ^ l.length) (out : List Bool) (ho : out.length = c) (r : List Bool)
    (hr : Ev (fun k => spec_l6Wins.l0 k (out ++ [winB l q c]) ((c + 1 : Nat) : Int) l q) r) : ∀ (d i : Nat) (s : Int), i + d = l.length → 0 ≤ s → s ≤ 20 * i → s + sumN (wterm l c) i d = wsum l c →
    Ev (fun k => spec_l6Wins.l1 k out (c : Int) s (i : Int) l q) r := by
  have h8 := h.1
  have hp := pow8 l.length h8.2
  intro d
  induction d with
  | zero =>
    intro i s hi h0 hs he
    refine Ev.step (fun k => spec_l6Wins.l1.eq_2 ..) (evn (by omega) (evp (by omega) ?_))
    rw [w64s c (by omega)]
    simp only [sumN, Int.add_zero] at he
    subst he
    exact hr
  | succ d ih =>
    intro i s hi h0 hs he
    have ht := h.wterm c i
    refine Ev.step (fun k => spec_l6Wins.l1.eq_2 ..) (evp (by omega) (evp (by omega) ?_))
    rw [digit c i (by omega) (by omega), rd_nat, w64s i (by omega), show l.getD i 0 * ((bit c i : Nat) : Int) = wterm l c i from rfl, w64 (x := wterm l c i) (by omega) (by omega), w64 (x := s + wterm l c i) (by omega) (by omega)]
    refine ih (i + 1) _ (by omega) (by omega) (by omega) ?_
    rw [← he]; simp only [sumN]; omega
theorem l6Wins_l0 {l : List Int} {q : Int} (h : Vot l q) : ∀ (d c : Nat) (out : List Bool), c + d = 2 ^ l.length → out.length = c →
    Ev (fun k => spec_l6Wins.l0 k out (c : Int) l q) (out ++ (List.range' c d).map (winB l q)) := by
  have h8 := h.1
  have hp := pow8 l.length h8.2
  intro d
  induction d with
  | zero =>
    intro c out hc ho
    refine Ev.step (fun k => spec_l6Wins.l0.eq_2 ..) ?_
    rw [shl1 l.length (by omega)]
    exact evn (by omega) (evs (by simp))
  | succ d ih =>
    intro c out hc ho
    refine Ev.step (fun k => spec_l6Wins.l0.eq_2 ..) ?_
    rw [shl1 l.length (by omega)]
    refine evp (by omega) (evr (l6Wins_l1 h c (by omega) out ho _ (ih (c + 1) _ (by omega) (by simp; omega)) l.length 0 0 (by omega) (by omega) (by omega) (by simp [wsum])) ?_)
    simp [List.range'_succ]
theorem l6Wins {l : List Int} {q : Int} (h : Vot l q) : Ev (fun k => spec_l6Wins.f k l q) ((List.range (2 ^ l.length)).map (winB l q)) := by
  unfold spec_l6Wins.f
  refine evr (l6Wins_l0 h (2 ^ l.length) 0 [] (by omega) rfl) ?_
  rw [List.range_eq_range']; rfl

/-! ### impl_Vote_wins -/
theorem wins_l0 {l : List Int} {q : Int} (h : Vot l q) (c : Nat) (hc : c < 2 ^ 62) : ∀ (d i : Nat) (s : Int), i + d = l.length → 0 ≤ s → s ≤ 20 * i → s + sumN (wterm l c) i d = wsum l c →
    Ev (fun k => impl_Vote_wins.l0 k (c : Int) s l (l.length : Int) (i : Int) l q) (winB l q c) := by
  have h8 := h.1
  intro d
  induction d with
  | zero =>
    intro i s hi h0 hs he
    refine Ev.step (fun k => impl_Vote_wins.l0.eq_2 ..) (evn (by omega) (evs ?_))
    simp only [sumN, Int.add_zero] at he
    subst he
    rfl
  | succ d ih =>
    intro i s hi h0 hs he
    have ht := h.wterm c i
    refine Ev.step (fun k => impl_Vote_wins.l0.eq_2 ..) (evp (by omega) (evp (by omega) (evp (by omega) ?_)))
    rw [digit c i (by omega) (by omega), rd_nat, w64s i (by omega), show l.getD i 0 * ((bit c i : Nat) : Int) = wterm l c i from rfl, w64 (x := wterm l c i) (by omega) (by omega), w64 (x := s + wterm l c i) (by omega) (by omega)]
    refine ih (i + 1) _ (by omega) (by omega) (by omega) ?_
    rw [← he]; simp only [sumN]; omega
theorem wins {l : List Int} {q : Int} (h : Vot l q) (c : Nat) (hc : c < 2 ^ 62) : Ev (fun k => impl_Vote_wins.f k l q (c : Int)) (winB l q c) := by
  unfold impl_Vote_wins.f
  exact wins_l0 h c hc l.length 0 0 (by omega) (by omega) (by omega) (by simp [wsum])

/-! ### spec_l1Rising -/
theorem l1Rising_l0 (l : List Int) (lo hi : Int) (hl : l.length < 4611686018427387904) : ∀ (d i : Nat), i + d = l.length →
    Ev (fun k => spec_l1Rising.l0 k l lo hi (i : Int)) (inB lo hi (l.drop i) && riseB (l.drop (i - 1))) := by
  intro d
  induction d with
  | zero =>
    intro i hi'
    refine Ev.step (fun k => spec_l1Rising.l0.eq_2 ..) (evn (by omega) (evs ?_))
    rw [riseB_end l (i - 1) (by omega), List.drop_of_length_le (show l.length ≤ i by omega)]; rfl
  | succ d ih =>
    intro i hi'
    refine Ev.step (fun k => spec_l1Rising.l0.eq_2 ..) (evp (by omega) (evp (by omega) ?_))
    rw [rd_nat, l1In, w64s i (by omega)]; simp only [Option.bind_some]
    have hd := List.drop_eq_getElem_cons (show i < l.length by omega)
    have hg : l.getD i 0 = l[i] := by simp [List.getD_eq_getElem?_getD, List.getElem?_eq_getElem (show i < l.length by omega)]
    by_cases e : lo ≤ l.getD i 0 ∧ l.getD i 0 ≤ hi
    · refine evp (by simpa using e) ?_
      have hin : inB lo hi (l.drop i) = inB lo hi (l.drop (i + 1)) := by rw [hd]; simp only [inB, List.all_cons]; rw [← hg, decide_eq_true e, Bool.true_and]
      by_cases e0 : 0 < i
      · refine evp (by omega) ?_
        rw [w64 (x := (i : Int) - 1) (by omega) (by omega), show (i : Int) - 1 = ((i - 1 : Nat) : Int) by omega, rd_nat]
        refine evp (by omega) (evp (by omega) ?_)
        have hs := riseB_step l (i - 1) (by omega)
        rw [show i - 1 + 1 = i by omega] at hs
        by_cases e1 : l.getD (i - 1) 0 ≥ l.getD i 0
        · refine evp e1 (evs ?_)
          rw [hs, decide_eq_false (by omega)]; simp
        · refine evn e1 (evr (ih (i + 1) (by omega)) ?_)
          rw [hin, hs, decide_eq_true (show l.getD (i - 1) 0 < l.getD i 0 by omega)]; simp
      · refine evn (by omega) (evr (ih (i + 1) (by omega)) ?_)
        obtain rfl : i = 0 := by omega
        rw [hin]
    · refine evn (by simpa using e) (evs ?_)
      rw [hd]; simp only [inB, List.all_cons]; rw [← hg, decide_eq_false e]; simp
theorem l1Rising (l : List Int) (lo hi : Int) (hl : l.length < 4611686018427387904) : Ev (fun k => spec_l1Rising.f k l lo hi) (inB lo hi l && riseB l) := by
  unfold spec_l1Rising.f
  exact evr (l1Rising_l0 l lo hi hl l.length 0 (by omega)) (by simp)

/-! ### impl_rising -/
theorem rising_l0 (l : List Int) (hl : l.length < 4611686018427387904) : ∀ (d i : Nat), i + d = l.length → 1 ≤ i →
    Ev (fun k => impl_rising.l0 k l (i : Int)) (riseB (l.drop (i - 1))) := by
  intro d
  induction d with
  | zero =>
    intro i hi' h1
    refine Ev.step (fun k => impl_rising.l0.eq_2 ..) (evn (by omega) (evs ?_))
    rw [riseB_end l (i - 1) (by omega)]
  | succ d ih =>
    intro i hi' h1
    refine Ev.step (fun k => impl_rising.l0.eq_2 ..) (evp (by omega) ?_)
    rw [rd_nat, w64s i (by omega), w64 (x := (i : Int) - 1) (by omega) (by omega), show (i : Int) - 1 = ((i - 1 : Nat) : Int) by omega, rd_nat]
    refine evp (by omega) (evp (by omega) (evp (by omega) ?_))
    have hs := riseB_step l (i - 1) (by omega)
    rw [show i - 1 + 1 = i by omega] at hs
    by_cases e1 : l.getD (i - 1) 0 ≥ l.getD i 0
    · refine evp e1 (evs ?_)
      rw [hs, decide_eq_false (by omega)]; simp
    · refine evn e1 (evr (ih (i + 1) (by omega) (by omega)) ?_)
      rw [hs, decide_eq_true (show l.getD (i - 1) 0 < l.getD i 0 by omega)]; simp
theorem rising (l : List Int) (hl : l.length < 4611686018427387904) : Ev (fun k => impl_rising.f k l) (riseB l) := by
  unfold impl_rising.f
  by_cases h : l.length = 0
  · refine Ev.step (fun k => impl_rising.l0.eq_2 ..) (evn (by omega) (evs ?_))
    rw [List.eq_nil_of_length_eq_zero h]; rfl
  · exact evr (rising_l0 l hl (l.length - 1) 1 (by omega) (by omega)) (by simp)

/-! ### impl_isSet -/
theorem isSet (l : List Int) (n : Int) (hn : 0 ≤ n ∧ n ≤ 1000000) (hl : l.length < 4611686018427387904) : Ev (fun k => impl_isSet.f k l n) (setB n l) := by
  unfold impl_isSet.f setB
  refine evb (rising l hl) ?_
  rw [w64 (x := n - 1) (by omega) (by omega)]
  by_cases e : riseB l = true
  · refine evp e (evb (allWithin l 0 (n - 1) hl) (evs ?_))
    rw [e, Bool.and_true]; rfl
  · exact evn e (evs (by simp [e]))

/-! ### spec_l6Set -/
theorem l6Set (l : List Int) (q : Int) (s : List Int) (hl : l.length < 4611686018427387904) (hs : s.length < 4611686018427387904) : Ev (fun k => spec_l6Set.f k l q s) (voteB l q && setB l.length s) := by
  unfold spec_l6Set.f setB
  refine evb (l6Vote l q hl) ?_
  rw [w64 (x := (l.length : Int) - 1) (by omega) (by omega)]
  by_cases e : voteB l q = true
  · exact evp e (evb (l1Rising s 0 _ hs) (evs (by rw [e, Bool.true_and])))
  · exact evn e (evs (by simp [e]))

/-! ### spec_WinsWith -/
theorem sWinsW_l0 {l : List Int} {q : Int} (h : Vot l q) (s : List Int) (hs : s.length < 4611686018427387904) : ∀ (d i : Nat) (c : Nat), i + d = s.length → riseB (s.drop i) = true → (∀ x ∈ s.drop i, 0 ≤ x ∧ x < l.length ∧ c < 2 ^ x.toNat) → c < 2 ^ l.length →
    Ev (fun k => spec_WinsWith.l0 k s (c : Int) (i : Int) l q) (winB l q (c + codeOf (s.drop i)), true) := by
  have h8 := h.1
  have hp := pow8 l.length h8.2
  intro d
  induction d with
  | zero =>
    intro i c hi hr hx hc
    rw [List.drop_of_length_le (show s.length ≤ i by omega)]
    refine Ev.step (fun k => spec_WinsWith.l0.eq_2 ..) (evn (by omega) (evb (l6Wins h) (evp (by omega) (evp (by simp; exact_mod_cast hc) (evs ?_)))))
    rw [rdOf_map _ _ _ hc]; rfl
  | succ d ih =>
    intro i c hi hr hx hc
    have hd := List.drop_eq_getElem_cons (show i < s.length by omega)
    have hg : s.getD i 0 = s[i] := by simp [List.getD_eq_getElem?_getD, List.getElem?_eq_getElem (show i < s.length by omega)]
    have h1 := hx s[i] (by rw [hd]; exact List.mem_cons_self)
    rw [hd] at hr
    obtain ⟨x, hx0⟩ : ∃ x : Nat, s[i] = (x : Int) := ⟨s[i].toNat, by omega⟩
    have hxl : x < l.length := by omega
    have hpx := pow_lt x l.length hxl
    have key : c + 2 ^ x < 2 ^ (x + 1) := by
      have := h1.2.2; rw [hx0, Int.toNat_natCast] at this; rw [Nat.pow_succ]; omega
    have keyl : c + 2 ^ x < 2 ^ l.length := Nat.lt_of_lt_of_le key (Nat.pow_le_pow_right (by decide) (by omega))
    refine Ev.step (fun k => spec_WinsWith.l0.eq_2 ..) (evp (by omega) (evp (by omega) ?_))
    rw [rd_nat, hg, hx0, shl1 x (by omega), w64s i (by omega), w64 (x := (c : Int) + ((2 ^ x : Nat) : Int)) (by omega) (by omega), show (c : Int) + ((2 ^ x : Nat) : Int) = ((c + 2 ^ x : Nat) : Int) by omega]
    refine evp (by omega) (evr (ih (i + 1) (c + 2 ^ x) (by omega) (riseB_tail hr) (fun y hy => ?_) keyl) ?_)
    · have h2 := hx y (by rw [hd]; exact List.mem_cons_of_mem _ hy)
      have h3 := riseB_lt _ _ hr y hy
      exact ⟨h2.1, h2.2.1, Nat.lt_of_lt_of_le key (Nat.pow_le_pow_right (by decide) (by omega))⟩
    · rw [hd]; simp only [codeOf]; rw [hx0, Int.toNat_natCast, Nat.add_assoc]
theorem setB_iff (n : Nat) (s : List Int) : setB n s = true ↔ (∀ x ∈ s, 0 ≤ x ∧ x < n) ∧ riseB s = true := by
  simp only [setB, inB, Bool.and_eq_true, List.all_eq_true, decide_eq_true_eq]
  constructor
  · rintro ⟨a, b⟩; exact ⟨fun x hx => by have := a x hx; omega, b⟩
  · rintro ⟨a, b⟩; exact ⟨fun x hx => by have := a x hx; omega, b⟩
theorem sWinsW (l : List Int) (q : Int) (s : List Int) (hl : l.length < 4611686018427387904) (hs : s.length < 4611686018427387904) : Ev (fun k => spec_WinsWith.f k l q s) (winsWith l q s) := by
  unfold spec_WinsWith.f winsWith
  refine evb (l6Set l q s hl hs) ?_
  by_cases e : voteB l q = true ∧ setB l.length s = true
  · have h := (voteB_iff l q).1 e.1
    obtain ⟨h1, h2⟩ := (setB_iff _ _).1 e.2
    refine evp (by rw [e.1, e.2]; rfl) (evr (sWinsW_l0 h s hs s.length 0 0 (by omega) (by simpa using h2) (fun x hx => ?_) (Nat.two_pow_pos _)) ?_)
    · have := h1 x (by simpa using hx); exact ⟨this.1, this.2, Nat.two_pow_pos _⟩
    · rw [if_pos e]; simp
  · refine evn (by simpa using e) (evs (by rw [if_neg e]))

/-! ### impl_setOf -/
theorem setOf_l0 (n : Nat) (hn : n ≤ 8) (s : List Int) (hs : s.length < 4611686018427387904) : ∀ (d i : Nat) (c : Nat), i + d = s.length → riseB (s.drop i) = true → (∀ x ∈ s.drop i, 0 ≤ x ∧ x < n ∧ c < 2 ^ x.toNat) →
    Ev (fun k => impl_setOf.l0 k (c : Int) s (s.length : Int) (i : Int)) ((c + codeOf (s.drop i) : Nat) : Int) := by
  have hp := pow8 n hn
  intro d
  induction d with
  | zero =>
    intro i c hi hr hx
    rw [List.drop_of_length_le (show s.length ≤ i by omega)]
    exact Ev.step (fun k => impl_setOf.l0.eq_2 ..) (evn (by omega) (evs rfl))
  | succ d ih =>
    intro i c hi hr hx
    have hd := List.drop_eq_getElem_cons (show i < s.length by omega)
    have hg : s.getD i 0 = s[i] := by simp [List.getD_eq_getElem?_getD, List.getElem?_eq_getElem (show i < s.length by omega)]
    have h1 := hx s[i] (by rw [hd]; exact List.mem_cons_self)
    rw [hd] at hr
    obtain ⟨x, hx0⟩ : ∃ x : Nat, s[i] = (x : Int) := ⟨s[i].toNat, by omega⟩
    have hxl : x < n := by omega
    have hpx := pow_lt x n hxl
    have hcx : c < 2 ^ x := by have := h1.2.2; rw [hx0, Int.toNat_natCast] at this; exact this
    have key : c + 2 ^ x < 2 ^ (x + 1) := by rw [Nat.pow_succ]; omega
    refine Ev.step (fun k => impl_setOf.l0.eq_2 ..) (evp (by omega) (evp (by omega) (evp (by omega) ?_)))
    rw [rd_nat, hg, hx0, shl1 x (by omega), w64s i (by omega), or_nat c (2 ^ x) (by omega) (by omega), or_low c x hcx]
    refine evp (by omega) (evr (ih (i + 1) (c + 2 ^ x) (by omega) (riseB_tail hr) (fun y hy => ?_)) ?_)
    · have h2 := hx y (by rw [hd]; exact List.mem_cons_of_mem _ hy)
      have h3 := riseB_lt _ _ hr y hy
      exact ⟨h2.1, h2.2.1, Nat.lt_of_lt_of_le key (Nat.pow_le_pow_right (by decide) (by omega))⟩
    · rw [hd]; simp only [codeOf]; rw [hx0, Int.toNat_natCast, Nat.add_assoc]
theorem setOf (n : Nat) (hn : n ≤ 8) (s : List Int) (hs : s.length < 4611686018427387904) (h1 : ∀ x ∈ s, 0 ≤ x ∧ x < n) (h2 : riseB s = true) : Ev (fun k => impl_setOf.f k s) ((codeOf s : Nat) : Int) := by
  unfold impl_setOf.f
  refine evr (setOf_l0 n hn s hs s.length 0 0 (by omega) (by simpa using h2) (fun x hx => ?_)) (by simp)
  have := h1 x (by simpa using hx); exact ⟨this.1, this.2, Nat.two_pow_pos _⟩

/-! ### impl_WinsWith spec_WinsWith -/
theorem iWinsW (l : List Int) (q : Int) (s : List Int) (hl : l.length < 4611686018427387904) (hs : s.length < 4611686018427387904) : Ev (fun k => impl_WinsWith.f k l q s) (winsWith l q s) := by
  unfold impl_WinsWith.f winsWith
  refine evb (iIsVote l q hl) ?_
  by_cases e : voteB l q = true
  · have h := (voteB_iff l q).1 e
    have h8 := h.1
    have hp := pow8 l.length h8.2
    refine evp e (evb (isSet s l.length (by omega) hs) (Ev.step (fun k => impl_WinsWith.j0.eq_2 ..) ?_))
    by_cases e' : setB l.length s = true
    · obtain ⟨h1, h2⟩ := (setB_iff _ _).1 e'
      have hc := code_lt l.length s 0 h2 (fun x hx => ⟨(h1 x hx).1, (h1 x hx).2, Nat.two_pow_pos _⟩) (Nat.two_pow_pos _)
      refine evn (by simp [e']) (evb (setOf l.length h8.2 s hs h1 h2) (evb (wins h (codeOf s) (by omega)) (evs ?_)))
      rw [if_pos ⟨e, e'⟩]
    · exact evp (by simp [e']) (evs (by rw [if_neg (fun h => e' h.2)]))
  · exact evn e (Ev.step (fun k => impl_WinsWith.j0.eq_2 ..) (evp rfl (evs (by rw [if_neg (fun h => e h.1)]))))

/-! ### laws_FnExactWinsWith -/
theorem law (l : List Int) (q : Int) (s : List Int) (hl : l.length ≤ maxLen) : Ev (fun k => laws_FnExactWinsWith.f k l q s) true := by
  unfold laws_FnExactWinsWith.f
  by_cases hs0 : (s.length : Int) > 1048576
  · exact evp hs0 (evs rfl)
  refine evn hs0 ?_
  rw [szVote l q 1048576 (by omega) (by omega) hl]; simp only [Option.bind_some]
  by_cases h : (l.length : Int) ≤ 1048576
  · rw [if_pos h]
    have hs := sWinsW l q s (by omega) (by omega)
    have hi := iWinsW l q s (by omega) (by omega)
    generalize winsWith l q s = R at *
    repeat (first
    | exact evs rfl
    | dsimp only
    | (with_reducible refine evb hs ?_)
    | (with_reducible refine evb hi ?_)
    | ((with_reducible refine evb (toIntS _ ?_) ?_); (focus (first | omega | assumption)))
    | ((with_reducible refine evb (eqIntS _ _ ?_) ?_); (focus (first | omega | assumption)))
    | ((with_reducible refine evb (toVote _ _ ?_) ?_); (focus (first | omega | assumption)))
    | ((with_reducible refine evb (eqVote _ _ _ _ ?_) ?_); (focus (first | omega | assumption)))
    | (refine evp ?_ ?_; focus (first | omega | (simp; done)))
    | (refine evn ?_ ?_; focus (first | omega | (simp; done)))
    | (with_reducible refine Ev.step (fun k => laws_FnExactWinsWith.j0.eq_2 ..) ?_)
    )
  · rw [if_neg h]; exact evp (by omega) (evs rfl)

end Go.Proofs.Ytheohibankpfeaa.LFnExactWinsWith
