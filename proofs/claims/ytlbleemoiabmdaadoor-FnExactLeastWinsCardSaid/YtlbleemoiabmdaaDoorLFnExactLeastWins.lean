/- Own lemmas: what the printed functions of one law come to. -/
import Derived.Test.YtlbleemoiabmdaaDoorMFnExactLeastWinsx8
import Derived.Test.YtlbleemoiabmdaaDoorBase
namespace Go.Proofs.YtlbleemoiabmdaaDoor.LFnExactLeastWins
open Go Go.RowKit Go.Proofs.YtlbleemoiabmdaaDoor.Base Go.Proofs.YtlbleemoiabmdaaDoor.PFnExactLeastWins Go.Proofs.YtlbleemoiabmdaaDoorW.PrintWords Go.Proofs.YtlbleemoiabmdaaDoorW.PrintLast Go.Proofs.YtlbleemoiabmdaaDoorW.PrintMore
set_option linter.unusedVariables false
set_option linter.unusedSimpArgs false
set_option maxRecDepth 4000

/-! ### laws_toIntS -/
theorem toIntS_l0 (x0 : List Int) (hx : x0.length < 4611686018427387904) : ∀ (d i : Nat) (x3 : List Int), i + d = x0.length → x3.length = x0.length →
    Ev (fun k => laws_toIntS.l0 k x0 x3 (i : Int)) (x3.take i ++ x0.drop i) := by
  intro d
  induction d with
  | zero =>
    intro i x3 hi hl
    refine Ev.step (fun k => laws_toIntS.l0.eq_2 ..) (evn (by omega) (evs ?_))
    simp [List.take_of_length_le (show x3.length ≤ i by omega), List.drop_of_length_le (show x0.length ≤ i by omega)]
  | succ d ih =>
    intro i x3 hi hl
    refine Ev.step (fun k => laws_toIntS.l0.eq_2 ..) (evp (by omega) (evp (by omega) (evp (by omega) ?_)))
    rw [w64s i (by omega), rd_nat]
    refine evr (ih (i + 1) _ (by omega) (by simpa using hl)) ?_
    rw [Int.toNat_natCast, set_take _ _ _ (by omega), List.drop_eq_getElem_cons (show i < x0.length by omega), List.append_assoc]
    simp [List.getD_eq_getElem?_getD, List.getElem?_eq_getElem (show i < x0.length by omega)]
theorem toIntS (l : List Int) (h : l.length ≤ 35184372088832) : Ev (fun k => laws_toIntS.f k l) l := by
  unfold laws_toIntS.f
  refine evp (by omega) (evp (by simpa using h) ?_)
  refine evr (toIntS_l0 l (by omega) l.length 0 _ (by omega) (by simp)) (by simp)

/-! ### laws_eqIntS -/
theorem eqIntS_l0 (a b : List Int) (hl : a.length = b.length) (hx : a.length < 4611686018427387904) : ∀ (d i : Nat), i + d = a.length →
    Ev (fun k => laws_eqIntS.l0 k a b (i : Int)) (decide (a.drop i = b.drop i)) := by
  intro d
  induction d with
  | zero =>
    intro i hi
    refine Ev.step (fun k => laws_eqIntS.l0.eq_2 ..) (evn (by omega) (evs ?_))
    simp [List.drop_of_length_le (show a.length ≤ i by omega), List.drop_of_length_le (show b.length ≤ i by omega)]
  | succ d ih =>
    intro i hi
    refine Ev.step (fun k => laws_eqIntS.l0.eq_2 ..) (evp (by omega) (evp (by omega) (evp (by omega) ?_)))
    rw [w64s i (by omega), rd_nat, rd_nat]
    have ea := List.drop_eq_getElem_cons (show i < a.length by omega)
    have eb := List.drop_eq_getElem_cons (show i < b.length by omega)
    simp only [List.getD_eq_getElem?_getD, List.getElem?_eq_getElem (show i < a.length by omega), List.getElem?_eq_getElem (show i < b.length by omega), Option.getD_some]
    by_cases e : a[i] = b[i]
    · refine evp e (evr (ih (i + 1) (by omega)) ?_)
      rw [ea, eb, e]; simp only [List.cons.injEq, true_and]
    · refine evn e (evs ?_)
      rw [ea, eb]; simp only [List.cons.injEq, e, false_and, decide_false]
theorem eqIntS (a b : List Int) (hx : a.length < 4611686018427387904) : Ev (fun k => laws_eqIntS.f k a b) (decide (a = b)) := by
  unfold laws_eqIntS.f
  by_cases h : a.length = b.length
  · refine evp (by omega) (evr (eqIntS_l0 a b h hx a.length 0 (by omega)) (by simp))
  · refine evn (by omega) (evs ?_)
    have : a ≠ b := fun e => h (by rw [e])
    simp [this]

/-! ### laws_markIntS -/
theorem markIntS_l0 (d : Nat) : ∀ (x0 : List Int) (m : Int) (i : Nat), i + d = x0.length → x0.length < 4611686018427387904 → 0 ≤ m → m + d < 4611686018427387904 →
    Ev (fun k => laws_markIntS.l0 k x0 m (i : Int)) (m + d, x0.take i ++ (List.range d).map fun j : Nat => m + (j : Int)) := by
  induction d with
  | zero =>
    intro x0 m i hi hx h0 hm
    refine Ev.step (fun k => laws_markIntS.l0.eq_2 ..) (evn (by omega) (evs ?_))
    simp [List.take_of_length_le (show x0.length ≤ i by omega)]
  | succ d ih =>
    intro x0 m i hi hx h0 hm
    refine Ev.step (fun k => laws_markIntS.l0.eq_2 ..) (evp (by omega) (evp (by omega) ?_))
    rw [w64s i (by omega), w64 (x := m + 1) (by omega) (by omega)]
    refine evr (ih _ _ (i + 1) (by simp; omega) (by simpa using hx) (by omega) (by omega)) ?_
    rw [Int.toNat_natCast, set_take _ _ _ (by omega), List.append_assoc, List.range_succ_eq_map]
    simp only [List.map_cons, List.map_map, Prod.mk.injEq]
    refine ⟨by push_cast; omega, ?_⟩
    congr 1
    simp only [List.cons_append, List.nil_append, List.cons.injEq]
    refine ⟨by simp, List.map_congr_left fun j _ => by simp; omega⟩
theorem markIntS (l : List Int) (m : Int) (h0 : 0 ≤ m) (h : m + l.length < 4611686018427387904) : Ev (fun k => laws_markIntS.f k l m) (m + l.length, marks l m) := by
  unfold laws_markIntS.f
  exact evr (markIntS_l0 l.length l m 0 (by omega) (by omega) h0 h) (by simp [marks])

/-! ### laws_heldIntS -/
theorem heldIntS_l0 (l : List Int) (m : Int) (h0 : 0 ≤ m) (hm : m + l.length < 4611686018427387904) (hv : ∀ i, i < l.length → l.getD i 0 = m + i) : ∀ (d i : Nat), i + d = l.length →
    Ev (fun k => laws_heldIntS.l0 k l (m + (i : Int)) (i : Int)) (m + l.length) := by
  intro d
  induction d with
  | zero =>
    intro i hi
    refine Ev.step (fun k => laws_heldIntS.l0.eq_2 ..) (evn (by omega) (evs ?_))
    omega
  | succ d ih =>
    intro i hi
    refine Ev.step (fun k => laws_heldIntS.l0.eq_2 ..) (evp (by omega) (evp (by omega) ?_))
    rw [w64s i (by omega), w64 (x := m + i + 1) (by omega) (by omega), rd_nat]
    refine evp (hv i (by omega)) ?_
    have := ih (i + 1) (by omega)
    rw [show m + ((i + 1 : Nat) : Int) = m + i + 1 by omega] at this
    exact this
theorem heldIntS (l : List Int) (m : Int) (h0 : 0 ≤ m) (hm : m + l.length < 4611686018427387904) : Ev (fun k => laws_heldIntS.f k (marks l m) m) (m + l.length) := by
  unfold laws_heldIntS.f
  have h := heldIntS_l0 (marks l m) m h0 (by rw [marks_length]; exact hm) (fun i hi => marks_at l m i (by rwa [marks_length] at hi)) l.length 0 (by rw [marks_length]; omega)
  rw [marks_length] at h
  simpa using h

/-! ### spec_l1In -/
theorem l1In (a b c : Int) : spec_l1In.f a b c = some (decide (b ≤ a ∧ a ≤ c)) := by
  unfold spec_l1In.f; split <;> simp_all <;> omega

/-! ### impl_within -/
theorem within (a b c : Int) : impl_within.f a b c = some (decide (b ≤ a ∧ a ≤ c)) := by
  unfold impl_within.f; split <;> simp_all <;> omega

/-! ### impl_allWithin -/
theorem allWithin_l0 (lo up : Int) (l : List Int) (hx : l.length < 4611686018427387904) : ∀ (d i : Nat), i + d = l.length →
    Ev (fun k => impl_allWithin.l0 k lo up l (l.length : Int) (i : Int)) ((l.drop i).all fun x => decide (lo ≤ x ∧ x ≤ up)) := by
  intro d
  induction d with
  | zero =>
    intro i hi
    refine Ev.step (fun k => impl_allWithin.l0.eq_2 ..) (evn (by omega) (evs ?_))
    simp [List.drop_of_length_le (show l.length ≤ i by omega)]
  | succ d ih =>
    intro i hi
    refine Ev.step (fun k => impl_allWithin.l0.eq_2 ..) (evp (by omega) (evp (by omega) (evp (by omega) ?_)))
    rw [w64s i (by omega), rd_nat, within, List.drop_eq_getElem_cons (show i < l.length by omega)]
    simp only [List.getD_eq_getElem?_getD, List.getElem?_eq_getElem (show i < l.length by omega), Option.getD_some, Option.bind_some, List.all_cons]
    by_cases e : lo ≤ l[i] ∧ l[i] ≤ up
    · refine evp (by simpa using e) (evr (ih (i + 1) (by omega)) (by simp [e]))
    · refine evn (by simpa using e) (evs (by simp [e]))
theorem allWithin (l : List Int) (lo up : Int) (hx : l.length < 4611686018427387904) : Ev (fun k => impl_allWithin.f k l lo up) (l.all fun x => decide (lo ≤ x ∧ x ≤ up)) := by
  unfold impl_allWithin.f
  exact allWithin_l0 lo up l hx l.length 0 (by omega)

/-! ### laws_szIntS -/
theorem szIntS (l : List Int) (m : Int) (h0 : 0 ≤ m) (hm : m ≤ 1048576) (hl : l.length ≤ maxLen) : laws_szIntS.f l m = some (if (l.length : Int) ≤ m then m - l.length else -1) := by
  unfold maxLen at hl
  unfold laws_szIntS.f
  rw [w64 (x := m - (l.length : Int)) (by omega) (by omega)]
  by_cases h : (l.length : Int) ≤ m
  · rw [if_neg (by omega), if_pos h]
  · rw [if_pos (by omega), if_neg h]

/-! ### laws_szVote laws_szIntS -/
theorem szVote (l : List Int) (q m : Int) (h0 : 0 ≤ m) (hm : m ≤ 1048576) (hl : l.length ≤ maxLen) : laws_szVote.f l q m = some (if (l.length : Int) ≤ m then m - l.length else -1) := by
  unfold laws_szVote.f
  rw [szIntS l m h0 hm hl]
  simp only [Option.bind_some]
  by_cases h : (l.length : Int) ≤ m
  · rw [if_pos h, if_neg (by omega)]
  · rw [if_neg h, if_pos (by omega)]

/-! ### laws_toVote laws_toIntS -/
theorem toVote (l : List Int) (q : Int) (h : l.length ≤ 35184372088832) : Ev (fun k => laws_toVote.f k l q) (l, q) := by
  unfold laws_toVote.f
  exact evb (toIntS l h) (evs rfl)

/-! ### laws_eqVote laws_eqIntS -/
theorem eqVote (l : List Int) (q : Int) (l' : List Int) (q' : Int) (h : l.length < 4611686018427387904) : Ev (fun k => laws_eqVote.f k l q l' q') (decide (l = l') && decide (q = q')) := by
  unfold laws_eqVote.f
  refine evb (eqIntS l l' h) ?_
  by_cases e : l = l'
  · refine evp (by simpa using e) ?_
    by_cases e' : q = q'
    · exact evp e' (evs (by simp [e, e']))
    · exact evn e' (evs (by simp [e, e']))
  · exact evn (by simpa using e) (evs (by simp [e]))

/-! ### laws_markVote laws_markIntS -/
theorem markVote (l : List Int) (q m : Int) (h0 : 0 ≤ m) (h : m + l.length < 4611686018427387904) : Ev (fun k => laws_markVote.f k l q m) (m + l.length, marks l m) := by
  unfold laws_markVote.f
  exact evb (markIntS l m h0 h) (evs rfl)

/-! ### spec_l6Vote -/
theorem l6Vote_l0 (l : List Int) (q : Int) (hl : l.length < 4611686018427387904) : ∀ (d i : Nat) (s : Int), i + d = l.length → i ≤ 9 → 0 ≤ s → s ≤ 20 * i →
    Ev (fun k => spec_l6Vote.l0 k s (i : Int) l q) (decide (1 ≤ l.length ∧ l.length ≤ 8) && (okW (l.drop i) && decide (1 ≤ q ∧ q ≤ s + isum (l.drop i)))) := by
  intro d
  induction d with
  | zero =>
    intro i s hi h9 hs0 hs
    have hd : l.drop i = [] := List.drop_of_length_le (by omega)
    refine Ev.step (fun k => spec_l6Vote.l0.eq_2 ..) (evn (by omega) (Ev.step (fun k => spec_l6Vote.j1.eq_2 ..) (evn (by simp) ?_)))
    rw [l1In, l1In]; simp only [Option.bind_some]
    by_cases e : 1 ≤ l.length ∧ l.length ≤ 8
    · refine evp (by simp; omega) (evs ?_)
      rw [hd, decide_eq_true e]; simp [okW, isum]
    · refine evn (by simp; omega) (evs ?_)
      rw [decide_eq_false e]; simp
  | succ d ih =>
    intro i s hi h9 hs0 hs
    have hd := List.drop_eq_getElem_cons (show i < l.length by omega)
    refine Ev.step (fun k => spec_l6Vote.l0.eq_2 ..) (evp (by omega) (Ev.step (fun k => spec_l6Vote.j1.eq_2 ..) ?_))
    by_cases e8 : i ≤ 8
    · refine evp (by simp; omega) (evp (by omega) (evp (by omega) ?_))
      rw [l1In, rd_nat, w64s i (by omega)]
      simp only [List.getD_eq_getElem?_getD, List.getElem?_eq_getElem (show i < l.length by omega), Option.getD_some, Option.bind_some]
      by_cases e : 0 ≤ l[i] ∧ l[i] ≤ 20
      · refine evp (by simpa using e) ?_
        rw [w64 (x := s + l[i]) (by omega) (by omega)]
        refine evr (ih (i + 1) _ (by omega) (by omega) (by omega) (by omega)) ?_
        rw [hd, show s + isum (l[i] :: l.drop (i + 1)) = s + l[i] + isum (l.drop (i + 1)) by simp only [isum]; omega]; simp only [okW, List.all_cons, decide_eq_true e, Bool.true_and]
      · refine evn (by simpa using e) (evs ?_)
        rw [hd]; simp only [okW, List.all_cons, decide_eq_false e, Bool.false_and, Bool.and_false]
    · refine evn (by simp; omega) ?_
      rw [l1In, l1In]; simp only [Option.bind_some]
      have e : ¬ (1 ≤ l.length ∧ l.length ≤ 8) := by omega
      refine evn (by simp; omega) (evs ?_)
      rw [decide_eq_false e]; simp
theorem l6Vote (l : List Int) (q : Int) (hl : l.length < 4611686018427387904) : Ev (fun k => spec_l6Vote.f k l q) (voteB l q) := by
  unfold spec_l6Vote.f
  exact evr (l6Vote_l0 l q hl l.length 0 0 (by omega) (by omega) (by omega) (by omega)) (by simp [voteB])

/-! ### impl_total -/
theorem total_l0 (l : List Int) (b : Int) (hb : 0 ≤ b ∧ b ≤ 1000000000000) (hx : ∀ x ∈ l, -b ≤ x ∧ x ≤ b) (hl : l.length ≤ 1048576) : ∀ (d i : Nat) (s : Int), i + d = l.length → -(b * i) ≤ s → s ≤ b * i →
    Ev (fun k => impl_total.l0 k s l (l.length : Int) (i : Int)) (s + isum (l.drop i)) := by
  intro d
  induction d with
  | zero =>
    intro i s hi hs0 hs
    have hd : l.drop i = [] := List.drop_of_length_le (by omega)
    exact Ev.step (fun k => impl_total.l0.eq_2 ..) (evn (by omega) (evs (by rw [hd]; simp [isum])))
  | succ d ih =>
    intro i s hi hs0 hs
    have hd := List.drop_eq_getElem_cons (show i < l.length by omega)
    have hi' := hx l[i] (List.getElem_mem (by omega))
    have hbi : b * (i : Int) ≤ 1000000000000 * 1048576 := Int.mul_le_mul hb.2 (by omega) (by omega) (by omega)
    have hbs : b * ((i + 1 : Nat) : Int) = b * i + b := by rw [show ((i + 1 : Nat) : Int) = (i : Int) + 1 by omega, Int.mul_add]; omega
    refine Ev.step (fun k => impl_total.l0.eq_2 ..) (evp (by omega) (evp (by omega) (evp (by omega) ?_)))
    rw [rd_nat, w64s i (by omega)]
    simp only [List.getD_eq_getElem?_getD, List.getElem?_eq_getElem (show i < l.length by omega), Option.getD_some]
    rw [w64 (x := s + l[i]) (by omega) (by omega)]
    refine evr (ih (i + 1) _ (by omega) (by omega) (by omega)) ?_
    rw [hd]; simp only [isum, Int.add_assoc]
theorem total (l : List Int) (b : Int) (hb : 0 ≤ b ∧ b ≤ 1000000000000) (hx : ∀ x ∈ l, -b ≤ x ∧ x ≤ b) (hl : l.length ≤ 1048576) : Ev (fun k => impl_total.f k l) (isum l) := by
  unfold impl_total.f
  exact evr (total_l0 l b hb hx hl l.length 0 0 (by omega) (by simp) (by simp)) (by simp)

/-! ### impl_IsVote -/
theorem iIsVote (l : List Int) (q : Int) (hl : l.length < 4611686018427387904) : Ev (fun k => impl_IsVote.f k l q) (voteB l q) := by
  unfold impl_IsVote.f voteB
  rw [within]; simp only [Option.bind_some]
  by_cases e : 1 ≤ l.length ∧ l.length ≤ 8
  · refine evp (by simp; omega) (evb (allWithin l 0 20 hl) ?_)
    rw [decide_eq_true e, Bool.true_and]
    by_cases e' : okW l = true
    · refine evp e' (evb (total l 20 (by omega) (fun x hx => ?_) (by omega)) (evb (evc (within ..)) (evs ?_)))
      · have := (List.all_eq_true.1 e') x hx; simp at this; omega
      · rw [e', Bool.true_and]
    · exact evn e' (evs (by simp [e']))
  · exact evn (by simp; omega) (evs (by simp [e]))

/-! ### spec_l6Wins -/
theorem l6Wins_l1 {l : List Int} {q : Int} (h : Vot l q) (c : Nat) (hc : c < 2 ^ l.length) (out : List Bool) (ho : out.length = c) (r : List Bool)
    (hr : Ev (fun k => spec_l6Wins.l0 k (out ++ [winB l q c]) ((c + 1 : Nat) : Int) l q) r) : ∀ (d i : Nat) (s : Int), i + d = l.length → 0 ≤ s → s ≤ 20 * i → s + sumN (wterm l c) i d = wsum l c →
    Ev (fun k => spec_l6Wins.l1 k out (c : Int) s (i : Int) l q) r := by
  have h8 := h.1
  have hp := pow8 l.length h8.2
  intro d
  induction d with
  | zero =>
    intro i s hi h0 hs he
    refine Ev.step (fun k => spec_l6Wins.l1.eq_2 ..) (evn (by omega) (evp (by omega) ?_))
    rw [w64s c (by omega)]
    simp only [sumN, Int.add_zero] at he
    subst he
    exact hr
  | succ d ih =>
    intro i s hi h0 hs he
    have ht := h.wterm c i
    refine Ev.step (fun k => spec_l6Wins.l1.eq_2 ..) (evp (by omega) (evp (by omega) ?_))
    rw [digit c i (by omega) (by omega), rd_nat, w64s i (by omega), show l.getD i 0 * ((bit c i : Nat) : Int) = wterm l c i from rfl, w64 (x := wterm l c i) (by omega) (by omega), w64 (x := s + wterm l c i) (by omega) (by omega)]
    refine ih (i + 1) _ (by omega) (by omega) (by omega) ?_
    rw [← he]; simp only [sumN]; omega
theorem l6Wins_l0 {l : List Int} {q : Int} (h : Vot l q) : ∀ (d c : Nat) (out : List Bool), c + d = 2 ^ l.length → out.length = c →
    Ev (fun k => spec_l6Wins.l0 k out (c : Int) l q) (out ++ (List.range' c d).map (winB l q)) := by
  have h8 := h.1
  have hp := pow8 l.length h8.2
  intro d
  induction d with
  | zero =>
    intro c out hc ho
    refine Ev.step (fun k => spec_l6Wins.l0.eq_2 ..) ?_
    rw [shl1 l.length (by omega)]
    exact evn (by omega) (evs (by simp))
  | succ d ih =>
    intro c out hc ho
    refine Ev.step (fun k => spec_l6Wins.l0.eq_2 ..) ?_
    rw [shl1 l.length (by omega)]
    refine evp (by omega) (evr (l6Wins_l1 h c (by omega) out ho _ (ih (c + 1) _ (by omega) (by simp; omega)) l.length 0 0 (by omega) (by omega) (by omega) (by simp [wsum])) ?_)
    simp [List.range'_succ]
theorem l6Wins {l : List Int} {q : Int} (h : Vot l q) : Ev (fun k => spec_l6Wins.f k l q) ((List.range (2 ^ l.length)).map (winB l q)) := by
  unfold spec_l6Wins.f
  refine evr (l6Wins_l0 h (2 ^ l.length) 0 [] (by omega) rfl) ?_
  rw [List.range_eq_range']; rfl

/-! ### impl_Vote_wins -/
theorem wins_l0 {l : List Int} {q : Int} (h : Vot l q) (c : Nat) (hc : c < 2 ^ 62) : ∀ (d i : Nat) (s : Int), i + d = l.length → 0 ≤ s → s ≤ 20 * i → s + sumN (wterm l c) i d = wsum l c →
    Ev (fun k => impl_Vote_wins.l0 k (c : Int) s l (l.length : Int) (i : Int) l q) (winB l q c) := by
  have h8 := h.1
  intro d
  induction d with
  | zero =>
    intro i s hi h0 hs he
    refine Ev.step (fun k => impl_Vote_wins.l0.eq_2 ..) (evn (by omega) (evs ?_))
    simp only [sumN, Int.add_zero] at he
    subst he
    rfl
  | succ d ih =>
    intro i s hi h0 hs he
    have ht := h.wterm c i
    refine Ev.step (fun k => impl_Vote_wins.l0.eq_2 ..) (evp (by omega) (evp (by omega) (evp (by omega) ?_)))
    rw [digit c i (by omega) (by omega), rd_nat, w64s i (by omega), show l.getD i 0 * ((bit c i : Nat) : Int) = wterm l c i from rfl, w64 (x := wterm l c i) (by omega) (by omega), w64 (x := s + wterm l c i) (by omega) (by omega)]
    refine ih (i + 1) _ (by omega) (by omega) (by omega) ?_
    rw [← he]; simp only [sumN]; omega
theorem wins {l : List Int} {q : Int} (h : Vot l q) (c : Nat) (hc : c < 2 ^ 62) : Ev (fun k => impl_Vote_wins.f k l q (c : Int)) (winB l q c) := by
  unfold impl_Vote_wins.f
  exact wins_l0 h c hc l.length 0 0 (by omega) (by omega) (by omega) (by simp [wsum])

/-! ### impl_Vote_all -/
theorem vall {l : List Int} (q : Int) (h : l.length ≤ 8) : impl_Vote_all.f l q = some (((2 ^ l.length : Nat) : Int) - 1) := by
  unfold impl_Vote_all.f
  have hp := pow8 l.length h
  rw [shl1 l.length (by omega), w64 (by omega) (by omega)]

/-! ### laws_eqIntSS laws_eqIntS -/
theorem eqIntSS_l0 (a b : List (List Int)) (hl : a.length = b.length) (hx : a.length ≤ 1048576) (hr : ∀ r ∈ a, (r.length : Int) ≤ 1048576) : ∀ (d i : Nat), i + d = a.length →
    Ev (fun k => laws_eqIntSS.l0 k a b (i : Int)) (decide (a.drop i = b.drop i)) := by
  intro d
  induction d with
  | zero =>
    intro i hi
    refine Ev.step (fun k => laws_eqIntSS.l0.eq_2 ..) (evn (by omega) (evs ?_))
    simp [List.drop_of_length_le (show a.length ≤ i by omega), List.drop_of_length_le (show b.length ≤ i by omega)]
  | succ d ih =>
    intro i hi
    have := hr _ (rdl_mem a i (by omega))
    refine Ev.step (fun k => laws_eqIntSS.l0.eq_2 ..) (evp (by omega) (evp (by omega) (evp (by omega) ?_)))
    rw [w64s i (by omega), show rd_L1 a (i : Int) = rdl a i by simp [rd_L1, rdl], show rd_L1 b (i : Int) = rdl b i by simp [rd_L1, rdl]]
    refine evb (eqIntS _ _ (by omega)) ?_
    rw [rdl_drop a i (by omega), rdl_drop b i (by omega)]
    by_cases e : rdl a i = rdl b i
    · refine evp (by simpa using e) (evr (ih (i + 1) (by omega)) ?_)
      rw [e]; simp only [List.cons.injEq, true_and]
    · refine evn (by simpa using e) (evs ?_)
      simp only [List.cons.injEq, e, false_and, decide_false]
theorem eqIntSS (a b : List (List Int)) (hx : a.length ≤ 1048576) (hr : ∀ r ∈ a, (r.length : Int) ≤ 1048576) : Ev (fun k => laws_eqIntSS.f k a b) (decide (a = b)) := by
  unfold laws_eqIntSS.f
  by_cases h : a.length = b.length
  · refine evp (by omega) (evr (eqIntSS_l0 a b h hx hr a.length 0 (by omega)) (by simp))
  · refine evn (by omega) (evs ?_)
    have : a ≠ b := fun e => h (by rw [e])
    simp [this]

/-! ### cmp_Compare_int -/
theorem compareInt (a b : Int) : cmp_Compare_int.f a b = some (if a < b then -1 else if a > b then 1 else 0) := by
  unfold cmp_Compare_int.f cmp_isNaN_int.f
  simp only [bne_self_eq_false, Option.bind_some, Bool.false_eq_true, if_false]
  split
  · rfl
  · split <;> rfl

/-! ### slices_Compare_int_int cmp_Compare_int -/
theorem compareL_l0 (a b : List Int) (hx : a.length < 4611686018427387904) : ∀ (d i : Nat), i + d = a.length → i ≤ b.length →
    Ev (fun k => slices_Compare_int_int.l0 k a b a (a.length : Int) (i : Int)) (cmpv (a.drop i) (b.drop i)) := by
  intro d
  induction d with
  | zero =>
    intro i hi hb
    refine Ev.step (fun k => slices_Compare_int_int.l0.eq_2 ..) (evn (by omega) ?_)
    rw [List.drop_of_length_le (show a.length ≤ i by omega)]
    by_cases e : a.length < b.length
    · refine evp (by omega) (evs ?_)
      rw [List.drop_eq_getElem_cons (show i < b.length by omega)]; rfl
    · refine evn (by omega) (evs ?_)
      rw [List.drop_of_length_le (show b.length ≤ i by omega)]; rfl
  | succ d ih =>
    intro i hi hb
    refine Ev.step (fun k => slices_Compare_int_int.l0.eq_2 ..) (evp (by omega) (evp (by omega) (evp (by omega) ?_)))
    rw [List.drop_eq_getElem_cons (show i < a.length by omega)]
    by_cases e : i ≥ b.length
    · refine evp (by omega) (evs ?_)
      rw [List.drop_of_length_le (show b.length ≤ i by omega)]; rfl
    · refine evn (by omega) (evp (by omega) ?_)
      rw [rd_nat, rd_nat, compareInt, w64s i (by omega), List.drop_eq_getElem_cons (show i < b.length by omega)]
      simp only [List.getD_eq_getElem?_getD, List.getElem?_eq_getElem (show i < a.length by omega), List.getElem?_eq_getElem (show i < b.length by omega), Option.getD_some, Option.bind_some, cmpv]
      by_cases e1 : a[i] < b[i]
      · rw [if_pos e1]; exact evn (by decide) (evs (by rw [if_pos e1]))
      · rw [if_neg e1]
        by_cases e2 : a[i] > b[i]
        · rw [if_pos e2]; exact evn (by decide) (evs (by rw [if_neg e1, if_pos e2]))
        · rw [if_neg e2]; exact evp rfl (evr (ih (i + 1) (by omega) (by omega)) (by rw [if_neg e1, if_neg e2]))
theorem compareL (a b : List Int) (hx : a.length < 4611686018427387904) : Ev (fun k => slices_Compare_int_int.f k a b) (cmpv a b) := by
  unfold slices_Compare_int_int.f
  exact compareL_l0 a b hx a.length 0 (by omega) (by omega)

/-! ### laws_markIntSS laws_markIntS laws_heldIntSS laws_heldIntS -/
def totS : List (List Int) → Int
  | [] => 0
  | r :: l => r.length + totS l
def marksS : List (List Int) → Int → List (List Int)
  | [], _ => []
  | r :: l, a => marks r a :: marksS l (a + r.length)
theorem totS_nonneg : ∀ l, 0 ≤ totS l
  | [] => Int.le_refl _
  | r :: l => by have := totS_nonneg l; simp only [totS]; omega
theorem totS_le : ∀ l, (∀ r ∈ l, (r.length : Int) ≤ 1048576) → totS l ≤ l.length * 1048576
  | [], _ => by simp [totS]
  | r :: l, h => by
    have h1 := totS_le l (fun x hx => h x (by simp [hx]))
    have h2 := h r (by simp)
    simp only [totS, List.length_cons]
    rw [show ((l.length + 1 : Nat) : Int) = (l.length : Int) + 1 by omega, Int.add_mul]; omega
theorem marksS_length : ∀ l a, (marksS l a).length = l.length
  | [], _ => rfl
  | r :: l, a => by simp only [marksS, List.length_cons, marksS_length l]
theorem markRowsS : ∀ (l : List (List Int)) (a : Int), 0 ≤ a → a + totS l < 4611686018427387904 → Ev (fun k => laws_markIntSS.g k l a) (a + totS l, marksS l a) := by
  intro l
  induction l with
  | nil => intro a h0 _; exact evs (by simp [totS, marksS])
  | cons r l ih =>
    intro a h0 hb
    have hn := totS_nonneg l
    simp only [totS] at hb ⊢
    refine evr (evb (markIntS r a h0 (by omega)) (evb (ih (a + r.length) (by omega) (by omega)) (evs rfl))) ?_
    simp only [marksS, Prod.mk.injEq]
    exact ⟨by omega, trivial⟩
theorem markIntSS (l : List (List Int)) (a : Int) (h0 : 0 ≤ a) (hl : l.length ≤ 1048576) (h : a + totS l < 4611686018427387904) : Ev (fun k => laws_markIntSS.f k l a) (a + totS l, marksS l a) := by
  unfold laws_markIntSS.f
  exact evp (by omega) (markRowsS l a h0 h)
theorem heldRows : ∀ (l pre : List (List Int)) (a : Int), 0 ≤ a → pre.length + l.length ≤ 1048576 → a + totS l < 4611686018427387904 →
    Ev (fun k => laws_heldIntSS.l0 k (pre ++ marksS l a) a (pre.length : Int)) (a + totS l) := by
  intro l
  induction l with
  | nil =>
    intro pre a h0 hl hb
    exact Ev.step (fun k => laws_heldIntSS.l0.eq_2 ..) (evn (by simp [marksS]) (evs (by simp [totS])))
  | cons r l ih =>
    intro pre a h0 hl hb
    have hn := totS_nonneg l
    simp only [totS, List.length_cons] at hb hl ⊢
    have e : pre ++ marksS (r :: l) a = (pre ++ [marks r a]) ++ marksS l (a + r.length) := by simp [marksS]
    refine Ev.step (fun k => laws_heldIntSS.l0.eq_2 ..) (evp (by simp [marksS]; omega) (evp (by omega) ?_))
    have er : rd_L1 (pre ++ marksS (r :: l) a) (pre.length : Int) = marks r a := by simp [rd_L1, marksS]
    rw [er]
    refine evb (heldIntS r a h0 (by omega)) (evn (by omega) ?_)
    have h1 := ih (pre ++ [marks r a]) (a + r.length) (by omega) (by simp; omega) (by omega)
    rw [w64s pre.length (by omega), e]
    rw [List.length_append, List.length_singleton] at h1
    exact evr h1 (by omega)
theorem heldIntSS (l : List (List Int)) (a : Int) (h0 : 0 ≤ a) (hl : l.length ≤ 1048576) (h : a + totS l < 4611686018427387904) : Ev (fun k => laws_heldIntSS.f k (marksS l a) a) (a + totS l) := by
  unfold laws_heldIntSS.f
  have := heldRows l [] a h0 (by simpa using hl) h
  simpa using this

/-! ### impl_compareSets slices_Compare_int_int cmp_Compare_int impl_Vote_wins impl_Vote_all -/
theorem cmpT_cmpv : ∀ a b : List Int, cmpT a b = cmpv a b
  | [], [] => rfl
  | [], _ :: _ => rfl
  | _ :: _, [] => rfl
  | x :: a, y :: b => by unfold cmpT cmpv; rw [cmpT_cmpv a b]
theorem compareS (a b : List Int) (ha : a.length ≤ 1048576) (hb : b.length ≤ 1048576) : Ev (fun k => impl_compareSets.f k a b) (cfS a b) := by
  unfold impl_compareSets.f cfS
  by_cases e : (a.length : Int) = (b.length : Int)
  · rw [if_pos e, cmpT_cmpv]
    exact evp e (evb (compareL a b (by omega)) (evs rfl))
  · rw [if_neg e]
    exact evn e (evs (w64 (by omega) (by omega)))
theorem ev_all {P : Nat → Nat → Prop} : ∀ n : Nat, (∀ t, t < n → ∃ K, ∀ k, K ≤ k → P t k) → ∃ K, ∀ k, K ≤ k → ∀ t, t < n → P t k
  | 0, _ => ⟨0, fun _ _ t ht => absurd ht (by omega)⟩
  | n + 1, h => by
    obtain ⟨K1, h1⟩ := ev_all n (fun t ht => h t (by omega))
    obtain ⟨K2, h2⟩ := h n (by omega)
    refine ⟨max K1 K2, fun k hk t ht => ?_⟩
    rcases Nat.lt_or_ge t n with h3 | h3
    · exact h1 k (by omega) t h3
    · obtain rfl : t = n := by omega
      exact h2 k (by omega)
theorem okv_ev {l : List Int} {q : Int} (h : Vot l q) : ∃ K, ∀ k, K ≤ k → OKV k l q ∧ ∀ t : Nat, t < 256 → winV k l q t = winB l q t := by
  obtain ⟨K1, h1⟩ := ev_all (P := fun t k => impl_Vote_wins.f k l q (t : Int) = some (winB l q t)) 256 (fun t ht => wins h t (by omega))
  obtain ⟨K2, h2⟩ := ev_all (P := fun s k => ∀ t, t < 256 → impl_compareSets.f k (bitsV s) (bitsV t) = some (cfS (bitsV s) (bitsV t))) 256 (fun s hs => ev_all 256 (fun t ht => compareS _ _ (by have := bitsV_len s hs; omega) (by have := bitsV_len t ht; omega)))
  refine ⟨max K1 K2, fun k hk => ⟨⟨h.1.2, fun t ht => ?_, fun s hs t ht => h2 k (by omega) s hs t ht, ?_⟩, fun t ht => ?_⟩⟩
  · rw [h1 k (by omega) t ht]; rfl
  · rw [vall q h.1.2]
  · unfold winV; rw [h1 k (by omega) t ht]; rfl

/-! ### spec_l6Before impl_compareSets -/
def ltS (x y : List Int) : Bool := decide (cfS x y < 0)
theorem l6Before_l0 (a b : List Int) (hl : a.length = b.length) (hx : a.length ≤ 1048576) : ∀ (d i : Nat), i + d = a.length → Ev (fun k => spec_l6Before.l0 k a b (i : Int)) (decide (cmpT (a.drop i) (b.drop i) < 0)) := by
  intro d
  induction d with
  | zero =>
    intro i hi
    refine Ev.step (fun k => spec_l6Before.l0.eq_2 ..) (evn (by omega) (evs ?_))
    rw [List.drop_of_length_le (show a.length ≤ i by omega), List.drop_of_length_le (show b.length ≤ i by omega)]; rfl
  | succ d ih =>
    intro i hi
    refine Ev.step (fun k => spec_l6Before.l0.eq_2 ..) (evp (by omega) (evp (by omega) (evp (by omega) ?_)))
    rw [w64s i (by omega), rd_nat, rd_nat, List.drop_eq_getElem_cons (show i < a.length by omega), List.drop_eq_getElem_cons (show i < b.length by omega)]
    have ea : a.getD i 0 = a[i] := by rw [List.getD_eq_getElem?_getD, List.getElem?_eq_getElem (show i < a.length by omega)]; rfl
    have eb : b.getD i 0 = b[i] := by rw [List.getD_eq_getElem?_getD, List.getElem?_eq_getElem (show i < b.length by omega)]; rfl
    rw [ea, eb]
    by_cases e : a[i] = b[i]
    · refine evp e (evr (ih (i + 1) (by omega)) ?_)
      conv => rhs; unfold cmpT
      rw [if_neg (by omega), if_neg (by omega)]
    · refine evn e (evs ?_)
      conv => rhs; unfold cmpT
      by_cases h : a[i] < b[i]
      · rw [if_pos h]; simp [h]
      · rw [if_neg h, if_pos (by omega)]; simp [h]
theorem l6Before (a b : List Int) (ha : a.length ≤ 1048576) (hb : b.length ≤ 1048576) : Ev (fun k => spec_l6Before.f k a b) (ltS a b) := by
  unfold spec_l6Before.f ltS cfS
  by_cases h : (a.length : Int) = (b.length : Int)
  · rw [if_pos h]
    exact evp h (evr (l6Before_l0 a b (by omega) ha a.length 0 (by omega)) (by simp))
  · rw [if_neg h]
    exact evn h (evs (decide_eq_decide.2 (by omega)))

/-! ### spec_l6Put spec_l6Before impl_compareSets -/
/-- A set put to its place. -/
def insV (s : List Int) : List (List Int) → List (List Int)
  | [] => [s]
  | y :: L => if ltS y s = true then y :: insV s L else s :: y :: L
theorem insV_perm (s : List Int) : ∀ L, (insV s L).Perm (s :: L)
  | [] => List.Perm.refl _
  | y :: L => by
    unfold insV
    by_cases h : ltS y s = true
    · rw [if_pos h]; exact ((insV_perm s L).cons y).trans (List.Perm.swap s y L)
    · rw [if_neg h]
theorem insV_sorted (s : List Int) : ∀ L : List (List Int), L.Pairwise (fun x y => ltS y x = false) → (insV s L).Pairwise (fun x y => ltS y x = false)
  | [], _ => by unfold insV; exact List.pairwise_singleton _ _
  | y :: L, h => by
    obtain ⟨h1, h2⟩ := List.pairwise_cons.1 h
    unfold insV
    by_cases c : ltS y s = true
    · rw [if_pos c]
      refine List.pairwise_cons.2 ⟨fun z hz => ?_, insV_sorted s L h2⟩
      rcases List.mem_cons.1 ((insV_perm s L).mem_iff.1 hz) with rfl | hz
      · rw [Bool.eq_false_iff]; intro c2
        have := cfS_swo.trans y z y c c2
        rw [cfS_swo.irrefl] at this; cases this
      · exact h1 z hz
    · rw [if_neg c]
      refine List.pairwise_cons.2 ⟨fun z hz => ?_, h⟩
      rcases List.mem_cons.1 hz with rfl | hz
      · exact Bool.eq_false_iff.2 c
      · exact cfS_swo.ntrans z y s (h1 z hz) (Bool.eq_false_iff.2 c)
theorem insV_len (s : List Int) (L : List (List Int)) : (insV s L).length = L.length + 1 := by rw [(insV_perm s L).length_eq, List.length_cons]
def insAll (xs : List (List Int)) (L : List (List Int)) : List (List Int) := xs.foldl (fun L s => insV s L) L
theorem insAll_ok : ∀ (xs L : List (List Int)), L.Pairwise (fun x y => ltS y x = false) → (insAll xs L).Pairwise (fun x y => ltS y x = false) ∧ (insAll xs L).Perm (xs ++ L)
  | [], L, h => ⟨h, List.Perm.refl _⟩
  | s :: xs, L, h => by
    obtain ⟨h1, h2⟩ := insAll_ok xs (insV s L) (insV_sorted s L h)
    refine ⟨h1, h2.trans ?_⟩
    exact ((insV_perm s L).append_left xs).trans (List.perm_middle)
theorem sortL_ins (xs : List (List Int)) : insAll xs [] = sortL cfS xs := by
  obtain ⟨h1, h2⟩ := insAll_ok xs [] List.Pairwise.nil
  rw [List.append_nil] at h2
  have hbit : ∀ a b : List Int, (!(decide (cfS b a < 0))) = true ↔ ltS b a = false := by intro a b; unfold ltS; simp
  refine List.Perm.eq_of_pairwise (le := fun x y => ltS y x = false) (fun a b _ _ ha hb => cfS_total a b hb ha) h1 ?_ (h2.trans (List.mergeSort_perm _ _).symm)
  have := List.pairwise_mergeSort (le := fun x y : List Int => !(decide (cfS y x < 0))) (fun a b c ha hb => (hbit a c).2 (cfS_swo.ntrans c b a ((hbit b c).1 hb) ((hbit a b).1 ha))) (fun a b => by
    by_cases c : ltS b a = true
    · have : ltS a b = false := by
        rw [Bool.eq_false_iff]; intro c2
        have := cfS_swo.trans a b a c2 c
        rw [cfS_swo.irrefl] at this; cases this
      rw [(hbit b a).2 this, Bool.or_true]
    · rw [(hbit a b).2 (Bool.eq_false_iff.2 c), Bool.true_or]) xs
  exact this.imp (fun h => (hbit _ _).1 h)
theorem rdLput (l : List (List Int)) (i : Nat) : rd_L1 l (i : Int) = rdl l i := by simp [rd_L1, rdl]
theorem l6Put_l0 (L : List (List Int)) (s : List Int) (hL : L.length ≤ 1048576) (hr : ∀ r ∈ L, r.length ≤ 1048576) (hs : s.length ≤ 1048576) : ∀ (d i : Nat), i + d = L.length →
    Ev (fun k => spec_l6Put.l0 k L s (i : Int)) (L.take i ++ insV s (L.drop i)) := by
  have fin : ∀ i : Nat, i ≤ L.length → Ev (fun _ : Nat => (if 0 ≤ (i : Int) then (if (i : Int) ≤ (L.length : Int) then some (([] ++ L.take i) ++ [s] ++ L.drop i) else none) else none)) (L.take i ++ s :: L.drop i) := fun i hi => evp (by omega) (evp (by omega) (evs (by simp)))
  have lz : ∀ i : Nat, i ≤ L.length → ([] : List (List Int)).length + (L.take i).length < 5864062014805 ∧ (([] : List (List Int)) ++ L.take i).length + [s].length < 5864062014805 ∧ (([] ++ L.take i) ++ [s]).length + (L.drop i).length < 5864062014805 := fun i hi => by
    simp only [List.length_append, List.length_take, List.length_drop, List.length_nil, List.length_cons]; omega
  intro d
  induction d with
  | zero =>
    intro i hi
    have h0 : (0 : Int) ≤ i := by omega
    have h1 : (i : Int) ≤ L.length := by omega
    obtain ⟨z1, z2, z3⟩ := lz i (by omega)
    have et : ((i : Int)).toNat = i := Int.toNat_natCast i
    refine Ev.step (fun k => spec_l6Put.l0.eq_2 ..) (evn (by omega) ?_)
    rw [et]
    refine evb (evs rfl) (evp h0 (evp h1 (evb (evs rfl) (evp z1 (evb (evs rfl) (evb (evs rfl) (evp z2 (evb (evs rfl) (evb (evs rfl) (evp z3 (evs ?_)))))))))))
    rw [show L.drop i = [] from List.drop_of_length_le (by omega)]
    simp [insV]
  | succ d ih =>
    intro i hi
    have hgt := List.getElem_mem (show i < L.length by omega)
    have hg : rdl L i = L[i] := by simp [rdl, List.getD_eq_getElem?_getD, List.getElem?_eq_getElem (show i < L.length by omega)]
    have h0 : (0 : Int) ≤ i := by omega
    have h1 : (i : Int) ≤ L.length := by omega
    have hlt : (i : Int) < L.length := by omega
    have hnx := ih (i + 1) (by omega)
    have hw := w64s i (by omega)
    have hb := l6Before L[i] s (hr _ hgt) hs
    obtain ⟨z1, z2, z3⟩ := lz i (by omega)
    have et : ((i : Int)).toNat = i := Int.toNat_natCast i
    have hd := List.drop_eq_getElem_cons (show i < L.length by omega)
    refine Ev.step (fun k => spec_l6Put.l0.eq_2 ..) (evp hlt (evp h0 ?_))
    rw [rdLput, hg, et]
    refine evb hb ?_
    by_cases c : ltS L[i] s = true
    · refine evp c ?_
      rw [hw]
      refine evr hnx ?_
      rw [hd]; conv => rhs; unfold insV
      rw [if_pos c, List.take_succ_eq_append_getElem (by omega), List.append_assoc]; rfl
    · refine evn c (evb (evs rfl) (evp h1 (evb (evs rfl) (evp z1 (evb (evs rfl) (evb (evs rfl) (evp z2 (evb (evs rfl) (evb (evs rfl) (evp z3 (evs ?_)))))))))))
      rw [hd]; conv => rhs; unfold insV
      rw [if_neg c]; simp
theorem l6Put (L : List (List Int)) (s : List Int) (hL : L.length ≤ 1048576) (hr : ∀ r ∈ L, r.length ≤ 1048576) (hs : s.length ≤ 1048576) : Ev (fun k => spec_l6Put.f k L s) (insV s L) := by
  unfold spec_l6Put.f
  exact evr (l6Put_l0 L s hL hr hs L.length 0 (by omega)) (by simp)

/-! ### spec_l6Bits impl_compareSets -/
theorem l6Bits_l0 (n c : Nat) (hn : n ≤ 8) (hc : c < 256) : ∀ (d i : Nat), i + d = n → Ev (fun k => spec_l6Bits.l0 k (n : Int) (c : Int) (((List.range i).filter fun i => bit c i == 1).map fun i : Nat => (i : Int)) (i : Int)) (((List.range n).filter fun i => bit c i == 1).map fun i : Nat => (i : Int)) := by
  intro d
  induction d with
  | zero =>
    intro i hi
    exact Ev.step (fun k => spec_l6Bits.l0.eq_2 ..) (evn (by omega) (evs (by rw [show i = n by omega])))
  | succ d ih =>
    intro i hi
    have hnx := ih (i + 1) (by omega)
    have hl : (((List.range i).filter fun i => bit c i == 1).map fun i : Nat => (i : Int)).length ≤ 8 := by rw [List.length_map]; exact Nat.le_trans (List.length_filter_le _ _) (by rw [List.length_range]; omega)
    refine Ev.step (fun k => spec_l6Bits.l0.eq_2 ..) (evp (by omega) (evp (by omega) ?_))
    rw [digit c i (by omega) (by omega), w64s i (by omega)]
    rw [List.range_succ, List.filter_append, List.map_append] at hnx
    by_cases e : bit c i = 1
    · refine evp (by omega) (evp (by omega) (evr hnx rfl |>.congr fun k => ?_))
      simp [List.filter_cons, e]
    · refine evn (by omega) (hnx.congr fun k => ?_)
      simp [List.filter_cons, e]
theorem l6Bits_eq : ∀ n : Nat, n ≤ 8 → ∀ c : Nat, c < 2 ^ n → (((List.range n).filter fun i => bit c i == 1).map fun i : Nat => (i : Int)) = bitsV c := by decide +kernel
theorem l6Bits (n c : Nat) (hn : n ≤ 8) (hc : c < 2 ^ n) : Ev (fun k => spec_l6Bits.f k (n : Int) (c : Int)) (bitsV c) := by
  have hp := pow8 n hn
  unfold spec_l6Bits.f
  rw [← l6Bits_eq n hn c hc]
  exact l6Bits_l0 n c hn (by omega) n 0 (by omega)

/-! ### spec_l6Edge impl_compareSets -/
theorem xor_bits : ∀ c : Nat, c < 256 → ∀ i : Nat, i < 8 → Go.bits .xor .i64 (c : Int) ((2 ^ i : Nat) : Int) = ((c ^^^ 2 ^ i : Nat) : Int) := by decide +kernel
theorem xor_lt : ∀ n : Nat, n ≤ 8 → ∀ c : Nat, c < 2 ^ n → ∀ i : Nat, i < n → c ^^^ 2 ^ i < 2 ^ n := by
  intro n hn c hc i hi
  exact Nat.xor_lt_two_pow hc (Nat.pow_lt_pow_right (by omega) hi)
def edgeV (f : Nat → Bool) (n c : Nat) (win : Bool) : Bool := ((List.range n).all fun i => !(((decide (bit c i = 1)) == win) && (f (c ^^^ 2 ^ i) == win))) && (f c == win)
theorem l6Edge_l0 (f : Nat → Bool) (n c : Nat) (win : Bool) (hn : n ≤ 8) (hc : c < 2 ^ n) : ∀ (d i : Nat), i + d = n →
    Ev (fun k => spec_l6Edge.l0 k (n : Int) ((List.range (2 ^ n)).map f) (c : Int) win (i : Int)) (((List.range' i d).all fun i => !(((decide (bit c i = 1)) == win) && (f (c ^^^ 2 ^ i) == win))) && (f c == win)) := by
  have hp := pow8 n hn
  have hlen : ((List.range (2 ^ n)).map f).length = 2 ^ n := by simp
  intro d
  induction d with
  | zero =>
    intro i hi
    refine Ev.step (fun k => spec_l6Edge.l0.eq_2 ..) (evn (by omega) (evp (by omega) (evp (by rw [hlen]; omega) (evs ?_))))
    rw [rdOf_map f _ c hc]; simp
  | succ d ih =>
    intro i hi
    have hnx := ih (i + 1) (by omega)
    have hx := xor_lt n hn c hc i (by omega)
    refine Ev.step (fun k => spec_l6Edge.l0.eq_2 ..) (evp (by omega) (evp (by omega) ?_))
    rw [digit c i (by omega) (by omega), shl1 i (by omega), xor_bits c (by omega) i (by omega), w64s i (by omega), rdOf_map f _ _ hx, hlen]
    have eb : (((bit c i : Nat) : Int) == 1) = decide (bit c i = 1) := by
      by_cases e : bit c i = 1
      · rw [e]; rfl
      · rw [decide_eq_false e]; exact beq_eq_false_iff_ne.2 (by omega)
    rw [eb, List.range'_succ, List.all_cons]
    by_cases e1 : ((decide (bit c i = 1)) == win) = true
    · refine evp e1 (evp (by omega) (evp (by omega) ?_))
      by_cases e2 : (f (c ^^^ 2 ^ i) == win) = true
      · exact evp e2 (evs (by rw [e1, e2]; rfl))
      · refine evn e2 (evr hnx ?_)
        rw [Bool.eq_false_iff.2 e2, Bool.and_false, Bool.not_false, Bool.true_and]
    · refine evn e1 (evr hnx ?_)
      rw [Bool.eq_false_iff.2 e1, Bool.false_and, Bool.not_false, Bool.true_and]
theorem l6Edge (f : Nat → Bool) (n c : Nat) (win : Bool) (hn : n ≤ 8) (hc : c < 2 ^ n) : Ev (fun k => spec_l6Edge.f k (n : Int) ((List.range (2 ^ n)).map f) (c : Int) win) (edgeV f n c win) := by
  unfold spec_l6Edge.f edgeV
  refine evr (l6Edge_l0 f n c win hn hc n 0 (by omega)) ?_
  rw [List.range_eq_range']

/-! ### spec_l6Edges spec_l6Edge spec_l6Bits spec_l6Put spec_l6Before impl_compareSets -/
def edgesV (l : List Int) (q : Int) (win : Bool) : List (List Int) := sortL cfS (((List.range (2 ^ l.length)).filter fun c => edgeV (winB l q) l.length c win).map bitsV)
theorem bitsV_le (c : Nat) : (bitsV c).length ≤ 8 := by
  unfold bitsV; rw [List.length_map]; exact Nat.le_trans (List.length_filter_le _ _) (by simp)
theorem l6Edges_l0 (f : Nat → Bool) (n : Nat) (win : Bool) (hn : n ≤ 8) : ∀ (d c : Nat) (L : List (List Int)), c + d = 2 ^ n → L.length ≤ c → (∀ r ∈ L, r.length ≤ 8) →
    Ev (fun k => spec_l6Edges.l0 k win L ((List.range (2 ^ n)).map f) (n : Int) (c : Int)) (insAll (((List.range' c d).filter fun c => edgeV f n c win).map bitsV) L) := by
  have hp := pow8 n hn
  have hlen : ((List.range (2 ^ n)).map f).length = 2 ^ n := by simp
  intro d
  induction d with
  | zero =>
    intro c L hc hL hr
    exact Ev.step (fun k => spec_l6Edges.l0.eq_2 ..) (evn (by rw [hlen]; omega) (evs (by simp [insAll])))
  | succ d ih =>
    intro c L hc hL hr
    refine Ev.step (fun k => spec_l6Edges.l0.eq_2 ..) (evp (by rw [hlen]; omega) (evb (l6Edge f n c win hn (by omega)) ?_))
    rw [w64s c (by omega), List.range'_succ]
    by_cases e : edgeV f n c win = true
    · refine evp e (evb (l6Bits n c hn (by omega)) (evb (l6Put L (bitsV c) (by omega) (fun r h => by have := hr r h; omega) (by have := bitsV_le c; omega)) (evr (ih (c + 1) (insV (bitsV c) L) (by omega) (by rw [insV_len]; omega) (fun r h => ?_)) ?_)))
      · rcases List.mem_cons.1 ((insV_perm _ _).mem_iff.1 h) with rfl | h
        · exact bitsV_le c
        · exact hr r h
      · rw [List.filter_cons_of_pos (p := fun c => edgeV f n c win) e]; rfl
    · refine evn e (evr (ih (c + 1) L (by omega) (by omega) hr) ?_)
      rw [List.filter_cons_of_neg (p := fun c => edgeV f n c win) e]
theorem l6Edges {l : List Int} {q : Int} (h : Vot l q) (win : Bool) : Ev (fun k => spec_l6Edges.f k l q win) (edgesV l q win) := by
  have hp := pow8 l.length h.1.2
  unfold spec_l6Edges.f edgesV
  refine evb (l6Wins h) (evr (l6Edges_l0 (winB l q) l.length win h.1.2 (2 ^ l.length) 0 [] (by omega) (by simp) (by simp)) ?_)
  rw [sortL_ins, List.range_eq_range']
theorem edgesV_len (l : List Int) (q : Int) (win : Bool) (h8 : l.length ≤ 8) : (edgesV l q win).length ≤ 256 ∧ ∀ r ∈ edgesV l q win, r.length ≤ 8 := by
  have hp := pow8 l.length h8
  unfold edgesV sortL
  constructor
  · rw [List.length_mergeSort, List.length_map]; exact Nat.le_trans (List.length_filter_le _ _) (by rw [List.length_range]; omega)
  · intro r hr
    obtain ⟨c, _, rfl⟩ := List.mem_map.1 ((List.mergeSort_perm _ _).mem_iff.1 hr)
    exact bitsV_le c
def edgesR (l : List Int) (q : Int) (win : Bool) : List (List Int) × Bool := if voteB l q = true then (edgesV l q win, true) else ([], false)
theorem edgesR_len (l : List Int) (q : Int) (win : Bool) : (edgesR l q win).1.length ≤ 256 ∧ ∀ r ∈ (edgesR l q win).1, r.length ≤ 8 := by
  unfold edgesR
  by_cases e : voteB l q = true
  · rw [if_pos e]; exact edgesV_len l q win ((voteB_iff l q).1 e).1.2
  · rw [if_neg e]; exact ⟨by simp, by simp⟩

/-! ### spec_LeastWins spec_l6Edges impl_compareSets -/
theorem sLeast (l : List Int) (q : Int) (hl : l.length < 4611686018427387904) : Ev (fun k => spec_LeastWins.f k l q) (edgesR l q true) := by
  unfold spec_LeastWins.f edgesR
  refine evb (l6Vote l q hl) ?_
  by_cases e : voteB l q = true
  · rw [if_pos e]; exact evp e (evb (l6Edges ((voteB_iff l q).1 e) true) (evs rfl))
  · rw [if_neg e]; exact evn e (evs rfl)

/-! ### impl_LeastWins spec_l6Edges impl_compareSets -/
theorem least_bits : ∀ n : Nat, n ≤ 8 → ∀ c : Nat, c < 2 ^ n → ∀ i : Nat, i < 8 → (bit c i = 1 → i < n ∧ c ^^^ 2 ^ i = clrN c i) := by decide +kernel
theorem mem_bitsV (c : Nat) (i : Nat) : ((i : Int) ∈ bitsV c) ↔ (i < 8 ∧ bit c i = 1) := by
  unfold bitsV bit
  constructor
  · intro h
    obtain ⟨j, hj, e⟩ := List.mem_map.1 h
    obtain ⟨h1, h2⟩ := List.mem_filter.1 hj
    obtain rfl : j = i := by omega
    exact ⟨List.mem_range.1 h1, by simpa using h2⟩
  · rintro ⟨h1, h2⟩
    exact List.mem_map.2 ⟨i, List.mem_filter.2 ⟨List.mem_range.2 h1, by simpa using h2⟩, rfl⟩
theorem least_edge (f : Nat → Bool) (n c : Nat) (hn : n ≤ 8) (hc : c < 2 ^ n) : (((bitsV c).all fun i => !(f (clrN c i.toNat))) && f c) = edgeV f n c true := by
  unfold edgeV
  congr 1
  · rw [Bool.eq_iff_iff, List.all_eq_true, List.all_eq_true]
    constructor
    · intro h i hi
      by_cases e : bit c i = 1
      · have h2 := h i ((mem_bitsV c i).2 ⟨by have := List.mem_range.1 hi; omega, e⟩)
        rw [Int.toNat_natCast] at h2
        rw [(least_bits n hn c hc i (by have := List.mem_range.1 hi; omega) e).2, e]
        simpa using h2
      · simp [e]
    · intro h x hx
      obtain ⟨i, hi, rfl⟩ := bitsV_in hx
      have e := ((mem_bitsV c i).1 hx).2
      have h2 := h i (List.mem_range.2 (least_bits n hn c hc i hi e).1)
      rw [(least_bits n hn c hc i hi e).2, e] at h2
      rw [Int.toNat_natCast]
      simpa using h2
  · cases f c <;> rfl
theorem iLeast (l : List Int) (q : Int) (hl : l.length < 4611686018427387904) : Ev (fun k => impl_LeastWins.f k l q) (edgesR l q true) := by
  unfold impl_LeastWins.f edgesR
  refine evb (iIsVote l q hl) ?_
  by_cases e : voteB l q = true
  · have h := (voteB_iff l q).1 e
    rw [if_pos e]
    refine evp e ?_
    obtain ⟨K, hK⟩ := okv_ev h
    refine ⟨K, fun k hk => ?_⟩
    have hp := pow8 l.length h.1.2
    dsimp only
    rw [if_pos (hK k hk).1]
    unfold edgesV
    rw [filter_congr_ (leastV k l q) (fun c => edgeV (winB l q) l.length c true) _ (fun s hs => ?_)]
    have hs' := List.mem_range.1 hs
    rw [← least_edge (winB l q) l.length s h.1.2 hs']
    unfold leastV
    rw [(hK k hk).2 s (by omega)]
    congr 1
    refine all_congr_ _ _ _ fun x hx => ?_
    obtain ⟨i, hi, rfl⟩ := bitsV_in hx
    rw [Int.toNat_natCast, (hK k hk).2 _ (clrN_bits s (by omega) i hi).2]
  · rw [if_neg e]; exact evn e (evs rfl)

/-! ### laws_FnExactLeastWins -/
theorem law (l : List Int) (q : Int) (hl : l.length ≤ maxLen) : Ev (fun k => laws_FnExactLeastWins.f k l q) true := by
  unfold laws_FnExactLeastWins.f
  rw [szVote l q 1048576 (by omega) (by omega) hl]; simp only [Option.bind_some]
  by_cases h : (l.length : Int) ≤ 1048576
  · rw [if_pos h]
    have hs := sLeast l q (by omega)
    have hi := iLeast l q (by omega)
    obtain ⟨hb1, hb2⟩ := edgesR_len l q true
    generalize edgesR l q true = R at *
    have ht := totS_le R.1 (fun r hr => by have := hb2 r hr; omega)
    have hn := totS_nonneg R.1
    have hm := markIntSS R.1 1 (by omega) (by omega) (by omega)
    have hh := heldIntSS R.1 1 (by omega) (by omega) (by omega)
    have hq := eqIntSS R.1 R.1 (by omega) (fun r hr => by have := hb2 r hr; omega)
    repeat (first
    | exact evs rfl
    | dsimp only
    | (with_reducible refine evb hs ?_)
    | (with_reducible refine evb hi ?_)
    | (with_reducible refine evb hm ?_)
    | (with_reducible refine evb hh ?_)
    | (with_reducible refine evb hq ?_)
    | ((with_reducible refine evb (toIntS _ ?_) ?_); (focus (first | omega | assumption)))
    | ((with_reducible refine evb (eqIntS _ _ ?_) ?_); (focus (first | omega | assumption)))
    | ((with_reducible refine evb (markIntS _ _ ?_ ?_) ?_); (focus (first | omega | assumption)); (focus (first | omega | assumption)))
    | ((with_reducible refine evb (heldIntS _ _ ?_ ?_) ?_); (focus (first | omega | assumption)); (focus (first | omega | assumption)))
    | ((with_reducible refine evb (toVote _ _ ?_) ?_); (focus (first | omega | assumption)))
    | ((with_reducible refine evb (eqVote _ _ _ _ ?_) ?_); (focus (first | omega | assumption)))
    | ((with_reducible refine evb (markVote _ _ _ ?_ ?_) ?_); (focus (first | omega | assumption)); (focus (first | omega | assumption)))
    | ((with_reducible refine evb (eqIntSS _ _ ?_ ?_) ?_); (focus (first | omega | assumption)); (focus (first | omega | assumption)))
    | (refine evp ?_ ?_; focus (first | omega | (simp; done)))
    | (refine evn ?_ ?_; focus (first | omega | (simp; done)))
    | (with_reducible refine Ev.step (fun k => laws_FnExactLeastWins.j0.eq_2 ..) ?_)
    | (with_reducible refine Ev.step (fun k => laws_FnExactLeastWins.j1.eq_2 ..) ?_)
    | (with_reducible refine Ev.step (fun k => laws_FnExactLeastWins.j2.eq_2 ..) ?_)
    )
  · rw [if_neg h]; exact evp (by omega) (evs rfl)

end Go.Proofs.YtlbleemoiabmdaaDoor.LFnExactLeastWins
