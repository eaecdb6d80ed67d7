/- Own lemmas: what the printed functions of one law come to. -/
import Derived.Test.YtklhdaekadpldaaMFnExactQuotaSwingsx8
import Derived.Test.YtklhdaekadpldaaBase
namespace Go.Proofs.Ytklhdaekadpldaa.LFnExactQuotaSwings
open Go Go.RowKit Go.Proofs.Ytklhdaekadpldaa.Base Go.Proofs.Ytklhdaekadpldaa.PFnExactQuotaSwings Go.Proofs.YtklhdaekadpldaaW.PrintWords Go.Proofs.YtklhdaekadpldaaW.PrintLast Go.Proofs.YtklhdaekadpldaaW.PrintMore
set_option linter.unusedVariables false
set_option linter.unusedSimpArgs false
set_option maxRecDepth 4000

/-! ### laws_toIntS -/
theorem toIntS_l0 (x0 : List Int) (hx : x0.length < 4611686018427387904) : ∀ (d i : Nat) (x3 : List Int), i + d = x0.length → x3.length = x0.length →
    Ev (fun k => laws_toIntS.l0 k x0 x3 (i : Int)) (x3.take i ++ x0.drop i) := by
  intro d
  induction d with
  | zero =>
    intro i x3 hi hl
    refine Ev.step (fun k => laws_toIntS.l0.eq_2 ..) (evn (by omega) (evs ?_))
    simp [List.take_of_length_le (show x3.length ≤ i by omega), List.drop_of_length_le (show x0.length ≤ i by omega)]
  | succ d ih =>
    intro i x3 hi hl
    refine Ev.step (fun k => laws_toIntS.l0.eq_2 ..) (evp (by omega) (evp (by omega) (evp (by omega) ?_)))
    rw [w64s i (by omega), rd_nat]
    refine evr (ih (i + 1) _ (by omega) (by simpa using hl)) ?_
    rw [Int.toNat_natCast, set_take _ _ _ (by omega), List.drop_eq_getElem_cons (show i < x0.length by omega), List.append_assoc]
    simp [List.getD_eq_getElem?_getD, List.getElem?_eq_getElem (show i < x0.length by omega)]
theorem toIntS (l : List Int) (h : l.length ≤ 35184372088832) : Ev (fun k => laws_toIntS.f k l) l := by
  unfold laws_toIntS.f
  refine evp (by omega) (evp (by simpa using h) ?_)
  refine evr (toIntS_l0 l (by omega) l.length 0 _ (by omega) (by simp)) (by simp)

/-! ### laws_eqIntS -/
theorem eqIntS_l0 (a b : List Int) (hl : a.length = b.length) (hx : a.length < 4611686018427387904) : ∀ (d i : Nat), i + d = a.length →
    Ev (fun k => laws_eqIntS.l0 k a b (i : Int)) (decide (a.drop i = b.drop i)) := by
  intro d
  induction d with
  | zero =>
    intro i hi
    refine Ev.step (fun k => laws_eqIntS.l0.eq_2 ..) (evn (by omega) (evs ?_))
    simp [List.drop_of_length_le (show a.length ≤ i by omega), List.drop_of_length_le (show b.length ≤ i by omega)]
  | succ d ih =>
    intro i hi
    refine Ev.step (fun k => laws_eqIntS.l0.eq_2 ..) (evp (by omega) (evp (by omega) (evp (by omega) ?_)))
    rw [w64s i (by omega), rd_nat, rd_nat]
    have ea := List.drop_eq_getElem_cons (show i < a.length by omega)
    have eb := List.drop_eq_getElem_cons (show i < b.length by omega)
    simp only [List.getD_eq_getElem?_getD, List.getElem?_eq_getElem (show i < a.length by omega), List.getElem?_eq_getElem (show i < b.length by omega), Option.getD_some]
    by_cases e : a[i] = b[i]
    · refine evp e (evr (ih (i + 1) (by omega)) ?_)
      rw [ea, eb, e]; simp only [List.cons.injEq, true_and]
    · refine evn e (evs ?_)
      rw [ea, eb]; simp only [List.cons.injEq, e, false_and, decide_false]
theorem eqIntS (a b : List Int) (hx : a.length < 4611686018427387904) : Ev (fun k => laws_eqIntS.f k a b) (decide (a = b)) := by
  unfold laws_eqIntS.f
  by_cases h : a.length = b.length
  · refine evp (by omega) (evr (eqIntS_l0 a b h hx a.length 0 (by omega)) (by simp))
  · refine evn (by omega) (evs ?_)
    have : a ≠ b := fun e => h (by rw [e])
    simp [this]

/-! ### laws_markIntS -/
theorem markIntS_l0 (d : Nat) : ∀ (x0 : List Int) (m : Int) (i : Nat), i + d = x0.length → x0.length < 4611686018427387904 → 0 ≤ m → m + d < 4611686018427387904 →
    Ev (fun k => laws_markIntS.l0 k x0 m (i : Int)) (m + d, x0.take i ++ (List.range d).map fun j : Nat => m + (j : Int)) := by
  induction d with
  | zero =>
    intro x0 m i hi hx h0 hm
    refine Ev.step (fun k => laws_markIntS.l0.eq_2 ..) (evn (by omega) (evs ?_))
    simp [List.take_of_length_le (show x0.length ≤ i by omega)]
  | succ d ih =>
    intro x0 m i hi hx h0 hm
    refine Ev.step (fun k => laws_markIntS.l0.eq_2 ..) (evp (by omega) (evp (by omega) ?_))
    rw [w64s i (by omega), w64 (x := m + 1) (by omega) (by omega)]
    refine evr (ih _ _ (i + 1) (by simp; omega) (by simpa using hx) (by omega) (by omega)) ?_
    rw [Int.toNat_natCast, set_take _ _ _ (by omega), List.append_assoc, List.range_succ_eq_map]
    simp only [List.map_cons, List.map_map, Prod.mk.injEq]
    refine ⟨by push_cast; omega, ?_⟩
    congr 1
    simp only [List.cons_append, List.nil_append, List.cons.injEq]
    refine ⟨by simp, List.map_congr_left fun j _ => by simp; omega⟩
theorem markIntS (l : List Int) (m : Int) (h0 : 0 ≤ m) (h : m + l.length < 4611686018427387904) : Ev (fun k => laws_markIntS.f k l m) (m + l.length, marks l m) := by
  unfold laws_markIntS.f
  exact evr (markIntS_l0 l.length l m 0 (by omega) (by omega) h0 h) (by simp [marks])

/-! ### laws_heldIntS -/
theorem heldIntS_l0 (l : List Int) (m : Int) (h0 : 0 ≤ m) (hm : m + l.length < 4611686018427387904) (hv : ∀ i, i < l.length → l.getD i 0 = m + i) : ∀ (d i : Nat), i + d = l.length →
    Ev (fun k => laws_heldIntS.l0 k l (m + (i : Int)) (i : Int)) (m + l.length) := by
  intro d
  induction d with
  | zero =>
    intro i hi
    refine Ev.step (fun k => laws_heldIntS.l0.eq_2 ..) (evn (by omega) (evs ?_))
    omega
  | succ d ih =>
    intro i hi
    refine Ev.step (fun k => laws_heldIntS.l0.eq_2 ..) (evp (by omega) (evp (by omega) ?_))
    rw [w64s i (by omega), w64 (x := m + i + 1) (by omega) (by omega), rd_nat]
    refine evp (hv i (by omega)) ?_
    have := ih (i + 1) (by omega)
    rw [show m + ((i + 1 : Nat) : Int) = m + i + 1 by omega] at this
    exact this
theorem heldIntS (l : List Int) (m : Int) (h0 : 0 ≤ m) (hm : m + l.length < 4611686018427387904) : Ev (fun k => laws_heldIntS.f k (marks l m) m) (m + l.length) := by
  unfold laws_heldIntS.f
  have h := heldIntS_l0 (marks l m) m h0 (by rw [marks_length]; exact hm) (fun i hi => marks_at l m i (by rwa [marks_length] at hi)) l.length 0 (by rw [marks_length]; omega)
  rw [marks_length] at h
  simpa using h

/-! ### spec_l1In -/
theorem l1In (a b c : Int) : spec_l1In.f a b c = some (decide (b ≤ a ∧ a ≤ c)) := by
  unfold spec_l1In.f; split <;> simp_all <;> omega

/-! ### impl_within -/
theorem within (a b c : Int) : impl_within.f a b c = some (decide (b ≤ a ∧ a ≤ c)) := by
  unfold impl_within.f; split <;> simp_all <;> omega

/-! ### impl_allWithin -/
theorem allWithin_l0 (lo up : Int) (l : List Int) (hx : l.length < 4611686018427387904) : ∀ (d i : Nat), i + d = l.length →
    Ev (fun k => impl_allWithin.l0 k lo up l (l.length : Int) (i : Int)) ((l.drop i).all fun x => decide (lo ≤ x ∧ x ≤ up)) := by
  intro d
  induction d with
  | zero =>
    intro i hi
    refine Ev.step (fun k => impl_allWithin.l0.eq_2 ..) (evn (by omega) (evs ?_))
    simp [List.drop_of_length_le (show l.length ≤ i by omega)]
  | succ d ih =>
    intro i hi
    refine Ev.step (fun k => impl_allWithin.l0.eq_2 ..) (evp (by omega) (evp (by omega) (evp (by omega) ?_)))
    rw [w64s i (by omega), rd_nat, within, List.drop_eq_getElem_cons (show i < l.length by omega)]
    simp only [List.getD_eq_getElem?_getD, List.getElem?_eq_getElem (show i < l.length by omega), Option.getD_some, Option.bind_some, List.all_cons]
    by_cases e : lo ≤ l[i] ∧ l[i] ≤ up
    · refine evp (by simpa using e) (evr (ih (i + 1) (by omega)) (by simp [e]))
    · refine evn (by simpa using e) (evs (by simp [e]))
theorem allWithin (l : List Int) (lo up : Int) (hx : l.length < 4611686018427387904) : Ev (fun k => impl_allWithin.f k l lo up) (l.all fun x => decide (lo ≤ x ∧ x ≤ up)) := by
  unfold impl_allWithin.f
  exact allWithin_l0 lo up l hx l.length 0 (by omega)

/-! ### laws_szIntS -/
theorem szIntS (l : List Int) (m : Int) (h0 : 0 ≤ m) (hm : m ≤ 1048576) (hl : l.length ≤ maxLen) : laws_szIntS.f l m = some (if (l.length : Int) ≤ m then m - l.length else -1) := by
  unfold maxLen at hl
  unfold laws_szIntS.f
  rw [w64 (x := m - (l.length : Int)) (by omega) (by omega)]
  by_cases h : (l.length : Int) ≤ m
  · rw [if_neg (by omega), if_pos h]
  · rw [if_pos (by omega), if_neg h]

/-! ### laws_szVote laws_szIntS -/
theorem szVote (l : List Int) (q m : Int) (h0 : 0 ≤ m) (hm : m ≤ 1048576) (hl : l.length ≤ maxLen) : laws_szVote.f l q m = some (if (l.length : Int) ≤ m then m - l.length else -1) := by
  unfold laws_szVote.f
  rw [szIntS l m h0 hm hl]
  simp only [Option.bind_some]
  by_cases h : (l.length : Int) ≤ m
  · rw [if_pos h, if_neg (by omega)]
  · rw [if_neg h, if_pos (by omega)]

/-! ### laws_toVote laws_toIntS -/
theorem toVote (l : List Int) (q : Int) (h : l.length ≤ 35184372088832) : Ev (fun k => laws_toVote.f k l q) (l, q) := by
  unfold laws_toVote.f
  exact evb (toIntS l h) (evs rfl)

/-! ### laws_eqVote laws_eqIntS -/
theorem eqVote (l : List Int) (q : Int) (l' : List Int) (q' : Int) (h : l.length < 4611686018427387904) : Ev (fun k => laws_eqVote.f k l q l' q') (decide (l = l') && decide (q = q')) := by
  unfold laws_eqVote.f
  refine evb (eqIntS l l' h) ?_
  by_cases e : l = l'
  · refine evp (by simpa using e) ?_
    by_cases e' : q = q'
    · exact evp e' (evs (by simp [e, e']))
    · exact evn e' (evs (by simp [e, e']))
  · exact evn (by simpa using e) (evs (by simp [e]))

/-! ### laws_markVote laws_markIntS -/
theorem markVote (l : List Int) (q m : Int) (h0 : 0 ≤ m) (h : m + l.length < 4611686018427387904) : Ev (fun k => laws_markVote.f k l q m) (m + l.length, marks l m) := by
  unfold laws_markVote.f
  exact evb (markIntS l m h0 h) (evs rfl)

/-! ### spec_l6Vote -/
theorem l6Vote_l0 (l : List Int) (q : Int) (hl : l.length < 4611686018427387904) : ∀ (d i : Nat) (s : Int), i + d = l.length → i ≤ 9 → 0 ≤ s → s ≤ 20 * i →
    Ev (fun k => spec_l6Vote.l0 k s (i : Int) l q) (decide (1 ≤ l.length ∧ l.length ≤ 8) && (okW (l.drop i) && decide (1 ≤ q ∧ q ≤ s + isum (l.drop i)))) := by
  intro d
  induction d with
  | zero =>
    intro i s hi h9 hs0 hs
    have hd : l.drop i = [] := List.drop_of_length_le (by omega)
    refine Ev.step (fun k => spec_l6Vote.l0.eq_2 ..) (evn (by omega) (Ev.step (fun k => spec_l6Vote.j1.eq_2 ..) (evn (by simp) ?_)))
    rw [l1In, l1In]; simp only [Option.bind_some]
    by_cases e : 1 ≤ l.length ∧ l.length ≤ 8
    · refine evp (by simp; omega) (evs ?_)
      rw [hd, decide_eq_true e]; simp [okW, isum]
    · refine evn (by simp; omega) (evs ?_)
      rw [decide_eq_false e]; simp
  | succ d ih =>
    intro i s hi h9 hs0 hs
    have hd := List.drop_eq_getElem_cons (show i < l.length by omega)
    refine Ev.step (fun k => spec_l6Vote.l0.eq_2 ..) (evp (by omega) (Ev.step (fun k => spec_l6Vote.j1.eq_2 ..) ?_))
    by_cases e8 : i ≤ 8
    · refine evp (by simp; omega) (evp (by omega) (evp (by omega) ?_))
      rw [l1In, rd_nat, w64s i (by omega)]
      simp only [List.getD_eq_getElem?_getD, List.getElem?_eq_getElem (show i < l.length by omega), Option.getD_some, Option.bind_some]
      by_cases e : 0 ≤ l[i] ∧ l[i] ≤ 20
      · refine evp (by simpa using e) ?_
        rw [w64 (x := s + l[i]) (by omega) (by omega)]
        refine evr (ih (i + 1) _ (by omega) (by omega) (by omega) (by omega)) ?_
        rw [hd, show s + isum (l[i] :: l.drop (i + 1)) = s + l[i] + isum (l.drop (i + 1)) by simp only [isum]; omega]; simp only [okW, List.all_cons, decide_eq_true e, Bool.true_and]
      · refine evn (by simpa using e) (evs ?_)
        rw [hd]; simp only [okW, List.all_cons, decide_eq_false e, Bool.false_and, Bool.and_false]
    · refine evn (by simp; omega) ?_
      rw [l1In, l1In]; simp only [Option.bind_some]
      have e : ¬ (1 ≤ l.length ∧ l.length ≤ 8) := by omega
      refine evn (by simp; omega) (evs ?_)
      rw [decide_eq_false e]; simp
theorem l6Vote (l : List Int) (q : Int) (hl : l.length < 4611686018427387904) : Ev (fun k => spec_l6Vote.f k l q) (voteB l q) := by
  unfold spec_l6Vote.f
  exact evr (l6Vote_l0 l q hl l.length 0 0 (by omega) (by omega) (by omega) (by omega)) (by simp [voteB])

/-! ### impl_total -/
theorem total_l0 (l : List Int) (b : Int) (hb : 0 ≤ b ∧ b ≤ 1000000000000) (hx : ∀ x ∈ l, -b ≤ x ∧ x ≤ b) (hl : l.length ≤ 1048576) : ∀ (d i : Nat) (s : Int), i + d = l.length → -(b * i) ≤ s → s ≤ b * i →
    Ev (fun k => impl_total.l0 k s l (l.length : Int) (i : Int)) (s + isum (l.drop i)) := by
  intro d
  induction d with
  | zero =>
    intro i s hi hs0 hs
    have hd : l.drop i = [] := List.drop_of_length_le (by omega)
    exact Ev.step (fun k => impl_total.l0.eq_2 ..) (evn (by omega) (evs (by rw [hd]; simp [isum])))
  | succ d ih =>
    intro i s hi hs0 hs
    have hd := List.drop_eq_getElem_cons (show i < l.length by omega)
    have hi' := hx l[i] (List.getElem_mem (by omega))
    have hbi : b * (i : Int) ≤ 1000000000000 * 1048576 := Int.mul_le_mul hb.2 (by omega) (by omega) (by omega)
    have hbs : b * ((i + 1 : Nat) : Int) = b * i + b := by rw [show ((i + 1 : Nat) : Int) = (i : Int) + 1 by omega, Int.mul_add]; omega
    refine Ev.step (fun k => impl_total.l0.eq_2 ..) (evp (by omega) (evp (by omega) (evp (by omega) ?_)))
    rw [rd_nat, w64s i (by omega)]
    simp only [List.getD_eq_getElem?_getD, List.getElem?_eq_getElem (show i < l.length by omega), Option.getD_some]
    rw [w64 (x := s + l[i]) (by omega) (by omega)]
    refine evr (ih (i + 1) _ (by omega) (by omega) (by omega)) ?_
    rw [hd]; simp only [isum, Int.add_assoc]
theorem total (l : List Int) (b : Int) (hb : 0 ≤ b ∧ b ≤ 1000000000000) (hx : ∀ x ∈ l, -b ≤ x ∧ x ≤ b) (hl : l.length ≤ 1048576) : Ev (fun k => impl_total.f k l) (isum l) := by
  unfold impl_total.f
  exact evr (total_l0 l b hb hx hl l.length 0 0 (by omega) (by simp) (by simp)) (by simp)

/-! ### impl_IsVote -/
theorem iIsVote (l : List Int) (q : Int) (hl : l.length < 4611686018427387904) : Ev (fun k => impl_IsVote.f k l q) (voteB l q) := by
  unfold impl_IsVote.f voteB
  rw [within]; simp only [Option.bind_some]
  by_cases e : 1 ≤ l.length ∧ l.length ≤ 8
  · refine evp (by simp; omega) (evb (allWithin l 0 20 hl) ?_)
    rw [decide_eq_true e, Bool.true_and]
    by_cases e' : okW l = true
    · refine evp e' (evb (total l 20 (by omega) (fun x hx => ?_) (by omega)) (evb (evc (within ..)) (evs ?_)))
      · have := (List.all_eq_true.1 e') x hx; simp at this; omega
      · rw [e', Bool.true_and]
    · exact evn e' (evs (by simp [e']))
  · exact evn (by simp; omega) (evs (by simp [e]))

/-! ### spec_l6Wins -/
theorem l6Wins_l1 {l : List Int} {q : Int} (h : Vot l q) (c : Nat) (hc : c < 2 ^ l.length) (out : List Bool) (ho : out.length = c) (r : List Bool)
    (hr : Ev (fun k => spec_l6Wins.l0 k (out ++ [winB l q c]) ((c + 1 : Nat) : Int) l q) r) : ∀ (d i : Nat) (s : Int), i + d = l.length → 0 ≤ s → s ≤ 20 * i → s + sumN (wterm l c) i d = wsum l c →
    Ev (fun k => spec_l6Wins.l1 k out (c : Int) s (i : Int) l q) r := by
  have h8 := h.1
  have hp := pow8 l.length h8.2
  intro d
  induction d with
  | zero =>
    intro i s hi h0 hs he
    refine Ev.step (fun k => spec_l6Wins.l1.eq_2 ..) (evn (by omega) (evp (by omega) ?_))
    rw [w64s c (by omega)]
    simp only [sumN, Int.add_zero] at he
    subst he
    exact hr
  | succ d ih =>
    intro i s hi h0 hs he
    have ht := h.wterm c i
    refine Ev.step (fun k => spec_l6Wins.l1.eq_2 ..) (evp (by omega) (evp (by omega) ?_))
    rw [digit c i (by omega) (by omega), rd_nat, w64s i (by omega), show l.getD i 0 * ((bit c i : Nat) : Int) = wterm l c i from rfl, w64 (x := wterm l c i) (by omega) (by omega), w64 (x := s + wterm l c i) (by omega) (by omega)]
    refine ih (i + 1) _ (by omega) (by omega) (by omega) ?_
    rw [← he]; simp only [sumN]; omega
theorem l6Wins_l0 {l : List Int} {q : Int} (h : Vot l q) : ∀ (d c : Nat) (out : List Bool), c + d = 2 ^ l.length → out.length = c →
    Ev (fun k => spec_l6Wins.l0 k out (c : Int) l q) (out ++ (List.range' c d).map (winB l q)) := by
  have h8 := h.1
  have hp := pow8 l.length h8.2
  intro d
  induction d with
  | zero =>
    intro c out hc ho
    refine Ev.step (fun k => spec_l6Wins.l0.eq_2 ..) ?_
    rw [shl1 l.length (by omega)]
    exact evn (by omega) (evs (by simp))
  | succ d ih =>
    intro c out hc ho
    refine Ev.step (fun k => spec_l6Wins.l0.eq_2 ..) ?_
    rw [shl1 l.length (by omega)]
    refine evp (by omega) (evr (l6Wins_l1 h c (by omega) out ho _ (ih (c + 1) _ (by omega) (by simp; omega)) l.length 0 0 (by omega) (by omega) (by omega) (by simp [wsum])) ?_)
    simp [List.range'_succ]
theorem l6Wins {l : List Int} {q : Int} (h : Vot l q) : Ev (fun k => spec_l6Wins.f k l q) ((List.range (2 ^ l.length)).map (winB l q)) := by
  unfold spec_l6Wins.f
  refine evr (l6Wins_l0 h (2 ^ l.length) 0 [] (by omega) rfl) ?_
  rw [List.range_eq_range']; rfl

/-! ### impl_Vote_wins -/
theorem wins_l0 {l : List Int} {q : Int} (h : Vot l q) (c : Nat) (hc : c < 2 ^ 62) : ∀ (d i : Nat) (s : Int), i + d = l.length → 0 ≤ s → s ≤ 20 * i → s + sumN (wterm l c) i d = wsum l c →
    Ev (fun k => impl_Vote_wins.l0 k (c : Int) s l (l.length : Int) (i : Int) l q) (winB l q c) := by
  have h8 := h.1
  intro d
  induction d with
  | zero =>
    intro i s hi h0 hs he
    refine Ev.step (fun k => impl_Vote_wins.l0.eq_2 ..) (evn (by omega) (evs ?_))
    simp only [sumN, Int.add_zero] at he
    subst he
    rfl
  | succ d ih =>
    intro i s hi h0 hs he
    have ht := h.wterm c i
    refine Ev.step (fun k => impl_Vote_wins.l0.eq_2 ..) (evp (by omega) (evp (by omega) (evp (by omega) ?_)))
    rw [digit c i (by omega) (by omega), rd_nat, w64s i (by omega), show l.getD i 0 * ((bit c i : Nat) : Int) = wterm l c i from rfl, w64 (x := wterm l c i) (by omega) (by omega), w64 (x := s + wterm l c i) (by omega) (by omega)]
    refine ih (i + 1) _ (by omega) (by omega) (by omega) ?_
    rw [← he]; simp only [sumN]; omega
theorem wins {l : List Int} {q : Int} (h : Vot l q) (c : Nat) (hc : c < 2 ^ 62) : Ev (fun k => impl_Vote_wins.f k l q (c : Int)) (winB l q c) := by
  unfold impl_Vote_wins.f
  exact wins_l0 h c hc l.length 0 0 (by omega) (by omega) (by omega) (by simp [wsum])

/-! ### impl_Vote_all -/
theorem vall {l : List Int} (q : Int) (h : l.length ≤ 8) : impl_Vote_all.f l q = some (((2 ^ l.length : Nat) : Int) - 1) := by
  unfold impl_Vote_all.f
  have hp := pow8 l.length h
  rw [shl1 l.length (by omega), w64 (by omega) (by omega)]

/-! ### spec_l6Voter -/
theorem l6Voter (l : List Int) (q i : Int) (hl : l.length < 4611686018427387904) : Ev (fun k => spec_l6Voter.f k l q i) (voteB l q && decide (0 ≤ i ∧ i ≤ l.length - 1)) := by
  unfold spec_l6Voter.f
  refine evb (l6Vote l q hl) ?_
  rw [w64 (x := (l.length : Int) - 1) (by omega) (by omega)]
  by_cases e : voteB l q = true
  · refine evp e (evb (evc (l1In ..)) (evs ?_)); rw [e, Bool.true_and]
  · exact evn e (evs (by simp [e]))

/-! ### spec_l6Sum -/
theorem l6Sum_l0 {l : List Int} {q : Int} (h : Vot l q) : ∀ (d i : Nat) (s : Int), i + d = l.length → 0 ≤ s → s ≤ 20 * i →
    Ev (fun k => spec_l6Sum.l0 k s (i : Int) l q) (s + isum (l.drop i)) := by
  have h8 := h.1
  intro d
  induction d with
  | zero =>
    intro i s hi h0 hs
    have hd : l.drop i = [] := List.drop_of_length_le (by omega)
    exact Ev.step (fun k => spec_l6Sum.l0.eq_2 ..) (evn (by omega) (evs (by rw [hd]; simp [isum])))
  | succ d ih =>
    intro i s hi h0 hs
    have hd := List.drop_eq_getElem_cons (show i < l.length by omega)
    have hi' := h.2.1 l[i] (List.getElem_mem (by omega))
    refine Ev.step (fun k => spec_l6Sum.l0.eq_2 ..) (evp (by omega) (evp (by omega) ?_))
    rw [rd_nat, w64s i (by omega)]
    simp only [List.getD_eq_getElem?_getD, List.getElem?_eq_getElem (show i < l.length by omega), Option.getD_some]
    rw [w64 (x := s + l[i]) (by omega) (by omega)]
    refine evr (ih (i + 1) _ (by omega) (by omega) (by omega)) ?_
    rw [hd]; simp only [isum, Int.add_assoc]
theorem l6Sum {l : List Int} {q : Int} (h : Vot l q) : Ev (fun k => spec_l6Sum.f k l q) (isum l) := by
  unfold spec_l6Sum.f
  exact evr (l6Sum_l0 h l.length 0 0 (by omega) (by omega) (by omega)) (by simp)

/-! ### spec_l6Size -/
theorem l6Size_all : ∀ c : Fin 256, spec_l6Size.f 12 (c.val : Int) = some (pop c.val : Int) := by decide +kernel
theorem l6Size (c : Nat) (h : c < 256) : Ev (fun k => spec_l6Size.f k (c : Int)) (pop c : Int) :=
  Ev.of (fun k => spec_l6Size.mono _ k) (l6Size_all ⟨c, h⟩)

/-! ### spec_l6Factorial -/
theorem l6Fact_all : ∀ n : Fin 9, spec_l6Factorial.f 12 (n.val : Int) = some (fact n.val : Int) := by decide +kernel
theorem l6Fact (n : Nat) (h : n ≤ 8) : Ev (fun k => spec_l6Factorial.f k (n : Int)) (fact n : Int) :=
  Ev.of (fun k => spec_l6Factorial.mono _ k) (l6Fact_all ⟨n, by omega⟩)

/-! ### bits_OnesCount -/
theorem ones_all : ∀ c : Fin 256, bits_OnesCount.f (IntKind.u64.wrap (c.val : Int)) = some (pop c.val : Int) := by decide +kernel
theorem ones (c : Nat) (h : c < 256) : bits_OnesCount.f (IntKind.u64.wrap (c : Int)) = some (pop c : Int) := ones_all ⟨c, h⟩

/-! ### spec_l6Swings -/
theorem xor_one : ∀ c : Fin 256, ∀ i : Fin 8, bit c.val i.val = 1 → Go.bits .xor .i64 (c.val : Int) ((2 ^ i.val : Nat) : Int) = ((c.val - 2 ^ i.val : Nat) : Int) := by decide +kernel
theorem wgt_fact (n p : Nat) (hn : n ≤ 8) (hp : p ≤ 8) : 0 ≤ (fact p : Int) * (fact (n - 1 - p) : Int) ∧ (fact p : Int) * (fact (n - 1 - p) : Int) ≤ 300000000 := by
  have := wgt_bd true n p hn hp
  unfold wgt at this
  simpa using this
theorem l6Swings_l1 (o : Bool) {l : List Int} {q : Int} (h : Vot l q) (c : Nat) (hc : c < 2 ^ l.length) (r : List Int)
    (hr : Ev (fun k => spec_l6Swings.l0 k o (l.length : Int) ((List.range (2 ^ l.length)).map (winB l q)) ((List.range l.length).map fun i => sumN (con o l q i) 0 (c + 1)) ((c + 1 : Nat) : Int)) r) : ∀ (d i : Nat), i + d = l.length →
    Ev (fun k => spec_l6Swings.l1 k o (l.length : Int) ((List.range (2 ^ l.length)).map (winB l q)) ((List.range l.length).map fun j => sumN (con o l q j) 0 (if j < i then c + 1 else c)) (c : Int) (i : Int)) r := by
  have h8 := h.1
  have hp := pow8 l.length h8.2
  intro d
  induction d with
  | zero =>
    intro i hi
    refine Ev.step (fun k => spec_l6Swings.l1.eq_2 ..) (evn (by omega) ?_)
    rw [w64s c (by omega)]
    rw [show ((List.range l.length).map fun j => sumN (con o l q j) 0 (if j < i then c + 1 else c)) = (List.range l.length).map fun i => sumN (con o l q i) 0 (c + 1) from List.map_congr_left fun j hj => by
      have := List.mem_range.1 hj; rw [if_pos (by omega)]]
    exact hr
  | succ d ih =>
    intro i hi
    have hwl : (((List.range (2 ^ l.length)).map (winB l q)).length : Int) = ((2 ^ l.length : Nat) : Int) := by simp
    have no : con o l q i c = 0 → Ev (fun k => spec_l6Swings.l1 k o (l.length : Int) ((List.range (2 ^ l.length)).map (winB l q)) ((List.range l.length).map fun j => sumN (con o l q j) 0 (if j < i then c + 1 else c)) (c : Int) (wrap64 ((i : Int) + 1))) r := by
      intro e
      rw [w64s i (by omega)]
      have := ih (i + 1) (by omega)
      rw [show ((List.range l.length).map fun j => sumN (con o l q j) 0 (if j < i + 1 then c + 1 else c)) = (List.range l.length).map fun j => sumN (con o l q j) 0 (if j < i then c + 1 else c) from List.map_congr_left fun j hj => by
        by_cases e1 : j = i
        · subst e1; rw [if_pos (by omega), if_neg (by omega), sumN_succ, Nat.zero_add, e]; omega
        · by_cases e2 : j < i
          · rw [if_pos (by omega), if_pos e2]
          · rw [if_neg (by omega), if_neg e2]] at this
      exact this
    refine Ev.step (fun k => spec_l6Swings.l1.eq_2 ..) (evp (by omega) (evp (by omega) ?_))
    rw [digit c i (by omega) (by omega)]
    by_cases e1 : bit c i = 1
    · refine evn (by omega) (evp (by omega) (evp (by omega) ?_))
      rw [rdOf_map _ _ _ hc]
      have hge := (pop_all ⟨c, by omega⟩ ⟨i, by omega⟩ e1).1
      have hx := xor_one ⟨c, by omega⟩ ⟨i, by omega⟩ e1
      simp only at hge hx
      by_cases e2 : winB l q c = true
      · refine evp e2 ?_
        have hq : 1 ≤ 2 ^ i := Nat.one_le_two_pow
        rw [shl1 i (by omega), hx]
        refine evp (by omega) (evp (by omega) (Ev.step (fun k => spec_l6Swings.j2.eq_2 ..) ?_))
        rw [rdOf_map _ _ _ (by omega)]
        by_cases e3 : winB l q (c - 2 ^ i) = true
        · exact evp e3 (no (by unfold con; rw [if_pos e1, if_neg (by simp [e3])]))
        · have hcon : con o l q i c = wgt o l.length (pop c - 1) := by unfold con; rw [if_pos e1, if_pos (by simp [e2, e3])]
          have hpb : pop c ≤ 8 := by have := pop_bd ⟨l.length, by omega⟩ ⟨c, by omega⟩ hc; simp only at this; omega
          have hpb' : pop c ≤ l.length := pop_bd ⟨l.length, by omega⟩ ⟨c, by omega⟩ hc
          have hp1 : 1 ≤ pop c := by have := (pop_all ⟨c, by omega⟩ ⟨i, by omega⟩ e1).2; simp only at this; omega
          have hs := sumN_bd (con o l q i) 300000000 c 0 (fun k _ hk => by
            have := wgt_bd o l.length (pop k - 1) h8.2 (by have := pop_bd ⟨l.length, by omega⟩ ⟨k, by omega⟩ (by simp only; omega); simp only at this; omega)
            unfold con; split
            · split
              · exact this
              · omega
            · omega)
          have hsu : 0 ≤ sumN (con o l q i) 0 c ∧ sumN (con o l q i) 0 c ≤ 300000000 * 256 := ⟨hs.1, by have := hs.2; have : (c : Int) ≤ 256 := (by omega); omega⟩
          have hw := wgt_bd o l.length (pop c - 1) h8.2 (by omega)
          have nxt : Ev (fun k => spec_l6Swings.l1 k o (l.length : Int) ((List.range (2 ^ l.length)).map (winB l q)) (((List.range l.length).map fun j => sumN (con o l q j) 0 (if j < i then c + 1 else c)).set ((i : Int)).toNat (wrap64 (sumN (con o l q i) 0 c + wgt o l.length (pop c - 1)))) (c : Int) (wrap64 ((i : Int) + 1))) r := by
            rw [w64 (x := sumN (con o l q i) 0 c + wgt o l.length (pop c - 1)) (by omega) (by omega), Int.toNat_natCast, map_set, w64s i (by omega)]
            have := ih (i + 1) (by omega)
            rw [show ((List.range l.length).map fun j => sumN (con o l q j) 0 (if j < i + 1 then c + 1 else c)) = (List.range l.length).map fun j => if j = i then sumN (con o l q i) 0 c + wgt o l.length (pop c - 1) else sumN (con o l q j) 0 (if j < i then c + 1 else c) from List.map_congr_left fun j hj => by
              by_cases e4 : j = i
              · subst e4; rw [if_pos (by omega), if_pos rfl, sumN_succ, Nat.zero_add, hcon]
              · rw [if_neg e4]
                by_cases e5 : j < i
                · rw [if_pos (by omega), if_pos e5]
                · rw [if_neg (by omega), if_neg e5]] at this
            exact this
          have hrd : rd ((List.range l.length).map fun j => sumN (con o l q j) 0 (if j < i then c + 1 else c)) (i : Int) = sumN (con o l q i) 0 c := by
            rw [rd_nat, map_at _ _ _ (by omega), if_neg (by omega)]
          refine evn e3 (evb (l6Size c (by omega)) ?_)
          cases o with
          | true =>
            refine evp rfl (evp (by omega) (evp (by simp; omega) ?_))
            rw [w64 (x := (pop c : Int) - 1) (by omega) (by omega), w64 (x := (l.length : Int) - (pop c : Int)) (by omega) (by omega), show (pop c : Int) - 1 = ((pop c - 1 : Nat) : Int) by omega, show (l.length : Int) - (pop c : Int) = ((l.length - 1 - (pop c - 1) : Nat) : Int) by omega]
            refine evb (l6Fact _ (by omega)) (evb (l6Fact _ (by omega)) ?_)
            have hf := wgt_fact l.length (pop c - 1) h8.2 (by omega)
            rw [hrd, w64 (x := (fact (pop c - 1) : Int) * (fact (l.length - 1 - (pop c - 1)) : Int)) (by omega) (by omega)]
            have hwe : wgt true l.length (pop c - 1) = (fact (pop c - 1) : Int) * (fact (l.length - 1 - (pop c - 1)) : Int) := by unfold wgt; simp
            rw [hwe] at nxt
            exact nxt
          | false =>
            refine evn (by simp) (evp (by omega) (evp (by simp; omega) ?_))
            rw [hrd]
            exact nxt
      · exact evn e2 (Ev.step (fun k => spec_l6Swings.j2.eq_2 ..) (evp rfl (no (by unfold con; rw [if_pos e1, if_neg (by simp [e2])]))))
    · have e0 : bit c i = 0 := by have := bit_lt c i; omega
      exact evp (by omega) (Ev.step (fun k => spec_l6Swings.j2.eq_2 ..) (evp rfl (no (by unfold con; rw [if_neg e1]))))
theorem l6Swings_l0 (o : Bool) {l : List Int} {q : Int} (h : Vot l q) : ∀ (d c : Nat), c + d = 2 ^ l.length →
    Ev (fun k => spec_l6Swings.l0 k o (l.length : Int) ((List.range (2 ^ l.length)).map (winB l q)) ((List.range l.length).map fun i => sumN (con o l q i) 0 c) (c : Int)) ((List.range l.length).map fun i => sumN (con o l q i) 0 (2 ^ l.length)) := by
  intro d
  induction d with
  | zero =>
    intro c hc
    refine Ev.step (fun k => spec_l6Swings.l0.eq_2 ..) (evn (by simp only [List.length_map, List.length_range]; omega) (evs ?_))
    rw [show c = 2 ^ l.length by omega]
  | succ d ih =>
    intro c hc
    refine Ev.step (fun k => spec_l6Swings.l0.eq_2 ..) (evp (by simp; exact_mod_cast (show c < 2 ^ l.length by omega)) ?_)
    have := l6Swings_l1 o h c (by omega) _ (ih (c + 1) (by omega)) l.length 0 (by omega)
    simpa using this
theorem l6Swings (o : Bool) {l : List Int} {q : Int} (h : Vot l q) : Ev (fun k => spec_l6Swings.f k l q o) (swingV o l q) := by
  unfold spec_l6Swings.f swingV
  have h8 := h.1
  refine evb (l6Wins h) (evp (by omega) (evp (by omega) ?_))
  have := l6Swings_l0 o h (2 ^ l.length) 0 (by omega)
  rw [show ((List.range l.length).map fun i => sumN (con o l q i) 0 0) = List.replicate ((l.length : Int)).toNat 0 by
    rw [Int.toNat_natCast]; simp only [sumN]; exact List.eq_replicate_iff.2 ⟨by simp, fun b hb => by obtain ⟨_, _, rfl⟩ := List.mem_map.1 hb; rfl⟩] at this
  refine evr this (List.map_congr_left fun i hi => con_sum o h i (List.mem_range.1 hi))

/-! ### impl_Vote_swings -/
theorem swings_l0 {l : List Int} {q : Int} (h : Vot l q) (i : Nat) (hi : i < l.length) : ∀ (d c : Nat), c + d = 2 ^ l.length →
    Ev (fun k => impl_Vote_swings.l0 k (i : Int) ((List.range l.length).map fun p => cnt l q i p c) ((2 ^ l.length : Nat) : Int) (c : Int) l q) ((List.range l.length).map fun p => cnt l q i p (2 ^ l.length)) := by
  have h8 := h.1
  have hp := pow8 l.length h8.2
  intro d
  induction d with
  | zero =>
    intro c hc
    exact Ev.step (fun k => impl_Vote_swings.l0.eq_2 ..) (evn (by omega) (evs (by rw [show c = 2 ^ l.length by omega])))
  | succ d ih =>
    intro c hc
    have no : sw l q i c = false → Ev (fun k => impl_Vote_swings.l0 k (i : Int) ((List.range l.length).map fun p => cnt l q i p c) ((2 ^ l.length : Nat) : Int) (wrap64 ((c : Int) + 1)) l q) ((List.range l.length).map fun p => cnt l q i p (2 ^ l.length)) := by
      intro e
      rw [w64s c (by omega)]
      have := ih (c + 1) (by omega)
      rw [show ((List.range l.length).map fun p => cnt l q i p (c + 1)) = (List.range l.length).map fun p => cnt l q i p c from List.map_congr_left fun p _ => by
        unfold cnt; rw [sumN_succ, Nat.zero_add, if_neg (by simp [e])]; omega] at this
      exact this
    refine Ev.step (fun k => impl_Vote_swings.l0.eq_2 ..) (evp (by omega) (evp (by omega) ?_))
    rw [digit c i (by omega) (by omega)]
    by_cases e0 : bit c i = 0
    · refine evp (by omega) (evb (wins h c (by omega)) ?_)
      by_cases e1 : winB l q c = true
      · exact evp e1 (no (by unfold sw; rw [e1]; simp))
      · refine evn e1 ?_
        have hlt := bit_add_lt (show c < 2 ^ l.length by omega) hi e0
        have hq := Nat.two_pow_pos i
        rw [shl1 i (by omega), or_nat c (2 ^ i) (by omega) (by omega), bit_or c i e0]
        refine evb (wins h (c + 2 ^ i) (by omega)) ?_
        by_cases e2 : winB l q (c + 2 ^ i) = true
        · have hsw : sw l q i c = true := by unfold sw; rw [decide_eq_true e0, e2, Bool.eq_false_iff.2 e1]; rfl
          have hpm : pop c < l.length := by
            have h1 := pop_bd ⟨l.length, by omega⟩ ⟨c + 2 ^ i, by omega⟩ hlt
            have hb1 : bit (c + 2 ^ i) i = 1 := by
              unfold bit at e0 ⊢
              rw [show c + 2 ^ i = c + 2 ^ i * 1 by omega, Nat.add_mul_div_left _ _ hq]; omega
            have h2 := pop_all ⟨c + 2 ^ i, by omega⟩ ⟨i, by omega⟩ hb1
            simp only [Nat.add_sub_cancel] at h1 h2
            omega
          refine evp e2 ?_
          rw [ones c (by omega)]; simp only [Option.bind_some]
          have hcb := sumN_bd (fun c => if sw l q i c = true ∧ pop c = pop c then 1 else 0) 1 c 0 (fun k _ _ => by split <;> omega)
          have hcn : 0 ≤ cnt l q i (pop c) c ∧ cnt l q i (pop c) c ≤ 256 := by
            have := sumN_bd (fun x => if sw l q i x = true ∧ pop x = pop c then 1 else 0) 1 c 0 (fun k _ _ => by split <;> omega)
            unfold cnt; omega
          refine evp (by omega) (evp (by simp; omega) ?_)
          rw [rd_nat, map_at _ _ _ hpm, w64 (x := cnt l q i (pop c) c + 1) (by omega) (by omega), Int.toNat_natCast, map_set, w64s c (by omega)]
          have := ih (c + 1) (by omega)
          rw [show ((List.range l.length).map fun p => cnt l q i p (c + 1)) = (List.range l.length).map fun p => if p = pop c then cnt l q i (pop c) c + 1 else cnt l q i p c from List.map_congr_left fun p _ => by
            unfold cnt
            rw [sumN_succ, Nat.zero_add]
            by_cases e3 : p = pop c
            · rw [if_pos e3, if_pos ⟨hsw, e3.symm⟩, e3]
            · rw [if_neg e3, if_neg (fun h => e3 h.2.symm)]; omega] at this
          exact this
        · exact evn e2 (no (by unfold sw; rw [Bool.eq_false_iff.2 e2]; simp))
    · exact evn (by omega) (no (by unfold sw; rw [decide_eq_false e0]; rfl))
theorem swings {l : List Int} {q : Int} (h : Vot l q) (i : Nat) (hi : i < l.length) : Ev (fun k => impl_Vote_swings.f k l q (i : Int)) ((List.range l.length).map fun p => cnt l q i p (2 ^ l.length)) := by
  unfold impl_Vote_swings.f
  have h8 := h.1
  have hp := pow8 l.length h8.2
  refine evp (by omega) (evp (by omega) (evb (evc (vall q h8.2)) ?_))
  rw [w64 (x := ((2 ^ l.length : Nat) : Int) - 1 + 1) (by omega) (by omega), show ((2 ^ l.length : Nat) : Int) - 1 + 1 = ((2 ^ l.length : Nat) : Int) by omega]
  have := swings_l0 h i hi (2 ^ l.length) 0 (by omega)
  rw [show ((List.range l.length).map fun p => cnt l q i p 0) = List.replicate ((l.length : Int)).toNat 0 by
    rw [Int.toNat_natCast]; simp only [cnt, sumN]; exact List.eq_replicate_iff.2 ⟨by simp, fun b hb => by obtain ⟨_, _, rfl⟩ := List.mem_map.1 hb; rfl⟩] at this
  exact this
theorem cnt_bd {l : List Int} {q : Int} (h : Vot l q) (i p : Nat) : 0 ≤ cnt l q i p (2 ^ l.length) ∧ cnt l q i p (2 ^ l.length) ≤ 256 := by
  have hp := pow8 l.length h.1.2
  have := sumN_bd (fun x => if sw l q i x = true ∧ pop x = p then 1 else 0) 1 (2 ^ l.length) 0 (fun k _ _ => by split <;> omega)
  unfold cnt; omega
theorem swing_total {l : List Int} {q : Int} (h : Vot l q) (i : Nat) (hi : i < l.length) : isum ((List.range l.length).map fun p => cnt l q i p (2 ^ l.length)) = swingSum false l q i := by
  have := cnt_sum false h i hi (2 ^ l.length) (Nat.le_refl _)
  rw [List.range_eq_range', isum_map]
  unfold swingSum
  rw [← this]
  exact sumN_congr' _ _ _ _ fun k _ _ => by simp [wgt]

/-! ### spec_QuotaSwings -/
theorem sQuota_l0 {l : List Int} {q : Int} (h : Vot l q) (i : Nat) (hi : i < l.length) : ∀ (d j : Nat) (out : List Int), j + d = (isum l).toNat → out.length = j →
    Ev (fun k => spec_QuotaSwings.l0 k (i : Int) out ((j : Int) + 1) l q) (out ++ (List.range' j d).map (fun k : Nat => swingSum false l ((k : Int) + 1) i), true) := by
  have h8 := h.1; have hsum := h.sum
  intro d
  induction d with
  | zero =>
    intro j out hj ho
    exact Ev.step (fun k => spec_QuotaSwings.l0.eq_2 ..) (evb (l6Sum h) (evn (by omega) (evs (by simp))))
  | succ d ih =>
    intro j out hj ho
    have h' : Vot l ((j : Int) + 1) := ⟨h.1, h.2.1, by omega, by omega⟩
    refine Ev.step (fun k => spec_QuotaSwings.l0.eq_2 ..) (evb (l6Sum h) (evp (by omega) (evb (l6Swings false h') (evp (by omega) (evp (by simp [swingV]; omega) (evp (by omega) ?_))))))
    rw [rd_nat, show (swingV false l ((j : Int) + 1)).getD i 0 = swingSum false l ((j : Int) + 1) i from map_at _ _ _ hi, w64 (x := (j : Int) + 1 + 1) (by omega) (by omega)]
    have := ih (j + 1) (out ++ [swingSum false l ((j : Int) + 1) i]) (by omega) (by simp; omega)
    rw [show ((j + 1 : Nat) : Int) + 1 = (j : Int) + 1 + 1 by omega] at this
    refine evr this ?_
    simp [List.range'_succ]
theorem sQuota (l : List Int) (q i : Int) (hl : l.length < 4611686018427387904) : Ev (fun k => spec_QuotaSwings.f k l q i) (quotaV l q i) := by
  unfold spec_QuotaSwings.f quotaV
  refine evb (evc rfl) (evb (l6Voter l q i hl) ?_)
  by_cases e : voteB l q = true ∧ (0 ≤ i ∧ i ≤ (l.length : Int) - 1)
  · obtain ⟨j, rfl⟩ := Int.eq_ofNat_of_zero_le e.2.1
    have h := (voteB_iff l q).1 e.1
    refine evp (by rw [e.1, decide_eq_true e.2]; rfl) ?_
    have := sQuota_l0 h j (by omega) (isum l).toNat 0 [] (by omega) rfl
    rw [if_pos e, List.range_eq_range', Int.toNat_natCast]
    simpa using this
  · refine evn (by simpa using e) (evs (by rw [if_neg e]))

/-! ### impl_QuotaSwings -/
theorem iQuota_l0 {l : List Int} {q : Int} (h : Vot l q) (i : Nat) (hi : i < l.length) : ∀ (d j : Nat) (out : List Int), j + d = (isum l).toNat → out.length = j →
    Ev (fun k => impl_QuotaSwings.l0 k (i : Int) out ((j : Int) + 1) l q) (out ++ (List.range' j d).map (fun k : Nat => swingSum false l ((k : Int) + 1) i), true) := by
  have h8 := h.1; have hsum := h.sum
  have htot := total l 20 (by omega) (fun x hx => by have := h.2.1 x hx; omega) (by omega)
  intro d
  induction d with
  | zero =>
    intro j out hj ho
    exact Ev.step (fun k => impl_QuotaSwings.l0.eq_2 ..) (evb htot (evn (by omega) (evs (by simp))))
  | succ d ih =>
    intro j out hj ho
    have h' : Vot l ((j : Int) + 1) := ⟨h.1, h.2.1, by omega, by omega⟩
    refine Ev.step (fun k => impl_QuotaSwings.l0.eq_2 ..) (evb htot (evp (by omega) (evb (swings h' i hi) (evb (total _ 256 (by omega) (fun x hx => ?_) (by simp; omega)) (evp (by omega) ?_)))))
    · obtain ⟨p, _, rfl⟩ := List.mem_map.1 hx
      have := cnt_bd h' i p; omega
    · rw [swing_total h' i hi, w64 (x := (j : Int) + 1 + 1) (by omega) (by omega)]
      have := ih (j + 1) (out ++ [swingSum false l ((j : Int) + 1) i]) (by omega) (by simp; omega)
      rw [show ((j + 1 : Nat) : Int) + 1 = (j : Int) + 1 + 1 by omega] at this
      refine evr this ?_
      simp [List.range'_succ]
theorem iQuota (l : List Int) (q i : Int) (hl : l.length < 4611686018427387904) : Ev (fun k => impl_QuotaSwings.f k l q i) (quotaV l q i) := by
  unfold impl_QuotaSwings.f quotaV
  refine evb (iIsVote l q hl) ?_
  by_cases e1 : voteB l q = true
  · have h := (voteB_iff l q).1 e1
    have h8 := h.1
    refine evp e1 ?_
    rw [w64 (x := (l.length : Int) - 1) (by omega) (by omega), within]
    simp only [Option.bind_some]
    refine Ev.step (fun k => impl_QuotaSwings.j0.eq_2 ..) ?_
    by_cases e2 : 0 ≤ i ∧ i ≤ (l.length : Int) - 1
    · obtain ⟨j, rfl⟩ := Int.eq_ofNat_of_zero_le e2.1
      refine evn (by rw [decide_eq_true e2]; simp) ?_
      have := iQuota_l0 h j (by omega) (isum l).toNat 0 [] (by omega) rfl
      rw [if_pos ⟨e1, e2⟩, List.range_eq_range', Int.toNat_natCast]
      simpa using this
    · exact evp (by rw [decide_eq_false e2]; rfl) (evs (by rw [if_neg (fun h => e2 h.2)]))
  · exact evn e1 (Ev.step (fun k => impl_QuotaSwings.j0.eq_2 ..) (evp rfl (evs (by rw [if_neg (fun h => e1 h.1)]))))

/-! ### laws_FnExactQuotaSwings -/
theorem law (l : List Int) (q i : Int) (hl : l.length ≤ maxLen) : Ev (fun k => laws_FnExactQuotaSwings.f k l q i) true := by
  unfold laws_FnExactQuotaSwings.f
  rw [szVote l q 1048576 (by omega) (by omega) hl]; simp only [Option.bind_some]
  by_cases h : (l.length : Int) ≤ 1048576
  · rw [if_pos h]
    have hs := sQuota l q i (by omega)
    have hi := iQuota l q i (by omega)
    have hb : (quotaV l q i).1.length ≤ 160 := by
      unfold quotaV; split
      · rename_i e; have := ((voteB_iff l q).1 e.1).sum; simp; omega
      · simp
    generalize quotaV l q i = R at *
    repeat (first
    | exact evs rfl
    | dsimp only
    | (with_reducible refine evb hs ?_)
    | (with_reducible refine evb hi ?_)
    | ((with_reducible refine evb (toIntS _ ?_) ?_); (focus (first | omega | assumption)))
    | ((with_reducible refine evb (eqIntS _ _ ?_) ?_); (focus (first | omega | assumption)))
    | ((with_reducible refine evb (markIntS _ _ ?_ ?_) ?_); (focus (first | omega | assumption)); (focus (first | omega | assumption)))
    | ((with_reducible refine evb (heldIntS _ _ ?_ ?_) ?_); (focus (first | omega | assumption)); (focus (first | omega | assumption)))
    | ((with_reducible refine evb (toVote _ _ ?_) ?_); (focus (first | omega | assumption)))
    | ((with_reducible refine evb (eqVote _ _ _ _ ?_) ?_); (focus (first | omega | assumption)))
    | ((with_reducible refine evb (markVote _ _ _ ?_ ?_) ?_); (focus (first | omega | assumption)); (focus (first | omega | assumption)))
    | (refine evp ?_ ?_; focus (first | omega | (simp; done)))
    | (refine evn ?_ ?_; focus (first | omega | (simp; done)))
    | (with_reducible refine Ev.step (fun k => laws_FnExactQuotaSwings.j0.eq_2 ..) ?_)
    | (with_reducible refine Ev.step (fun k => laws_FnExactQuotaSwings.j1.eq_2 ..) ?_)
    | (with_reducible refine Ev.step (fun k => laws_FnExactQuotaSwings.j2.eq_2 ..) ?_)
    )
  · rw [if_neg h]; exact evp (by omega) (evs rfl)

end Go.Proofs.Ytklhdaekadpldaa.LFnExactQuotaSwings
