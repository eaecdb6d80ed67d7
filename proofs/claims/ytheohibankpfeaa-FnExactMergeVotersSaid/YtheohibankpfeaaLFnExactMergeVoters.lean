/- Own lemmas: what the printed functions of one law come to. -/
import Derived.Test.YtheohibankpfeaaMFnExactMergeVotersx5
import Derived.Test.YtheohibankpfeaaBase
namespace Go.Proofs.Ytheohibankpfeaa.LFnExactMergeVoters
open Go Go.RowKit Go.Proofs.Ytheohibankpfeaa.Base Go.Proofs.Ytheohibankpfeaa.PFnExactMergeVoters Go.Proofs.YtheohibankpfeaaW.PrintWords Go.Proofs.YtheohibankpfeaaW.PrintLast Go.Proofs.YtheohibankpfeaaW.PrintMore
set_option linter.unusedVariables false
set_option linter.unusedSimpArgs false
set_option maxRecDepth 4000

/-! ### laws_toIntS -/
theorem toIntS_l0 (x0 : List Int) (hx : x0.length < 4611686018427387904) : ∀ (d i : Nat) (x3 : List Int), i + d = x0.length → x3.length = x0.length →
    Ev (fun k => laws_toIntS.l0 k x0 x3 (i : Int)) (x3.take i ++ x0.drop i) := by
  intro d
  induction d with
  | zero =>
    intro i x3 hi hl
    refine Ev.step (fun k => laws_toIntS.l0.eq_2 ..) (evn (by omega) (evs ?_))
    simp [List.take_of_length_le (show x3.length ≤ i by omega), List.drop_of_length_le (show x0.length ≤ i by omega)]
  | succ d ih =>
    intro i x3 hi hl
    refine Ev.step (fun k => laws_toIntS.l0.eq_2 ..) (evp (by omega) (evp (by omega) (evp (by omega) ?_)))
    rw [w64s i (by omega), rd_nat]
    refine evr (ih (i + 1) _ (by omega) (by simpa using hl)) ?_
    rw [Int.toNat_natCast, set_take _ _ _ (by omega), List.drop_eq_getElem_cons (show i < x0.length by omega), List.append_assoc]
    simp [List.getD_eq_getElem?_getD, List.getElem?_eq_getElem (show i < x0.length by omega)]
theorem toIntS (l : List Int) (h : l.length ≤ 35184372088832) : Ev (fun k => laws_toIntS.f k l) l := by
  unfold laws_toIntS.f
  refine evp (by omega) (evp (by simpa using h) ?_)
  refine evr (toIntS_l0 l (by omega) l.length 0 _ (by omega) (by simp)) (by simp)

/-! ### laws_eqIntS -/
theorem eqIntS_l0 (a b : List Int) (hl : a.length = b.length) (hx : a.length < 4611686018427387904) : ∀ (d i : Nat), i + d = a.length →
    Ev (fun k => laws_eqIntS.l0 k a b (i : Int)) (decide (a.drop i = b.drop i)) := by
  intro d
  induction d with
  | zero =>
    intro i hi
    refine Ev.step (fun k => laws_eqIntS.l0.eq_2 ..) (evn (by omega) (evs ?_))
    simp [List.drop_of_length_le (show a.length ≤ i by omega), List.drop_of_length_le (show b.length ≤ i by omega)]
  | succ d ih =>
    intro i hi
    refine Ev.step (fun k => laws_eqIntS.l0.eq_2 ..) (evp (by omega) (evp (by omega) (evp (by omega) ?_)))
    rw [w64s i (by omega), rd_nat, rd_nat]
    have ea := List.drop_eq_getElem_cons (show i < a.length by omega)
    have eb := List.drop_eq_getElem_cons (show i < b.length by omega)
    simp only [List.getD_eq_getElem?_getD, List.getElem?_eq_getElem (show i < a.length by omega), List.getElem?_eq_getElem (show i < b.length by omega), Option.getD_some]
    by_cases e : a[i] = b[i]
    · refine evp e (evr (ih (i + 1) (by omega)) ?_)
      rw [ea, eb, e]; simp only [List.cons.injEq, true_and]
    · refine evn e (evs ?_)
      rw [ea, eb]; simp only [List.cons.injEq, e, false_and, decide_false]
theorem eqIntS (a b : List Int) (hx : a.length < 4611686018427387904) : Ev (fun k => laws_eqIntS.f k a b) (decide (a = b)) := by
  unfold laws_eqIntS.f
  by_cases h : a.length = b.length
  · refine evp (by omega) (evr (eqIntS_l0 a b h hx a.length 0 (by omega)) (by simp))
  · refine evn (by omega) (evs ?_)
    have : a ≠ b := fun e => h (by rw [e])
    simp [this]

/-! ### laws_markIntS -/
theorem markIntS_l0 (d : Nat) : ∀ (x0 : List Int) (m : Int) (i : Nat), i + d = x0.length → x0.length < 4611686018427387904 → 0 ≤ m → m + d < 4611686018427387904 →
    Ev (fun k => laws_markIntS.l0 k x0 m (i : Int)) (m + d, x0.take i ++ (List.range d).map fun j : Nat => m + (j : Int)) := by
  induction d with
  | zero =>
    intro x0 m i hi hx h0 hm
    refine Ev.step (fun k => laws_markIntS.l0.eq_2 ..) (evn (by omega) (evs ?_))
    simp [List.take_of_length_le (show x0.length ≤ i by omega)]
  | succ d ih =>
    intro x0 m i hi hx h0 hm
    refine Ev.step (fun k => laws_markIntS.l0.eq_2 ..) (evp (by omega) (evp (by omega) ?_))
    rw [w64s i (by omega), w64 (x := m + 1) (by omega) (by omega)]
    refine evr (ih _ _ (i + 1) (by simp; omega) (by simpa using hx) (by omega) (by omega)) ?_
    rw [Int.toNat_natCast, set_take _ _ _ (by omega), List.append_assoc, List.range_succ_eq_map]
    simp only [List.map_cons, List.map_map, Prod.mk.injEq]
    refine ⟨by push_cast; omega, ?_⟩
    congr 1
    simp only [List.cons_append, List.nil_append, List.cons.injEq]
    refine ⟨by simp, List.map_congr_left fun j _ => by simp; omega⟩
theorem markIntS (l : List Int) (m : Int) (h0 : 0 ≤ m) (h : m + l.length < 4611686018427387904) : Ev (fun k => laws_markIntS.f k l m) (m + l.length, marks l m) := by
  unfold laws_markIntS.f
  exact evr (markIntS_l0 l.length l m 0 (by omega) (by omega) h0 h) (by simp [marks])

/-! ### laws_heldIntS -/
theorem heldIntS_l0 (l : List Int) (m : Int) (h0 : 0 ≤ m) (hm : m + l.length < 4611686018427387904) (hv : ∀ i, i < l.length → l.getD i 0 = m + i) : ∀ (d i : Nat), i + d = l.length →
    Ev (fun k => laws_heldIntS.l0 k l (m + (i : Int)) (i : Int)) (m + l.length) := by
  intro d
  induction d with
  | zero =>
    intro i hi
    refine Ev.step (fun k => laws_heldIntS.l0.eq_2 ..) (evn (by omega) (evs ?_))
    omega
  | succ d ih =>
    intro i hi
    refine Ev.step (fun k => laws_heldIntS.l0.eq_2 ..) (evp (by omega) (evp (by omega) ?_))
    rw [w64s i (by omega), w64 (x := m + i + 1) (by omega) (by omega), rd_nat]
    refine evp (hv i (by omega)) ?_
    have := ih (i + 1) (by omega)
    rw [show m + ((i + 1 : Nat) : Int) = m + i + 1 by omega] at this
    exact this
theorem heldIntS (l : List Int) (m : Int) (h0 : 0 ≤ m) (hm : m + l.length < 4611686018427387904) : Ev (fun k => laws_heldIntS.f k (marks l m) m) (m + l.length) := by
  unfold laws_heldIntS.f
  have h := heldIntS_l0 (marks l m) m h0 (by rw [marks_length]; exact hm) (fun i hi => marks_at l m i (by rwa [marks_length] at hi)) l.length 0 (by rw [marks_length]; omega)
  rw [marks_length] at h
  simpa using h

/-! ### spec_l1In -/
theorem l1In (a b c : Int) : spec_l1In.f a b c = some (decide (b ≤ a ∧ a ≤ c)) := by
  unfold spec_l1In.f; split <;> simp_all <;> omega

/-! ### impl_within -/
theorem within (a b c : Int) : impl_within.f a b c = some (decide (b ≤ a ∧ a ≤ c)) := by
  unfold impl_within.f; split <;> simp_all <;> omega

/-! ### impl_allWithin -/
theorem allWithin_l0 (lo up : Int) (l : List Int) (hx : l.length < 4611686018427387904) : ∀ (d i : Nat), i + d = l.length →
    Ev (fun k => impl_allWithin.l0 k lo up l (l.length : Int) (i : Int)) ((l.drop i).all fun x => decide (lo ≤ x ∧ x ≤ up)) := by
  intro d
  induction d with
  | zero =>
    intro i hi
    refine Ev.step (fun k => impl_allWithin.l0.eq_2 ..) (evn (by omega) (evs ?_))
    simp [List.drop_of_length_le (show l.length ≤ i by omega)]
  | succ d ih =>
    intro i hi
    refine Ev.step (fun k => impl_allWithin.l0.eq_2 ..) (evp (by omega) (evp (by omega) (evp (by omega) ?_)))
    rw [w64s i (by omega), rd_nat, within, List.drop_eq_getElem_cons (show i < l.length by omega)]
    simp only [List.getD_eq_getElem?_getD, List.getElem?_eq_getElem (show i < l.length by omega), Option.getD_some, Option.bind_some, List.all_cons]
    by_cases e : lo ≤ l[i] ∧ l[i] ≤ up
    · refine evp (by simpa using e) (evr (ih (i + 1) (by omega)) (by simp [e]))
    · refine evn (by simpa using e) (evs (by simp [e]))
theorem allWithin (l : List Int) (lo up : Int) (hx : l.length < 4611686018427387904) : Ev (fun k => impl_allWithin.f k l lo up) (l.all fun x => decide (lo ≤ x ∧ x ≤ up)) := by
  unfold impl_allWithin.f
  exact allWithin_l0 lo up l hx l.length 0 (by omega)

/-! ### laws_szIntS -/
theorem szIntS (l : List Int) (m : Int) (h0 : 0 ≤ m) (hm : m ≤ 1048576) (hl : l.length ≤ maxLen) : laws_szIntS.f l m = some (if (l.length : Int) ≤ m then m - l.length else -1) := by
  unfold maxLen at hl
  unfold laws_szIntS.f
  rw [w64 (x := m - (l.length : Int)) (by omega) (by omega)]
  by_cases h : (l.length : Int) ≤ m
  · rw [if_neg (by omega), if_pos h]
  · rw [if_pos (by omega), if_neg h]

/-! ### laws_szVote laws_szIntS -/
theorem szVote (l : List Int) (q m : Int) (h0 : 0 ≤ m) (hm : m ≤ 1048576) (hl : l.length ≤ maxLen) : laws_szVote.f l q m = some (if (l.length : Int) ≤ m then m - l.length else -1) := by
  unfold laws_szVote.f
  rw [szIntS l m h0 hm hl]
  simp only [Option.bind_some]
  by_cases h : (l.length : Int) ≤ m
  · rw [if_pos h, if_neg (by omega)]
  · rw [if_neg h, if_pos (by omega)]

/-! ### laws_toVote laws_toIntS -/
theorem toVote (l : List Int) (q : Int) (h : l.length ≤ 35184372088832) : Ev (fun k => laws_toVote.f k l q) (l, q) := by
  unfold laws_toVote.f
  exact evb (toIntS l h) (evs rfl)

/-! ### laws_eqVote laws_eqIntS -/
theorem eqVote (l : List Int) (q : Int) (l' : List Int) (q' : Int) (h : l.length < 4611686018427387904) : Ev (fun k => laws_eqVote.f k l q l' q') (decide (l = l') && decide (q = q')) := by
  unfold laws_eqVote.f
  refine evb (eqIntS l l' h) ?_
  by_cases e : l = l'
  · refine evp (by simpa using e) ?_
    by_cases e' : q = q'
    · exact evp e' (evs (by simp [e, e']))
    · exact evn e' (evs (by simp [e, e']))
  · exact evn (by simpa using e) (evs (by simp [e]))

/-! ### laws_markVote laws_markIntS -/
theorem markVote (l : List Int) (q m : Int) (h0 : 0 ≤ m) (h : m + l.length < 4611686018427387904) : Ev (fun k => laws_markVote.f k l q m) (m + l.length, marks l m) := by
  unfold laws_markVote.f
  exact evb (markIntS l m h0 h) (evs rfl)

/-! ### laws_heldVote laws_heldIntS -/
theorem heldVote (l : List Int) (q m : Int) (h0 : 0 ≤ m) (h : m + l.length < 4611686018427387904) : Ev (fun k => laws_heldVote.f k (marks l m) q m) (m + l.length) := by
  unfold laws_heldVote.f
  exact evb (heldIntS l m h0 h) (evn (by omega) (evs rfl))

/-! ### spec_l6Vote -/
theorem l6Vote_l0 (l : List Int) (q : Int) (hl : l.length < 4611686018427387904) : ∀ (d i : Nat) (s : Int), i + d = l.length → i ≤ 9 → 0 ≤ s → s ≤ 20 * i →
    Ev (fun k => spec_l6Vote.l0 k s (i : Int) l q) (decide (1 ≤ l.length ∧ l.length ≤ 8) && (okW (l.drop i) && decide (1 ≤ q ∧ q ≤ s + isum (l.drop i)))) := by
  intro d
  induction d with
  | zero =>
    intro i s hi h9 hs0 hs
    have hd : l.drop i = [] := List.drop_of_length_le (by omega)
    refine Ev.step (fun k => spec_l6Vote.l0.eq_2 ..) (evn (by omega) (Ev.step (fun k => spec_l6Vote.j1.eq_2 ..) (evn (by simp) ?_)))
    rw [l1In, l1In]; simp only [Option.bind_some]
    by_cases e : 1 ≤ l.length ∧ l.length ≤ 8
    · refine evp (by simp; omega) (evs ?_)
      rw [hd, decide_eq_true e]; simp [okW, isum]
    · refine evn (by simp; omega) (evs ?_)
      rw [decide_eq_false e]; simp
  | succ d ih =>
    intro i s hi h9 hs0 hs
    have hd := List.drop_eq_getElem_cons (show i < l.length by omega)
    refine Ev.step (fun k => spec_l6Vote.l0.eq_2 ..) (evp (by omega) (Ev.step (fun k => spec_l6Vote.j1.eq_2 ..) ?_))
    by_cases e8 : i ≤ 8
    · refine evp (by simp; omega) (evp (by omega) (evp (by omega) ?_))
      rw [l1In, rd_nat, w64s i (by omega)]
      simp only [List.getD_eq_getElem?_getD, List.getElem?_eq_getElem (show i < l.length by omega), Option.getD_some, Option.bind_some]
      by_cases e : 0 ≤ l[i] ∧ l[i] ≤ 20
      · refine evp (by simpa using e) ?_
        rw [w64 (x := s + l[i]) (by omega) (by omega)]
        refine evr (ih (i + 1) _ (by omega) (by omega) (by omega) (by omega)) ?_
        rw [hd, show s + isum (l[i] :: l.drop (i + 1)) = s + l[i] + isum (l.drop (i + 1)) by simp only [isum]; omega]; simp only [okW, List.all_cons, decide_eq_true e, Bool.true_and]
      · refine evn (by simpa using e) (evs ?_)
        rw [hd]; simp only [okW, List.all_cons, decide_eq_false e, Bool.false_and, Bool.and_false]
    · refine evn (by simp; omega) ?_
      rw [l1In, l1In]; simp only [Option.bind_some]
      have e : ¬ (1 ≤ l.length ∧ l.length ≤ 8) := by omega
      refine evn (by simp; omega) (evs ?_)
      rw [decide_eq_false e]; simp
theorem l6Vote (l : List Int) (q : Int) (hl : l.length < 4611686018427387904) : Ev (fun k => spec_l6Vote.f k l q) (voteB l q) := by
  unfold spec_l6Vote.f
  exact evr (l6Vote_l0 l q hl l.length 0 0 (by omega) (by omega) (by omega) (by omega)) (by simp [voteB])

/-! ### impl_total -/
theorem total_l0 (l : List Int) (b : Int) (hb : 0 ≤ b ∧ b ≤ 1000000000000) (hx : ∀ x ∈ l, -b ≤ x ∧ x ≤ b) (hl : l.length ≤ 1048576) : ∀ (d i : Nat) (s : Int), i + d = l.length → -(b * i) ≤ s → s ≤ b * i →
    Ev (fun k => impl_total.l0 k s l (l.length : Int) (i : Int)) (s + isum (l.drop i)) := by
  intro d
  induction d with
  | zero =>
    intro i s hi hs0 hs
    have hd : l.drop i = [] := List.drop_of_length_le (by omega)
    exact Ev.step (fun k => impl_total.l0.eq_2 ..) (evn (by omega) (evs (by rw [hd]; simp [isum])))
  | succ d ih =>
    intro i s hi hs0 hs
    have hd := List.drop_eq_getElem_cons (show i < l.length by omega)
    have hi' := hx l[i] (List.getElem_mem (by omega))
    have hbi : b * (i : Int) ≤ 1000000000000 * 1048576 := Int.mul_le_mul hb.2 (by omega) (by omega) (by omega)
    have hbs : b * ((i + 1 : Nat) : Int) = b * i + b := by rw [show ((i + 1 : Nat) : Int) = (i : Int) + 1 by omega, Int.mul_add]; omega
    refine Ev.step (fun k => impl_total.l0.eq_2 ..) (evp (by omega) (evp (by omega) (evp (by omega) ?_)))
    rw [rd_nat, w64s i (by omega)]
    simp only [List.getD_eq_getElem?_getD, List.getElem?_eq_getElem (show i < l.length by omega), Option.getD_some]
    rw [w64 (x := s + l[i]) (by omega) (by omega)]
    refine evr (ih (i + 1) _ (by omega) (by omega) (by omega)) ?_
    rw [hd]; simp only [isum, Int.add_assoc]
theorem total (l : List Int) (b : Int) (hb : 0 ≤ b ∧ b ≤ 1000000000000) (hx : ∀ x ∈ l, -b ≤ x ∧ x ≤ b) (hl : l.length ≤ 1048576) : Ev (fun k => impl_total.f k l) (isum l) := by
  unfold impl_total.f
  exact evr (total_l0 l b hb hx hl l.length 0 0 (by omega) (by simp) (by simp)) (by simp)

/-! ### impl_IsVote -/
theorem iIsVote (l : List Int) (q : Int) (hl : l.length < 4611686018427387904) : Ev (fun k => impl_IsVote.f k l q) (voteB l q) := by
  unfold impl_IsVote.f voteB
  rw [within]; simp only [Option.bind_some]
  by_cases e : 1 ≤ l.length ∧ l.length ≤ 8
  · refine evp (by simp; omega) (evb (allWithin l 0 20 hl) ?_)
    rw [decide_eq_true e, Bool.true_and]
    by_cases e' : okW l = true
    · refine evp e' (evb (total l 20 (by omega) (fun x hx => ?_) (by omega)) (evb (evc (within ..)) (evs ?_)))
      · have := (List.all_eq_true.1 e') x hx; simp at this; omega
      · rw [e', Bool.true_and]
    · exact evn e' (evs (by simp [e']))
  · exact evn (by simp; omega) (evs (by simp [e]))

/-! ### impl_copied -/
theorem copied (l : List Int) (h : l.length < 17592186044416) : impl_copied.f l = some l := by
  unfold impl_copied.f
  simp only [Option.bind_some]
  rw [if_pos (by simpa using h)]; rfl

/-! ### spec_l6Voter -/
theorem l6Voter (l : List Int) (q i : Int) (hl : l.length < 4611686018427387904) : Ev (fun k => spec_l6Voter.f k l q i) (voteB l q && decide (0 ≤ i ∧ i ≤ l.length - 1)) := by
  unfold spec_l6Voter.f
  refine evb (l6Vote l q hl) ?_
  rw [w64 (x := (l.length : Int) - 1) (by omega) (by omega)]
  by_cases e : voteB l q = true
  · refine evp e (evb (evc (l1In ..)) (evs ?_)); rw [e, Bool.true_and]
  · exact evn e (evs (by simp [e]))

/-! ### spec_l6Kept spec_l6Vote -/
theorem l6Kept (l : List Int) (q : Int) (hl : l.length < 4611686018427387904) : Ev (fun k => spec_l6Kept.f k l q) (if voteB l q = true then (l, q, true) else ([], 0, false)) := by
  unfold spec_l6Kept.f
  refine evb (l6Vote l q hl) ?_
  by_cases e : voteB l q = true
  · exact evp e (evs (by rw [if_pos e]))
  · exact evn e (evs (by rw [if_neg e]))

/-! ### spec_MergeVoters spec_l6Kept spec_l6Voter -/
theorem sMerge_l0 {l : List Int} {q : Int} (h : Vot l q) (i j : Nat) (hi : i < l.length) (hj : j < l.length) (hij : i ≠ j) : ∀ (d m : Nat), m + d = l.length →
    Ev (fun k => spec_MergeVoters.l0 k (i : Int) (j : Int) (m : Int) l q (((mset l i j).take m).eraseIdx j) q) (if voteB (mrg l i j) q = true then (mrg l i j, q, true) else ([], 0, false)) := by
  have h8 := h.1
  intro d
  induction d with
  | zero =>
    intro m hm
    have hml := mset_len l i j
    refine Ev.step (fun k => spec_MergeVoters.l0.eq_2 ..) (evn (by omega) ?_)
    rw [List.take_of_length_le (by omega)]
    have := mrg_len l i j
    exact evb (l6Kept _ q (by unfold mrg at this; omega)) (evs (by unfold mrg; split <;> rfl))
  | succ d ih =>
    intro m hm
    have hs := ih (m + 1) (by omega)
    have hml := mset_len l i j
    rw [erase_step _ j m (by omega), mset_at l i j m hi] at hs
    have hai := h.at_ i
    have haj := h.at_ j
    have hlen : (((mset l i j).take m).eraseIdx j).length < 17592186044416 := by
      have : (((mset l i j).take m).eraseIdx j).length ≤ ((mset l i j).take m).length := by rw [List.length_eraseIdx]; split <;> omega
      have : ((mset l i j).take m).length ≤ 8 := by simp; omega
      omega
    refine Ev.step (fun k => spec_MergeVoters.l0.eq_2 ..) (evp (by omega) (evp (by omega) ?_))
    rw [w64s m (by omega)]
    by_cases e1 : m = i
    · subst e1
      rw [if_neg hij, if_pos rfl] at hs
      refine evp rfl (evp (by omega) (evp (by omega) (evn (by omega) (evp hlen ?_))))
      rw [rd_nat, rd_nat, w64 (x := l.getD m 0 + l.getD j 0) (by omega) (by omega)]
      exact hs
    · refine evn (by omega) ?_
      by_cases e2 : m = j
      · rw [if_pos e2] at hs
        exact evp (by omega) hs
      · rw [if_neg e2, if_neg e1] at hs
        refine evn (by omega) (evp hlen ?_)
        rw [rd_nat]
        exact hs
theorem sMerge (l : List Int) (q i j : Int) (hl : l.length < 4611686018427387904) : Ev (fun k => spec_MergeVoters.f k l q i j) (mergeV l q i j) := by
  have no : ¬ (voteB l q = true ∧ (0 ≤ i ∧ i ≤ l.length - 1) ∧ (0 ≤ j ∧ j ≤ l.length - 1) ∧ i ≠ j) → Ev (fun k => spec_MergeVoters.j0 k i j true l q) (mergeV l q i j) := fun c =>
    Ev.step (fun k => spec_MergeVoters.j0.eq_2 ..) (evp rfl (evs (by unfold mergeV; rw [if_neg (fun h => c ⟨h.1, h.2.1, h.2.2.1, h.2.2.2.1⟩)])))
  unfold spec_MergeVoters.f
  refine evb (l6Voter l q i hl) ?_
  by_cases e1 : voteB l q = true ∧ (0 ≤ i ∧ i ≤ (l.length : Int) - 1)
  · refine evp (by rw [e1.1, decide_eq_true e1.2]; rfl) (evb (l6Voter l q j hl) ?_)
    by_cases e2 : 0 ≤ j ∧ j ≤ (l.length : Int) - 1
    · refine evp (by rw [e1.1, decide_eq_true e2]; rfl) ?_
      by_cases e3 : i = j
      · rw [show (i == j) = true from beq_iff_eq.2 e3]
        exact no (fun h => h.2.2.2 e3)
      · rw [show (i == j) = false from beq_eq_false_iff_ne.2 e3]
        refine Ev.step (fun k => spec_MergeVoters.j0.eq_2 ..) (evn (by decide) ?_)
        obtain ⟨a, rfl⟩ := Int.eq_ofNat_of_zero_le e1.2.1
        obtain ⟨b, rfl⟩ := Int.eq_ofNat_of_zero_le e2.1
        have := sMerge_l0 ((voteB_iff l q).1 e1.1) a b (by omega) (by omega) (by omega) l.length 0 (by omega)
        refine evr this ?_
        unfold mergeV
        simp only [Int.toNat_natCast]
        by_cases e4 : voteB (mrg l a b) q = true
        · rw [if_pos e4, if_pos ⟨e1.1, e1.2, e2, e3, e4⟩]
        · rw [if_neg e4, if_neg (fun h => e4 h.2.2.2.2)]
    · exact evn (by rw [decide_eq_false e2, Bool.and_false]; decide) (no (fun h => e2 h.2.2.1))
  · exact evn (by simpa using e1) (no (fun h => e1 ⟨h.1, h.2.1⟩))

/-! ### impl_MergeVoters slices_Delete_int_int -/
theorem iMerge (l : List Int) (q i j : Int) (hl : l.length < 4611686018427387904) : Ev (fun k => impl_MergeVoters.f k l q i j) (mergeV l q i j) := by
  have no : ¬ (voteB l q = true ∧ (0 ≤ i ∧ i ≤ l.length - 1) ∧ (0 ≤ j ∧ j ≤ l.length - 1) ∧ i ≠ j) → Ev (fun k => impl_MergeVoters.j0 k i j true l q) (mergeV l q i j) := fun c =>
    Ev.step (fun k => impl_MergeVoters.j0.eq_2 ..) (evp rfl (evs (by unfold mergeV; rw [if_neg (fun h => c ⟨h.1, h.2.1, h.2.2.1, h.2.2.2.1⟩)])))
  unfold impl_MergeVoters.f
  refine evb (iIsVote l q hl) ?_
  by_cases e1 : voteB l q = true
  · have h := (voteB_iff l q).1 e1
    have h8 := h.1
    refine evp e1 ?_
    rw [w64 (x := (l.length : Int) - 1) (by omega) (by omega), within]
    simp only [Option.bind_some]
    by_cases e2 : 0 ≤ i ∧ i ≤ (l.length : Int) - 1
    · refine evp (by simpa using e2) ?_
      rw [within]
      simp only [Option.bind_some]
      by_cases e3 : 0 ≤ j ∧ j ≤ (l.length : Int) - 1
      · refine evp (by simpa using e3) ?_
        by_cases e4 : i = j
        · rw [show (i == j) = true from beq_iff_eq.2 e4]
          exact no (fun h => h.2.2.2 e4)
        · rw [show (i == j) = false from beq_eq_false_iff_ne.2 e4]
          refine Ev.step (fun k => impl_MergeVoters.j0.eq_2 ..) (evn (by decide) ?_)
          obtain ⟨a, rfl⟩ := Int.eq_ofNat_of_zero_le e2.1
          obtain ⟨b, rfl⟩ := Int.eq_ofNat_of_zero_le e3.1
          have hai := h.at_ a
          have haj := h.at_ b
          have hml := mset_len l a b
          have hmr := mrg_len l a b
          rw [copied l (by omega)]; simp only [Option.bind_some]
          refine evp (by omega) (evp (by omega) (evp (by omega) (evp (by omega) ?_)))
          rw [rd_nat, rd_nat, w64 (x := l.getD a 0 + l.getD b 0) (by omega) (by omega), w64s b (by omega), Int.toNat_natCast]
          have hd : slices_Delete_int_int.f (l.set a (l.getD a 0 + l.getD b 0)) (b : Int) ((b + 1 : Nat) : Int) = some (mrg l a b) := by
            unfold slices_Delete_int_int.f
            rw [if_pos ⟨by omega, by omega, by simp; omega, by simp; omega⟩]
            unfold mrg mset
            rw [List.eraseIdx_eq_take_drop_succ, Int.toNat_natCast, Int.toNat_natCast]
          rw [hd]; simp only [Option.bind_some]
          refine evb (iIsVote _ q (by omega)) ?_
          unfold mergeV
          simp only [Int.toNat_natCast]
          by_cases e5 : voteB (mrg l a b) q = true
          · exact evp e5 (evs (by rw [if_pos ⟨e1, e2, e3, e4, e5⟩]))
          · exact evn e5 (evs (by rw [if_neg (fun h => e5 h.2.2.2.2)]))
      · exact evn (by simpa using e3) (no (fun h => e3 h.2.2.1))
    · exact evn (by simpa using e2) (no (fun h => e2 h.2.1))
  · exact evn e1 (no (fun h => e1 h.1))

/-! ### laws_FnExactMergeVoters -/
theorem law (l : List Int) (q i j : Int) (hl : l.length ≤ maxLen) : Ev (fun k => laws_FnExactMergeVoters.f k l q i j) true := by
  unfold laws_FnExactMergeVoters.f
  rw [szVote l q 1048576 (by omega) (by omega) hl]; simp only [Option.bind_some]
  by_cases h : (l.length : Int) ≤ 1048576
  · rw [if_pos h]
    have hs := sMerge l q i j (by omega)
    have hi := iMerge l q i j (by omega)
    have hb := mergeV_len l q i j
    generalize mergeV l q i j = R at *
    repeat (first
    | exact evs rfl
    | dsimp only
    | (with_reducible refine evb hs ?_)
    | (with_reducible refine evb hi ?_)
    | ((with_reducible refine evb (toIntS _ ?_) ?_); (focus (first | omega | assumption)))
    | ((with_reducible refine evb (eqIntS _ _ ?_) ?_); (focus (first | omega | assumption)))
    | ((with_reducible refine evb (markIntS _ _ ?_ ?_) ?_); (focus (first | omega | assumption)); (focus (first | omega | assumption)))
    | ((with_reducible refine evb (heldIntS _ _ ?_ ?_) ?_); (focus (first | omega | assumption)); (focus (first | omega | assumption)))
    | ((with_reducible refine evb (toVote _ _ ?_) ?_); (focus (first | omega | assumption)))
    | ((with_reducible refine evb (eqVote _ _ _ _ ?_) ?_); (focus (first | omega | assumption)))
    | ((with_reducible refine evb (markVote _ _ _ ?_ ?_) ?_); (focus (first | omega | assumption)); (focus (first | omega | assumption)))
    | ((with_reducible refine evb (heldVote _ _ _ ?_ ?_) ?_); (focus (first | omega | assumption)); (focus (first | omega | assumption)))
    | (refine evp ?_ ?_; focus (first | omega | (simp; done)))
    | (refine evn ?_ ?_; focus (first | omega | (simp; done)))
    | (with_reducible refine Ev.step (fun k => laws_FnExactMergeVoters.j0.eq_2 ..) ?_)
    | (with_reducible refine Ev.step (fun k => laws_FnExactMergeVoters.j1.eq_2 ..) ?_)
    | (with_reducible refine Ev.step (fun k => laws_FnExactMergeVoters.j2.eq_2 ..) ?_)
    )
  · rw [if_neg h]; exact evp (by omega) (evs rfl)

end Go.Proofs.Ytheohibankpfeaa.LFnExactMergeVoters
