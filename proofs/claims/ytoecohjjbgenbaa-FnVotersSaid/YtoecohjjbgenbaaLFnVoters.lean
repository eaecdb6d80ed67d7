-- Own text.
import Derived.Test.YtoecohjjbgenbaaMFnVotersx12
import Derived.Test.YtoecohjjbgenbaaZFnVotersBase
namespace Go.Proofs.Ytoecohjjbgenbaa.LFnVoters
open Go Go.RowKit Go.Proofs.Ytoecohjjbgenbaa.Base Go.Proofs.Ytoecohjjbgenbaa.PFnVoters Go.Proofs.YtoecohjjbgenbaaW.PrintWords Go.Proofs.YtoecohjjbgenbaaW.PrintLast Go.Proofs.YtoecohjjbgenbaaW.PrintMore
set_option linter.unusedVariables false
set_option linter.unusedSimpArgs false
set_option maxRecDepth 4000
theorem l1In (a b c : Int) : spec_l1In.f a b c = some (decide (b ≤ a ∧ a ≤ c)) := by
 unfold spec_l1In.f; split <;> simp_all <;> omega
theorem within (a b c : Int) : impl_within.f a b c = some (decide (b ≤ a ∧ a ≤ c)) := by
 unfold impl_within.f; split <;> simp_all <;> omega
theorem allWithin_l0 (lo up : Int) (l : List Int) (hx : l.length < 4611686018427387904) : ∀ (d i : Nat), i + d = l.length →
  Ev (fun k => impl_allWithin.l0 k lo up l (l.length : Int) (i : Int)) ((l.drop i).all fun x => decide (lo ≤ x ∧ x ≤ up)) := by
 intro d
 induction d with
 | zero =>
  intro i hi
  refine Ev.step (fun k => impl_allWithin.l0.eq_2 ..) (evn (by omega) (evs ?_))
  simp [List.drop_of_length_le (show l.length ≤ i by omega)]
 | succ d ih =>
  intro i hi
  refine Ev.step (fun k => impl_allWithin.l0.eq_2 ..) (evp (by omega) (evp (by omega) (evp (by omega) ?_)))
  rw [w64s i (by omega), rd_nat, within, List.drop_eq_getElem_cons (show i < l.length by omega)]
  simp only [List.getD_eq_getElem?_getD, List.getElem?_eq_getElem (show i < l.length by omega), Option.getD_some, Option.bind_some, List.all_cons]
  by_cases e : lo ≤ l[i] ∧ l[i] ≤ up
  ·
   refine evp (by simpa using e) (evr (ih (i + 1) (by omega)) (by simp [e]))
  ·
   refine evn (by simpa using e) (evs (by simp [e]))
theorem allWithin (l : List Int) (lo up : Int) (hx : l.length < 4611686018427387904) : Ev (fun k => impl_allWithin.f k l lo up) (l.all fun x => decide (lo ≤ x ∧ x ≤ up)) := by
 unfold impl_allWithin.f
 exact allWithin_l0 lo up l hx l.length 0 (by omega)
theorem l6Vote_l0 (l : List Int) (q : Int) (hl : l.length < 4611686018427387904) : ∀ (d i : Nat) (s : Int), i + d = l.length → i ≤ 9 → 0 ≤ s → s ≤ 20 * i →
  Ev (fun k => spec_l6Vote.l0 k s (i : Int) l q) (decide (1 ≤ l.length ∧ l.length ≤ 8) && (okW (l.drop i) && decide (1 ≤ q ∧ q ≤ s + isum (l.drop i)))) := by
 intro d
 induction d with
 | zero =>
  intro i s hi h9 hs0 hs
  have hd : l.drop i = [] := List.drop_of_length_le (by omega)
  refine Ev.step (fun k => spec_l6Vote.l0.eq_2 ..) (evn (by omega) (Ev.step (fun k => spec_l6Vote.j1.eq_2 ..) (evn (by simp) ?_)))
  rw [l1In, l1In]; simp only [Option.bind_some]
  by_cases e : 1 ≤ l.length ∧ l.length ≤ 8
  ·
   refine evp (by simp; omega) (evs ?_)
   rw [hd, decide_eq_true e]; simp [okW, isum]
  ·
   refine evn (by simp; omega) (evs ?_)
   rw [decide_eq_false e]; simp
 | succ d ih =>
  intro i s hi h9 hs0 hs
  have hd := List.drop_eq_getElem_cons (show i < l.length by omega)
  refine Ev.step (fun k => spec_l6Vote.l0.eq_2 ..) (evp (by omega) (Ev.step (fun k => spec_l6Vote.j1.eq_2 ..) ?_))
  by_cases e8 : i ≤ 8
  ·
   refine evp (by simp; omega) (evp (by omega) (evp (by omega) ?_))
   rw [l1In, rd_nat, w64s i (by omega)]
   simp only [List.getD_eq_getElem?_getD, List.getElem?_eq_getElem (show i < l.length by omega), Option.getD_some, Option.bind_some]
   by_cases e : 0 ≤ l[i] ∧ l[i] ≤ 20
   ·
    refine evp (by simpa using e) ?_
    rw [w64 (x := s + l[i]) (by omega) (by omega)]
    refine evr (ih (i + 1) _ (by omega) (by omega) (by omega) (by omega)) ?_
    rw [hd, show s + isum (l[i] :: l.drop (i + 1)) = s + l[i] + isum (l.drop (i + 1)) by simp only [isum]; omega]; simp only [okW, List.all_cons, decide_eq_true e, Bool.true_and]
   ·
    refine evn (by simpa using e) (evs ?_)
    rw [hd]; simp only [okW, List.all_cons, decide_eq_false e, Bool.false_and, Bool.and_false]
  ·
   refine evn (by simp; omega) ?_
   rw [l1In, l1In]; simp only [Option.bind_some]
   have e : ¬ (1 ≤ l.length ∧ l.length ≤ 8) := by omega
   refine evn (by simp; omega) (evs ?_)
   rw [decide_eq_false e]; simp
theorem l6Vote (l : List Int) (q : Int) (hl : l.length < 4611686018427387904) : Ev (fun k => spec_l6Vote.f k l q) (voteB l q) := by
 unfold spec_l6Vote.f
 exact evr (l6Vote_l0 l q hl l.length 0 0 (by omega) (by omega) (by omega) (by omega)) (by simp [voteB])
theorem total_l0 (l : List Int) (b : Int) (hb : 0 ≤ b ∧ b ≤ 1000000000000) (hx : ∀ x ∈ l, -b ≤ x ∧ x ≤ b) (hl : l.length ≤ 1048576) : ∀ (d i : Nat) (s : Int), i + d = l.length → -(b * i) ≤ s → s ≤ b * i →
  Ev (fun k => impl_total.l0 k s l (l.length : Int) (i : Int)) (s + isum (l.drop i)) := by
 intro d
 induction d with
 | zero =>
  intro i s hi hs0 hs
  have hd : l.drop i = [] := List.drop_of_length_le (by omega)
  exact Ev.step (fun k => impl_total.l0.eq_2 ..) (evn (by omega) (evs (by rw [hd]; simp [isum])))
 | succ d ih =>
  intro i s hi hs0 hs
  have hd := List.drop_eq_getElem_cons (show i < l.length by omega)
  have hi' := hx l[i] (List.getElem_mem (by omega))
  have hbi : b * (i : Int) ≤ 1000000000000 * 1048576 := Int.mul_le_mul hb.2 (by omega) (by omega) (by omega)
  have hbs : b * ((i + 1 : Nat) : Int) = b * i + b := by rw [show ((i + 1 : Nat) : Int) = (i : Int) + 1 by omega, Int.mul_add]; omega
  refine Ev.step (fun k => impl_total.l0.eq_2 ..) (evp (by omega) (evp (by omega) (evp (by omega) ?_)))
  rw [rd_nat, w64s i (by omega)]
  simp only [List.getD_eq_getElem?_getD, List.getElem?_eq_getElem (show i < l.length by omega), Option.getD_some]
  rw [w64 (x := s + l[i]) (by omega) (by omega)]
  refine evr (ih (i + 1) _ (by omega) (by omega) (by omega)) ?_
  rw [hd]; simp only [isum, Int.add_assoc]
theorem total (l : List Int) (b : Int) (hb : 0 ≤ b ∧ b ≤ 1000000000000) (hx : ∀ x ∈ l, -b ≤ x ∧ x ≤ b) (hl : l.length ≤ 1048576) : Ev (fun k => impl_total.f k l) (isum l) := by
 unfold impl_total.f
 exact evr (total_l0 l b hb hx hl l.length 0 0 (by omega) (by simp) (by simp)) (by simp)
theorem iIsVote (l : List Int) (q : Int) (hl : l.length < 4611686018427387904) : Ev (fun k => impl_IsVote.f k l q) (voteB l q) := by
 unfold impl_IsVote.f voteB
 rw [within]; simp only [Option.bind_some]
 by_cases e : 1 ≤ l.length ∧ l.length ≤ 8
 ·
  refine evp (by simp; omega) (evb (allWithin l 0 20 hl) ?_)
  rw [decide_eq_true e, Bool.true_and]
  by_cases e' : okW l = true
  ·
   refine evp e' (evb (total l 20 (by omega) (fun x hx => ?_) (by omega)) (evb (evc (within ..)) (evs ?_)))
   ·
    have := (List.all_eq_true.1 e') x hx; simp at this; omega
   ·
    rw [e', Bool.true_and]
  ·
   exact evn e' (evs (by simp [e']))
 ·
  exact evn (by simp; omega) (evs (by simp [e]))
theorem wins_l0 {l : List Int} {q : Int} (h : Vot l q) (c : Nat) (hc : c < 2 ^ 62) : ∀ (d i : Nat) (s : Int), i + d = l.length → 0 ≤ s → s ≤ 20 * i → s + sumN (wterm l c) i d = wsum l c →
  Ev (fun k => impl_Vote_wins.l0 k (c : Int) s l (l.length : Int) (i : Int) l q) (winB l q c) := by
 have h8 := h.1
 intro d
 induction d with
 | zero =>
  intro i s hi h0 hs he
  refine Ev.step (fun k => impl_Vote_wins.l0.eq_2 ..) (evn (by omega) (evs ?_))
  simp only [sumN, Int.add_zero] at he
  subst he
  rfl
 | succ d ih =>
  intro i s hi h0 hs he
  have ht := h.wterm c i
  refine Ev.step (fun k => impl_Vote_wins.l0.eq_2 ..) (evp (by omega) (evp (by omega) (evp (by omega) ?_)))
  rw [digit c i (by omega) (by omega), rd_nat, w64s i (by omega), show l.getD i 0 * ((bit c i : Nat) : Int) = wterm l c i from rfl, w64 (x := wterm l c i) (by omega) (by omega), w64 (x := s + wterm l c i) (by omega) (by omega)]
  refine ih (i + 1) _ (by omega) (by omega) (by omega) ?_
  rw [← he]; simp only [sumN]; omega
theorem wins {l : List Int} {q : Int} (h : Vot l q) (c : Nat) (hc : c < 2 ^ 62) : Ev (fun k => impl_Vote_wins.f k l q (c : Int)) (winB l q c) := by
 unfold impl_Vote_wins.f
 exact wins_l0 h c hc l.length 0 0 (by omega) (by omega) (by omega) (by simp [wsum])
theorem l1Own (l : List Int) (h : l.length < 17592186044416) : spec_l1Own.f l = some l := by
 unfold spec_l1Own.f
 simp only [Option.bind_some]
 rw [if_pos (by simpa using h)]; rfl
theorem copied (l : List Int) (h : l.length < 17592186044416) : impl_copied.f l = some l := by
 unfold impl_copied.f
 simp only [Option.bind_some]
 rw [if_pos (by simpa using h)]; rfl
theorem l6Voter (l : List Int) (q i : Int) (hl : l.length < 4611686018427387904) : Ev (fun k => spec_l6Voter.f k l q i) (voteB l q && decide (0 ≤ i ∧ i ≤ l.length - 1)) := by
 unfold spec_l6Voter.f
 refine evb (l6Vote l q hl) ?_
 rw [w64 (x := (l.length : Int) - 1) (by omega) (by omega)]
 by_cases e : voteB l q = true
 ·
  refine evp e (evb (evc (l1In ..)) (evs ?_)); rw [e, Bool.true_and]
 ·
  exact evn e (evs (by simp [e]))
theorem sSplit (l : List Int) (q i p : Int) (hl : l.length < 4611686018427387904) : Ev (fun k => spec_SplitVoter.f k l q i p) (splitV l q i p) := by
 unfold spec_SplitVoter.f splitV
 refine evb (l6Voter l q i hl) ?_
 by_cases e : voteB l q = true ∧ (0 ≤ i ∧ i ≤ (l.length : Int) - 1)
 ·
  obtain ⟨e1, e2⟩ := e
  have h := (voteB_iff l q).1 e1
  have h8 := h.1
  obtain ⟨j, rfl⟩ := Int.eq_ofNat_of_zero_le e2.1
  have hj := h.at_ j
  refine evp (by rw [e1, decide_eq_true e2]; rfl) (evp (by omega) (evp (by omega) ?_))
  rw [rd_nat, l1In]; simp only [Option.bind_some, Int.toNat_natCast]
  by_cases e3 : 0 ≤ p ∧ p ≤ l.getD j 0
  ·
   refine evp (by simpa using e3) ?_
   by_cases e4 : l.length = 8
   ·
    exact evp (by omega) (evs (by rw [if_neg (fun h => h.2.2.2 e4)]))
   ·
    rw [l1Own l (by omega), w64 (x := l.getD j 0 - p) (by omega) (by omega)]
    simp only [Option.bind_some]
    refine evn (by omega) (evp (by simp; omega) (evp (by simp; omega) (evs ?_)))
    rw [if_pos ⟨e1, e2, e3, e4⟩]
  ·
   exact evn (by simpa using e3) (evs (by rw [if_neg (fun h => e3 h.2.2.1)]))
 ·
  refine evn (by simpa using e) (evs (by rw [if_neg (fun h => e ⟨h.1, h.2.1⟩)]))
theorem iSplit (l : List Int) (q i p : Int) (hl : l.length < 4611686018427387904) : Ev (fun k => impl_SplitVoter.f k l q i p) (splitV l q i p) := by
 unfold impl_SplitVoter.f splitV
 refine evb (iIsVote l q hl) ?_
 by_cases e1 : voteB l q = true
 ·
  have h := (voteB_iff l q).1 e1
  have h8 := h.1
  refine evp e1 ?_
  rw [w64 (x := (l.length : Int) - 1) (by omega) (by omega), within]
  simp only [Option.bind_some]
  by_cases e2 : 0 ≤ i ∧ i ≤ (l.length : Int) - 1
  ·
   obtain ⟨j, rfl⟩ := Int.eq_ofNat_of_zero_le e2.1
   have hj := h.at_ j
   refine evp (by simpa using e2) ?_
   by_cases e4 : l.length = 8
   ·
    exact evp (by omega) (evs (by rw [if_neg (fun h => h.2.2.2 e4)]))
   ·
    refine evn (by omega) (evp (by omega) (evp (by omega) ?_))
    rw [rd_nat, within]; simp only [Option.bind_some, Int.toNat_natCast]
    by_cases e3 : 0 ≤ p ∧ p ≤ l.getD j 0
    ·
     refine evp (by simpa using e3) ?_
     rw [copied l (by omega), w64 (x := l.getD j 0 - p) (by omega) (by omega)]
     simp only [Option.bind_some]
     refine evp (by simp; omega) (evp (by simp; omega) (evs ?_))
     rw [if_pos ⟨e1, e2, e3, e4⟩]
    ·
     exact evn (by simpa using e3) (evs (by rw [if_neg (fun h => e3 h.2.2.1)]))
  ·
   exact evn (by simpa using e2) (evs (by rw [if_neg (fun h => e2 h.2.1)]))
 ·
  exact evn e1 (evs (by rw [if_neg (fun h => e1 h.1)]))
theorem rising_l0 (l : List Int) (hl : l.length < 4611686018427387904) : ∀ (d i : Nat), i + d = l.length → 1 ≤ i →
  Ev (fun k => impl_rising.l0 k l (i : Int)) (riseB (l.drop (i - 1))) := by
 intro d
 induction d with
 | zero =>
  intro i hi' h1
  refine Ev.step (fun k => impl_rising.l0.eq_2 ..) (evn (by omega) (evs ?_))
  rw [riseB_end l (i - 1) (by omega)]
 | succ d ih =>
  intro i hi' h1
  refine Ev.step (fun k => impl_rising.l0.eq_2 ..) (evp (by omega) ?_)
  rw [rd_nat, w64s i (by omega), w64 (x := (i : Int) - 1) (by omega) (by omega), show (i : Int) - 1 = ((i - 1 : Nat) : Int) by omega, rd_nat]
  refine evp (by omega) (evp (by omega) (evp (by omega) ?_))
  have hs := riseB_step l (i - 1) (by omega)
  rw [show i - 1 + 1 = i by omega] at hs
  by_cases e1 : l.getD (i - 1) 0 ≥ l.getD i 0
  ·
   refine evp e1 (evs ?_)
   rw [hs, decide_eq_false (by omega)]; simp
  ·
   refine evn e1 (evr (ih (i + 1) (by omega) (by omega)) ?_)
   rw [hs, decide_eq_true (show l.getD (i - 1) 0 < l.getD i 0 by omega)]; simp
theorem rising (l : List Int) (hl : l.length < 4611686018427387904) : Ev (fun k => impl_rising.f k l) (riseB l) := by
 unfold impl_rising.f
 by_cases h : l.length = 0
 ·
  refine Ev.step (fun k => impl_rising.l0.eq_2 ..) (evn (by omega) (evs ?_))
  rw [List.eq_nil_of_length_eq_zero h]; rfl
 ·
  exact evr (rising_l0 l hl (l.length - 1) 1 (by omega) (by omega)) (by simp)
theorem isSet (l : List Int) (n : Int) (hn : 0 ≤ n ∧ n ≤ 1000000) (hl : l.length < 4611686018427387904) : Ev (fun k => impl_isSet.f k l n) (setB n l) := by
 unfold impl_isSet.f setB
 refine evb (rising l hl) ?_
 rw [w64 (x := n - 1) (by omega) (by omega)]
 by_cases e : riseB l = true
 ·
  refine evp e (evb (allWithin l 0 (n - 1) hl) (evs ?_))
  rw [e, Bool.and_true]; rfl
 ·
  exact evn e (evs (by simp [e]))
theorem setOf_l0 (n : Nat) (hn : n ≤ 8) (s : List Int) (hs : s.length < 4611686018427387904) : ∀ (d i : Nat) (c : Nat), i + d = s.length → riseB (s.drop i) = true → (∀ x ∈ s.drop i, 0 ≤ x ∧ x < n ∧ c < 2 ^ x.toNat) →
  Ev (fun k => impl_setOf.l0 k (c : Int) s (s.length : Int) (i : Int)) ((c + codeOf (s.drop i) : Nat) : Int) := by
 have hp := pow8 n hn
 intro d
 induction d with
 | zero =>
  intro i c hi hr hx
  rw [List.drop_of_length_le (show s.length ≤ i by omega)]
  exact Ev.step (fun k => impl_setOf.l0.eq_2 ..) (evn (by omega) (evs rfl))
 | succ d ih =>
  intro i c hi hr hx
  have hd := List.drop_eq_getElem_cons (show i < s.length by omega)
  have hg : s.getD i 0 = s[i] := by simp [List.getD_eq_getElem?_getD, List.getElem?_eq_getElem (show i < s.length by omega)]
  have h1 := hx s[i] (by rw [hd]; exact List.mem_cons_self)
  rw [hd] at hr
  obtain ⟨x, hx0⟩ : ∃ x : Nat, s[i] = (x : Int) := ⟨s[i].toNat, by omega⟩
  have hxl : x < n := by omega
  have hpx := pow_lt x n hxl
  have hcx : c < 2 ^ x := by have := h1.2.2; rw [hx0, Int.toNat_natCast] at this; exact this
  have key : c + 2 ^ x < 2 ^ (x + 1) := by rw [Nat.pow_succ]; omega
  refine Ev.step (fun k => impl_setOf.l0.eq_2 ..) (evp (by omega) (evp (by omega) (evp (by omega) ?_)))
  rw [rd_nat, hg, hx0, shl1 x (by omega), w64s i (by omega), or_nat c (2 ^ x) (by omega) (by omega), or_low c x hcx]
  refine evp (by omega) (evr (ih (i + 1) (c + 2 ^ x) (by omega) (riseB_tail hr) (fun y hy => ?_)) ?_)
  ·
   have h2 := hx y (by rw [hd]; exact List.mem_cons_of_mem _ hy)
   have h3 := riseB_lt _ _ hr y hy
   exact ⟨h2.1, h2.2.1, Nat.lt_of_lt_of_le key (Nat.pow_le_pow_right (by decide) (by omega))⟩
  ·
   rw [hd]; simp only [codeOf]; rw [hx0, Int.toNat_natCast, Nat.add_assoc]
theorem setOf (n : Nat) (hn : n ≤ 8) (s : List Int) (hs : s.length < 4611686018427387904) (h1 : ∀ x ∈ s, 0 ≤ x ∧ x < n) (h2 : riseB s = true) : Ev (fun k => impl_setOf.f k s) ((codeOf s : Nat) : Int) := by
 unfold impl_setOf.f
 refine evr (setOf_l0 n hn s hs s.length 0 0 (by omega) (by simpa using h2) (fun x hx => ?_)) (by simp)
 have := h1 x (by simpa using hx); exact ⟨this.1, this.2, Nat.two_pow_pos _⟩
theorem l6Kept (l : List Int) (q : Int) (hl : l.length < 4611686018427387904) : Ev (fun k => spec_l6Kept.f k l q) (if voteB l q = true then (l, q, true) else ([], 0, false)) := by
 unfold spec_l6Kept.f
 refine evb (l6Vote l q hl) ?_
 by_cases e : voteB l q = true
 ·
  exact evp e (evs (by rw [if_pos e]))
 ·
  exact evn e (evs (by rw [if_neg e]))
theorem sMerge_l0 {l : List Int} {q : Int} (h : Vot l q) (i j : Nat) (hi : i < l.length) (hj : j < l.length) (hij : i ≠ j) : ∀ (d m : Nat), m + d = l.length →
  Ev (fun k => spec_MergeVoters.l0 k (i : Int) (j : Int) (m : Int) l q (((mset l i j).take m).eraseIdx j) q) (if voteB (mrg l i j) q = true then (mrg l i j, q, true) else ([], 0, false)) := by
 have h8 := h.1
 intro d
 induction d with
 | zero =>
  intro m hm
  have hml := mset_len l i j
  refine Ev.step (fun k => spec_MergeVoters.l0.eq_2 ..) (evn (by omega) ?_)
  rw [List.take_of_length_le (by omega)]
  have := mrg_len l i j
  exact evb (l6Kept _ q (by unfold mrg at this; omega)) (evs (by unfold mrg; split <;> rfl))
 | succ d ih =>
  intro m hm
  have hs := ih (m + 1) (by omega)
  have hml := mset_len l i j
  rw [erase_step _ j m (by omega), mset_at l i j m hi] at hs
  have hai := h.at_ i
  have haj := h.at_ j
  have hlen : (((mset l i j).take m).eraseIdx j).length < 17592186044416 := by
   have : (((mset l i j).take m).eraseIdx j).length ≤ ((mset l i j).take m).length := by rw [List.length_eraseIdx]; split <;> omega
   have : ((mset l i j).take m).length ≤ 8 := by simp; omega
   omega
  refine Ev.step (fun k => spec_MergeVoters.l0.eq_2 ..) (evp (by omega) (evp (by omega) ?_))
  rw [w64s m (by omega)]
  by_cases e1 : m = i
  ·
   subst e1
   rw [if_neg hij, if_pos rfl] at hs
   refine evp rfl (evp (by omega) (evp (by omega) (evn (by omega) (evp hlen ?_))))
   rw [rd_nat, rd_nat, w64 (x := l.getD m 0 + l.getD j 0) (by omega) (by omega)]
   exact hs
  ·
   refine evn (by omega) ?_
   by_cases e2 : m = j
   ·
    rw [if_pos e2] at hs
    exact evp (by omega) hs
   ·
    rw [if_neg e2, if_neg e1] at hs
    refine evn (by omega) (evp hlen ?_)
    rw [rd_nat]
    exact hs
theorem sMerge (l : List Int) (q i j : Int) (hl : l.length < 4611686018427387904) : Ev (fun k => spec_MergeVoters.f k l q i j) (mergeV l q i j) := by
 have no : ¬ (voteB l q = true ∧ (0 ≤ i ∧ i ≤ l.length - 1) ∧ (0 ≤ j ∧ j ≤ l.length - 1) ∧ i ≠ j) → Ev (fun k => spec_MergeVoters.j0 k i j true l q) (mergeV l q i j) := fun c =>
  Ev.step (fun k => spec_MergeVoters.j0.eq_2 ..) (evp rfl (evs (by unfold mergeV; rw [if_neg (fun h => c ⟨h.1, h.2.1, h.2.2.1, h.2.2.2.1⟩)])))
 unfold spec_MergeVoters.f
 refine evb (l6Voter l q i hl) ?_
 by_cases e1 : voteB l q = true ∧ (0 ≤ i ∧ i ≤ (l.length : Int) - 1)
 ·
  refine evp (by rw [e1.1, decide_eq_true e1.2]; rfl) (evb (l6Voter l q j hl) ?_)
  by_cases e2 : 0 ≤ j ∧ j ≤ (l.length : Int) - 1
  ·
   refine evp (by rw [e1.1, decide_eq_true e2]; rfl) ?_
   by_cases e3 : i = j
   ·
    rw [show (i == j) = true from beq_iff_eq.2 e3]
    exact no (fun h => h.2.2.2 e3)
   ·
    rw [show (i == j) = false from beq_eq_false_iff_ne.2 e3]
    refine Ev.step (fun k => spec_MergeVoters.j0.eq_2 ..) (evn (by decide) ?_)
    obtain ⟨a, rfl⟩ := Int.eq_ofNat_of_zero_le e1.2.1
    obtain ⟨b, rfl⟩ := Int.eq_ofNat_of_zero_le e2.1
    have := sMerge_l0 ((voteB_iff l q).1 e1.1) a b (by omega) (by omega) (by omega) l.length 0 (by omega)
    refine evr this ?_
    unfold mergeV
    simp only [Int.toNat_natCast]
    by_cases e4 : voteB (mrg l a b) q = true
    ·
     rw [if_pos e4, if_pos ⟨e1.1, e1.2, e2, e3, e4⟩]
    ·
     rw [if_neg e4, if_neg (fun h => e4 h.2.2.2.2)]
  ·
   exact evn (by rw [decide_eq_false e2, Bool.and_false]; decide) (no (fun h => e2 h.2.2.1))
 ·
  exact evn (by simpa using e1) (no (fun h => e1 ⟨h.1, h.2.1⟩))
theorem iMerge (l : List Int) (q i j : Int) (hl : l.length < 4611686018427387904) : Ev (fun k => impl_MergeVoters.f k l q i j) (mergeV l q i j) := by
 have no : ¬ (voteB l q = true ∧ (0 ≤ i ∧ i ≤ l.length - 1) ∧ (0 ≤ j ∧ j ≤ l.length - 1) ∧ i ≠ j) → Ev (fun k => impl_MergeVoters.j0 k i j true l q) (mergeV l q i j) := fun c =>
  Ev.step (fun k => impl_MergeVoters.j0.eq_2 ..) (evp rfl (evs (by unfold mergeV; rw [if_neg (fun h => c ⟨h.1, h.2.1, h.2.2.1, h.2.2.2.1⟩)])))
 unfold impl_MergeVoters.f
 refine evb (iIsVote l q hl) ?_
 by_cases e1 : voteB l q = true
 ·
  have h := (voteB_iff l q).1 e1
  have h8 := h.1
  refine evp e1 ?_
  rw [w64 (x := (l.length : Int) - 1) (by omega) (by omega), within]
  simp only [Option.bind_some]
  by_cases e2 : 0 ≤ i ∧ i ≤ (l.length : Int) - 1
  ·
   refine evp (by simpa using e2) ?_
   rw [within]
   simp only [Option.bind_some]
   by_cases e3 : 0 ≤ j ∧ j ≤ (l.length : Int) - 1
   ·
    refine evp (by simpa using e3) ?_
    by_cases e4 : i = j
    ·
     rw [show (i == j) = true from beq_iff_eq.2 e4]
     exact no (fun h => h.2.2.2 e4)
    ·
     rw [show (i == j) = false from beq_eq_false_iff_ne.2 e4]
     refine Ev.step (fun k => impl_MergeVoters.j0.eq_2 ..) (evn (by decide) ?_)
     obtain ⟨a, rfl⟩ := Int.eq_ofNat_of_zero_le e2.1
     obtain ⟨b, rfl⟩ := Int.eq_ofNat_of_zero_le e3.1
     have hai := h.at_ a
     have haj := h.at_ b
     have hml := mset_len l a b
     have hmr := mrg_len l a b
     rw [copied l (by omega)]; simp only [Option.bind_some]
     refine evp (by omega) (evp (by omega) (evp (by omega) (evp (by omega) ?_)))
     rw [rd_nat, rd_nat, w64 (x := l.getD a 0 + l.getD b 0) (by omega) (by omega), w64s b (by omega), Int.toNat_natCast]
     have hd : slices_Delete_int_int.f (l.set a (l.getD a 0 + l.getD b 0)) (b : Int) ((b + 1 : Nat) : Int) = some (mrg l a b) := by
      unfold slices_Delete_int_int.f
      rw [if_pos ⟨by omega, by omega, by simp; omega, by simp; omega⟩]
      unfold mrg mset
      rw [List.eraseIdx_eq_take_drop_succ, Int.toNat_natCast, Int.toNat_natCast]
     rw [hd]; simp only [Option.bind_some]
     refine evb (iIsVote _ q (by omega)) ?_
     unfold mergeV
     simp only [Int.toNat_natCast]
     by_cases e5 : voteB (mrg l a b) q = true
     ·
      exact evp e5 (evs (by rw [if_pos ⟨e1, e2, e3, e4, e5⟩]))
     ·
      exact evn e5 (evs (by rw [if_neg (fun h => e5 h.2.2.2.2)]))
   ·
    exact evn (by simpa using e3) (no (fun h => e3 h.2.2.1))
  ·
   exact evn (by simpa using e2) (no (fun h => e2 h.2.1))
 ·
  exact evn e1 (no (fun h => e1 h.1))
def CurOk (l : List Int) : Prop := (l.length : Int) ≤ 65536 ∧ ∀ x ∈ l, 0 ≤ x ∧ x ≤ 255
theorem cur_ok (l : List Int) (hl : (l.length : Int) ≤ 65536) (hb : ∀ x ∈ l, (Lit.int .u8 x).wf = true) : CurOk l := by
 refine ⟨hl, fun x hx => ?_⟩
 have := hb x hx
 simp only [Lit.wf, Bool.and_eq_true, decide_eq_true_eq, IntKind.min, IntKind.max, IntKind.signed, IntKind.bits] at this
 simp at this
 omega
theorem cur_and (y : Int) (h0 : 0 ≤ y) (h1 : y < 18446744073709551616) : 0 ≤ Go.bits .and .u64 (y / 1099511627776) 255 ∧ Go.bits .and .u64 (y / 1099511627776) 255 ≤ 255 := by
 obtain ⟨n, hn⟩ := Int.eq_ofNat_of_zero_le (show 0 ≤ y / 1099511627776 by omega)
 have hn2 : n < 2 ^ 64 := by omega
 have h := (bits_nat .u64 64 (by decide) (fun n h₀ h₁ => by rw [show IntKind.u64.wrap n = n % 18446744073709551616 by simp [IntKind.wrap, IntKind.bits, IntKind.signed]]; omega) n 255 hn2 (by decide)).1
 rw [hn, show (255 : Int) = ((255 : Nat) : Int) from rfl, h]
 have := @Nat.and_le_right n 255
 omega
theorem cur_u64 (z : Int) : 0 ≤ IntKind.u64.wrap z ∧ IntKind.u64.wrap z < 18446744073709551616 := by
 rw [show IntKind.u64.wrap z = z % 18446744073709551616 by simp [IntKind.wrap, IntKind.bits, IntKind.signed]]; omega
theorem cnext {l : List Int} (hl : CurOk l) (p s : Int) (hp : 0 ≤ p ∧ p ≤ 1000000) : ∃ x s', spec_l1Cur_next.f l p s = some (x, p + 1, s') ∧ 0 ≤ x ∧ x ≤ 255 := by
 have hr : 0 ≤ rd l p ∧ rd l p ≤ 255 := by
  obtain ⟨j, rfl⟩ := Int.eq_ofNat_of_zero_le hp.1
  rw [rd_nat]
  by_cases hj : j < l.length
  ·
   rw [List.getD_eq_getElem?_getD, List.getElem?_eq_getElem hj]; exact hl.2 _ (List.getElem_mem hj)
  ·
   rw [List.getD_eq_getElem?_getD, List.getElem?_eq_none (by omega)]; decide
 have ew : wrap64 (p + 1) = p + 1 := w64 (by omega) (by omega)
 have hw : ∀ z : Int, ∃ x s', (some (wrap64 (Go.bits .and .u64 ((IntKind.u64.wrap z) / 1099511627776) 255), p + 1, IntKind.u64.wrap z) : Option (Int × Int × Int)) = some (x, p + 1, s') ∧ 0 ≤ x ∧ x ≤ 255 := by
  intro z
  have h := cur_u64 z
  have h2 := cur_and _ h.1 h.2
  refine ⟨_, _, rfl, ?_⟩
  rw [w64 (by omega) (by omega)]; exact h2
 unfold spec_l1Cur_next.f
 rw [ew]
 by_cases h : p < (l.length : Int)
 ·
  rw [if_pos h, if_pos hp.1]
  by_cases h2 : p + 1 ≤ (l.length : Int)
  ·
   rw [if_pos h2]
   refine ⟨_, _, rfl, ?_⟩
   rw [w64 (by omega) (by omega)]; exact hr
  ·
   omega
 ·
  rw [if_neg h, if_neg (by omega)]
  exact hw _
theorem cur_tmod (x n : Int) (hx : 0 ≤ x) (hn : 0 < n) : 0 ≤ Int.tmod x n ∧ Int.tmod x n < n := by
 rw [Int.tmod_eq_emod_of_nonneg hx]
 exact ⟨Int.emod_nonneg _ (by omega), Int.emod_lt_of_pos _ hn⟩
theorem cpick {l : List Int} (hl : CurOk l) (p s n : Int) (hp : 0 ≤ p ∧ p ≤ 900000) : ∃ x p' s', spec_l1Cur_pick.f l p s n = some (x, p', s') ∧ 0 ≤ x ∧ (x < n ∨ n ≤ 1 ∧ x = 0) ∧ p ≤ p' ∧ p' ≤ p + 2 := by
 unfold spec_l1Cur_pick.f
 by_cases h1 : n ≤ 1
 ·
  rw [if_pos h1]; exact ⟨0, p, s, rfl, Int.le_refl _, .inr ⟨h1, rfl⟩, by omega, by omega⟩
 ·
  rw [if_neg h1]
  obtain ⟨x, s1, e, hx0, hx1⟩ := cnext hl p s (by omega)
  rw [e]; simp only [Option.bind_some]
  by_cases h2 : n > 200
  ·
   rw [if_pos h2]
   obtain ⟨y, s2, e2, hy0, hy1⟩ := cnext hl (p + 1) s1 (by omega)
   rw [e2]; simp only [Option.bind_some]
   rw [if_neg (by omega), w64 (x := x * 256) (by omega) (by omega), w64 (by omega) (by omega)]
   have := cur_tmod (x * 256 + y) n (by omega) (by omega)
   exact ⟨_, _, _, rfl, this.1, .inl this.2, by omega, by omega⟩
  ·
   rw [if_neg h2, if_neg (by omega)]
   have := cur_tmod x n hx0 (by omega)
   exact ⟨_, _, _, rfl, this.1, .inl this.2, by omega, by omega⟩
theorem cone {l : List Int} (hl : CurOk l) (p s n : Int) (hp : 0 ≤ p ∧ p ≤ 900000) : ∃ b p' s', spec_l1Cur_one.f l p s n = some (b, p', s') ∧ p ≤ p' ∧ p' ≤ p + 2 := by
 obtain ⟨x, p', s', e, _, _, h1, h2⟩ := cpick hl p s n hp
 unfold spec_l1Cur_one.f
 rw [e]; exact ⟨_, _, _, rfl, h1, h2⟩
theorem camong {l : List Int} (hl : CurOk l) (p s : Int) (xs : List Int) (hx : xs ≠ []) (hp : 0 ≤ p ∧ p ≤ 900000) : ∃ x p' s', spec_l1Cur_among.f l p s xs = some (x, p', s') ∧ x ∈ xs ∧ p ≤ p' ∧ p' ≤ p + 2 := by
 have hlen : 0 < xs.length := List.length_pos_iff.2 hx
 obtain ⟨x, p', s', e, h0, h1, h2, h3⟩ := cpick hl p s (xs.length : Int) hp
 have hlt : x < (xs.length : Int) := by omega
 unfold spec_l1Cur_among.f
 rw [e]; simp only [Option.bind_some]
 rw [if_pos h0, if_pos hlt]
 refine ⟨_, _, _, rfl, ?_, h2, h3⟩
 obtain ⟨j, rfl⟩ := Int.eq_ofNat_of_zero_le h0
 rw [rd_nat, List.getD_eq_getElem?_getD, List.getElem?_eq_getElem (show j < xs.length by omega)]
 exact List.getElem_mem _
theorem l1Most (a b : Int) : spec_l1Most.f a b = some (if a > b then a else b) := by unfold spec_l1Most.f; split <;> rfl
theorem l1Least (a b : Int) : spec_l1Least.f a b = some (if a < b then a else b) := by unfold spec_l1Least.f; split <;> rfl
def VDr (p : Int) (n : Nat) (v : List Int × Int × Int × Int) : Prop := v.1.length ≤ 9 ∧ p ≤ v.2.2.1 ∧ v.2.2.1 ≤ p + n
theorem sv_l1 (l : List Int) (p s q : Int) : ∀ d (v : List Int), v.length + d = 9 → ∃ r, Ev (fun k => spec_l1Cur_someVote.l1 k l p s v q) r ∧ VDr p 0 r := by
 intro d
 induction d with
 | zero =>
  intro v hv
  exact ⟨_, Ev.step (fun k => spec_l1Cur_someVote.l1.eq_2 ..) (evn (by omega) (evs rfl)), by unfold VDr; simp; omega⟩
 | succ d ih =>
  intro v hv
  obtain ⟨r, hr, h⟩ := ih (v ++ [1]) (by simp; omega)
  exact ⟨r, Ev.step (fun k => spec_l1Cur_someVote.l1.eq_2 ..) (evp (by omega) (evp (by omega) hr)), h⟩
theorem sv_j1 {l : List Int} (hl : CurOk l) (p s sum q : Int) (v : List Int) (hv : 1 ≤ v.length ∧ v.length ≤ 8) (hp : 0 ≤ p ∧ p ≤ 800000) : ∃ r, Ev (fun k => spec_l1Cur_someVote.j1 k sum l p s v q) r ∧ VDr p 4 r := by
 obtain ⟨x, p1, s1, e, _, _, h1, h2⟩ := cpick hl p s 40 (by omega)
 by_cases c0 : x = 0
 ·
  obtain ⟨y, p2, s2, e2, _, h3, h4⟩ := camong hl p1 s1 [0, sum, wrap64 (sum + 1), -1] (by simp) (by omega)
  refine ⟨_, Ev.step (fun k => spec_l1Cur_someVote.j1.eq_2 ..) (evb (evc e) (evp c0 (evb (evc e2) (evs rfl)))), ?_⟩
  unfold VDr; simp only; omega
 by_cases c1 : x = 1
 ·
  obtain ⟨y, p2, s2, e2, _, h3, h4⟩ := camong hl p1 s1 [20, 21, -1, 4611686018427387904] (by simp) (by omega)
  refine ⟨_, Ev.step (fun k => spec_l1Cur_someVote.j1.eq_2 ..) (evb (evc e) (evn c0 (evp c1 (evb (evc e2) (evp (by omega) (evs rfl)))))), ?_⟩
  unfold VDr; simp only [List.length_set]; omega
 by_cases c2 : x = 2
 ·
  obtain ⟨r, hr, h⟩ := sv_l1 l p1 s1 q (9 - v.length) v (by omega)
  refine ⟨r, Ev.step (fun k => spec_l1Cur_someVote.j1.eq_2 ..) (evb (evc e) (evn c0 (evn c1 (evp c2 hr)))), ?_⟩
  unfold VDr at h ⊢; omega
 by_cases c3 : x = 3
 ·
  refine ⟨_, Ev.step (fun k => spec_l1Cur_someVote.j1.eq_2 ..) (evb (evc e) (evn c0 (evn c1 (evn c2 (evp c3 (evs rfl)))))), ?_⟩
  unfold VDr; simp only [List.length_nil]; omega
 ·
  refine ⟨_, Ev.step (fun k => spec_l1Cur_someVote.j1.eq_2 ..) (evb (evc e) (evn c0 (evn c1 (evn c2 (evn c3 (evs rfl)))))), ?_⟩
  unfold VDr; simp only; omega
theorem sv_l0 {l : List Int} (hl : CurOk l) (q0 : Int) : ∀ (d : Nat) (p s sum : Int) (v : List Int), 1 ≤ v.length + d → v.length + d ≤ 8 → 0 ≤ p ∧ p + 2 * d ≤ 700000 → ∃ r, Ev (fun k => spec_l1Cur_someVote.l0 k sum (d : Int) l p s v q0) r ∧ VDr p (2 * d + 8) r := by
 intro d
 induction d with
 | zero =>
  intro p s sum v h1 h8 hp
  obtain ⟨x, p1, s1, e, _, _, g1, g2⟩ := cpick hl p s (if sum > 1 then sum else 1) (by omega)
  obtain ⟨b, p2, s2, e2, g3, g4⟩ := cone hl p1 s1 3 (by omega)
  by_cases c : b = true
  ·
   obtain ⟨r, hr, h⟩ := sv_j1 hl p2 s2 sum (wrap64 ((wrap64 (Int.tdiv sum 2)) + 1)) v (by omega) (by omega)
   refine ⟨r, Ev.step (fun k => spec_l1Cur_someVote.l0.eq_2 ..) (evn (by omega) (evb (evc (l1Most _ _)) (evb (evc e) (evb (evc e2) (evp c hr))))), ?_⟩
   unfold VDr at h ⊢; omega
  ·
   obtain ⟨r, hr, h⟩ := sv_j1 hl p2 s2 sum (wrap64 (1 + x)) v (by omega) (by omega)
   refine ⟨r, Ev.step (fun k => spec_l1Cur_someVote.l0.eq_2 ..) (evn (by omega) (evb (evc (l1Most _ _)) (evb (evc e) (evb (evc e2) (evn c hr))))), ?_⟩
   unfold VDr at h ⊢; omega
 | succ d ih =>
  intro p s sum v h1 h8 hp
  obtain ⟨x, p1, s1, e, _, g1, g2⟩ := camong hl p s [1, 2, 3, 1, 0, 5, 7] (by simp) (by omega)
  obtain ⟨r, hr, h⟩ := ih p1 s1 (wrap64 (sum + x)) (v ++ [x]) (by simp; omega) (by simp; omega) (by omega)
  refine ⟨r, Ev.step (fun k => spec_l1Cur_someVote.l0.eq_2 ..) (evp (by omega) (evb (evc e) (evp (by omega) ?_))), ?_⟩
  ·
   simp only
   rw [show wrap64 (((d + 1 : Nat) : Int) - 1) = (d : Int) by rw [w64 (by omega) (by omega)]; omega]; exact hr
  ·
   unfold VDr at h ⊢; omega
theorem someVote {l : List Int} (hl : CurOk l) (p s most : Int) (hm : 1 ≤ most) (hp : 0 ≤ p ∧ p ≤ 600000) : ∃ r, Ev (fun k => spec_l1Cur_someVote.f k l p s most) r ∧ VDr p 26 r := by
 obtain ⟨x, p1, s1, e, hx, g1, g2⟩ := camong hl p s [3, 4, 5, 2, 1, 6, 8] (by simp) (by omega)
 have hx8 : 1 ≤ x ∧ x ≤ 8 := by simp at hx; omega
 obtain ⟨d, hd⟩ : ∃ d : Nat, (if x < most then x else most) = (d : Int) := ⟨(if x < most then x else most).toNat, by split <;> omega⟩
 have hd8 : 1 ≤ d ∧ d ≤ 8 := by split at hd <;> omega
 obtain ⟨r, hr, h⟩ := sv_l0 hl 0 d p1 s1 0 [] (by simp; omega) (by simp; omega) (by omega)
 refine ⟨r, ?_, ?_⟩
 ·
  unfold spec_l1Cur_someVote.f
  refine evb (evc e) (evb (evc (l1Least _ _)) ?_)
  simp only
  rw [hd]; exact hr
 ·
  unfold VDr at h ⊢; omega
theorem voter_j0 {l : List Int} (hl : CurOk l) (b : Bool) (p s : Int) (v : List Int) (q : Int) (hp : 0 ≤ p ∧ p ≤ 800000) : ∃ r, Ev (fun k => spec_l1Cur_voter.j0 k b l p s v q) r ∧ p ≤ r.2.1 ∧ r.2.1 ≤ p + 2 := by
 by_cases c : b = true
 ·
  obtain ⟨x, p1, s1, e, _, g1, g2⟩ := camong hl p s [-1, 0, (v.length : Int), 4611686018427387904] (by simp) (by omega)
  exact ⟨_, Ev.step (fun k => spec_l1Cur_voter.j0.eq_2 ..) (evp c (evb (evc e) (evs rfl))), g1, g2⟩
 ·
  obtain ⟨x, p1, s1, e, _, _, g1, g2⟩ := cpick hl p s (v.length : Int) (by omega)
  exact ⟨_, Ev.step (fun k => spec_l1Cur_voter.j0.eq_2 ..) (evn c (evb (evc e) (evs rfl))), g1, g2⟩
theorem voter {l : List Int} (hl : CurOk l) (p s : Int) (v : List Int) (q : Int) (hp : 0 ≤ p ∧ p ≤ 700000) : ∃ r, Ev (fun k => spec_l1Cur_voter.f k l p s v q) r ∧ p ≤ r.2.1 ∧ r.2.1 ≤ p + 4 := by
 unfold spec_l1Cur_voter.f
 by_cases c : (v.length : Int) = 0
 ·
  obtain ⟨r, hr, h1, h2⟩ := voter_j0 hl true p s v q (by omega)
  exact ⟨r, evp c hr, h1, by omega⟩
 ·
  obtain ⟨b, p1, s1, e, g1, g2⟩ := cone hl p s 20 (by omega)
  obtain ⟨r, hr, h1, h2⟩ := voter_j0 hl b p1 s1 v q (by omega)
  exact ⟨r, evn c (evb (evc e) hr), by omega, by omega⟩
theorem dSplit {l : List Int} (hl : CurOk l) : ∃ r, Ev (fun k => spec_DrawSplitVoter.f k l) r ∧ r.1.length ≤ 9 := by
 obtain ⟨v, hv, h⟩ := someVote hl 0 0 8 (by omega) (by omega)
 unfold VDr at h
 obtain ⟨i, hi, g1, g2⟩ := voter hl v.2.2.1 v.2.2.2 v.1 v.2.1 (by omega)
 obtain ⟨x, p1, s1, e, _, g3, g4⟩ := camong hl i.2.1 i.2.2 [0, 1, 2, 3, -1, 5, 21] (by simp) (by omega)
 unfold spec_DrawSplitVoter.f spec_l1Cur_vote.f
 exact ⟨_, evb (evb hv (evs rfl)) (evb hi (evb (evc e) (evs rfl))), h.1⟩
theorem dMerge {l : List Int} (hl : CurOk l) : ∃ r, Ev (fun k => spec_DrawMergeVoters.f k l) r ∧ r.1.length ≤ 9 := by
 obtain ⟨v, hv, h⟩ := someVote hl 0 0 8 (by omega) (by omega)
 unfold VDr at h
 obtain ⟨i, hi, g1, g2⟩ := voter hl v.2.2.1 v.2.2.2 v.1 v.2.1 (by omega)
 obtain ⟨j, hj, g3, g4⟩ := voter hl i.2.1 i.2.2 v.1 v.2.1 (by omega)
 unfold spec_DrawMergeVoters.f spec_l1Cur_vote.f
 exact ⟨_, evb (evb hv (evs rfl)) (evb hi (evb hj (evs rfl))), h.1⟩
theorem setB_iff (n : Nat) (s : List Int) : setB n s = true ↔ (∀ x ∈ s, 0 ≤ x ∧ x < n) ∧ riseB s = true := by
 simp only [setB, inB, Bool.and_eq_true, List.all_eq_true, decide_eq_true_eq]
 constructor
 ·
  rintro ⟨a, b⟩; exact ⟨fun x hx => by have := a x hx; omega, b⟩
 ·
  rintro ⟨a, b⟩; exact ⟨fun x hx => by have := a x hx; omega, b⟩
theorem iWinsW (l : List Int) (q : Int) (s : List Int) (hl : l.length < 4611686018427387904) (hs : s.length < 4611686018427387904) : Ev (fun k => impl_WinsWith.f k l q s) (winsWith l q s) := by
 unfold impl_WinsWith.f winsWith
 refine evb (iIsVote l q hl) ?_
 by_cases e : voteB l q = true
 ·
  have h := (voteB_iff l q).1 e
  have h8 := h.1
  have hp := pow8 l.length h8.2
  refine evp e (evb (isSet s l.length (by omega) hs) (Ev.step (fun k => impl_WinsWith.j0.eq_2 ..) ?_))
  by_cases e' : setB l.length s = true
  ·
   obtain ⟨h1, h2⟩ := (setB_iff _ _).1 e'
   have hc := code_lt l.length s 0 h2 (fun x hx => ⟨(h1 x hx).1, (h1 x hx).2, Nat.two_pow_pos _⟩) (Nat.two_pow_pos _)
   refine evn (by simp [e']) (evb (setOf l.length h8.2 s hs h1 h2) (evb (wins h (codeOf s) (by omega)) (evs ?_)))
   rw [if_pos ⟨e, e'⟩]
  ·
   exact evp (by simp [e']) (evs (by rw [if_neg (fun h => e' h.2)]))
 ·
  exact evn e (Ev.step (fun k => impl_WinsWith.j0.eq_2 ..) (evp rfl (evs (by rw [if_neg (fun h => e h.1)]))))
def plc (P : Nat → Bool) (n : Nat) : List Int := ((List.range n).filter P).map fun k : Nat => (k : Int)
theorem plc_succ (P : Nat → Bool) (n : Nat) : plc P (n + 1) = plc P n ++ (if P n = true then [(n : Int)] else []) := by
 unfold plc
 rw [List.range_succ, List.filter_append, List.map_append]
 by_cases e : P n = true
 ·
  simp [List.filter, e]
 ·
  simp [List.filter, e]
theorem plc_len (P : Nat → Bool) : ∀ n, (plc P n).length ≤ n
 | 0 => by simp [plc]
 | n + 1 => by
  have := plc_len P n
  rw [plc_succ]
  split <;> simp <;> omega
theorem plc_in (P : Nat → Bool) (n : Nat) : ∀ x ∈ plc P n, 0 ≤ x ∧ x < n := by
 intro x hx
 unfold plc at hx
 obtain ⟨k, hk, rfl⟩ := List.mem_map.1 hx
 have := List.mem_range.1 (List.mem_filter.1 hk).1
 omega
theorem riseB_snoc : ∀ (l : List Int) (y : Int), riseB l = true → (∀ x ∈ l, x < y) → riseB (l ++ [y]) = true
 | [], _, _, _ => rfl
 | [x], y, _, h => by simp [riseB, h x (by simp)]
 | x :: z :: l, y, hr, h => by
  have h1 := riseB_snoc (z :: l) y (riseB_tail hr) (fun u hu => h u (by simp [hu]))
  have h2 := riseB_lt _ _ hr z (by simp)
  simp only [List.cons_append, riseB, Bool.and_eq_true, decide_eq_true_eq] at h1 ⊢
  exact ⟨h2, h1⟩
theorem plc_rise (P : Nat → Bool) : ∀ n, riseB (plc P n) = true
 | 0 => by simp [plc, riseB]
 | n + 1 => by
  rw [plc_succ]
  split
  ·
   exact riseB_snoc _ _ (plc_rise P n) (fun x hx => (plc_in P n x hx).2)
  ·
   rw [List.append_nil]; exact plc_rise P n
theorem plc_set (P : Nat → Bool) (n : Nat) : setB n (plc P n) = true := (setB_iff _ _).2 ⟨plc_in P n, plc_rise P n⟩
theorem codeOf_append : ∀ a b : List Int, codeOf (a ++ b) = codeOf a + codeOf b
 | [], b => by simp [codeOf]
 | x :: a, b => by simp only [List.cons_append, codeOf, codeOf_append a b]; omega
theorem bit_test (c i : Nat) : bit c i = if c.testBit i = true then 1 else 0 := by
 unfold bit
 have := bit_lt c i
 unfold bit at this
 rw [Nat.testBit_eq_decide_div_mod_eq]
 by_cases e : c / 2 ^ i % 2 = 1
 ·
  simp [e]
 ·
  simp [e]; omega
theorem plc_code (P : Nat → Bool) : ∀ n, codeOf (plc P n) < 2 ^ n ∧ ∀ i, i < n → bit (codeOf (plc P n)) i = if P i = true then 1 else 0
 | 0 => by simp [plc, codeOf]
 | n + 1 => by
  obtain ⟨h1, h2⟩ := plc_code P n
  rw [plc_succ, codeOf_append]
  by_cases e : P n = true
  ·
   rw [if_pos e]
   have e2 : codeOf (plc P n) + codeOf [(n : Int)] = 2 ^ n + codeOf (plc P n) := by simp only [codeOf, Int.toNat_natCast]; omega
   rw [e2]
   refine ⟨by rw [Nat.pow_succ]; omega, fun i hi => ?_⟩
   by_cases ei : i = n
   ·
    subst ei
    rw [bit_test, Nat.testBit_two_pow_add_eq, Nat.testBit_lt_two_pow h1]; simp [e]
   ·
    rw [bit_test, Nat.testBit_two_pow_add_gt (by omega), ← bit_test]
    exact h2 i (by omega)
  ·
   rw [if_neg e]
   have e2 : codeOf (plc P n) + codeOf ([] : List Int) = codeOf (plc P n) := by simp [codeOf]
   rw [e2]
   refine ⟨by rw [Nat.pow_succ]; omega, fun i hi => ?_⟩
   by_cases ei : i = n
   ·
    subst ei
    rw [bit_test, Nat.testBit_lt_two_pow h1]; simp [e]
   ·
    exact h2 i (by omega)
def mat (a b k : Nat) : Nat := if k = b then (if a > b then a - 1 else a) else if k > b then k - 1 else k
theorem sum_skip (f : Nat → Int) (b d : Nat) : sumN f 0 (b + (d + 1)) = sumN (fun j => f (if j < b then j else j + 1)) 0 (b + d) + f b := by
 rw [sumN_append f b 0 (d + 1), sumN_append (fun j => f (if j < b then j else j + 1)) b 0 d]
 simp only [Nat.zero_add]
 have e1 : sumN f 0 b = sumN (fun j => f (if j < b then j else j + 1)) 0 b := sumN_congr' _ _ _ _ (fun k h1 h2 => by rw [if_pos (by omega)])
 have e2 : sumN (fun j => f (if j < b then j else j + 1)) b d = sumN (fun j => f (j + 1)) b d := sumN_congr' _ _ _ _ (fun k h1 h2 => by rw [if_neg (by omega)])
 rw [e1, e2, sumN_shift f 1 d b]
 simp only [sumN]
 omega
theorem mrg_at (l : List Int) (a b j : Nat) (ha : a < l.length) (hb : b < l.length) : (mrg l a b).getD j 0 = (mset l a b).getD (if j < b then j else j + 1) 0 := by
 unfold mrg
 rw [List.getD_eq_getElem?_getD, List.getElem?_eraseIdx, List.getD_eq_getElem?_getD]
 by_cases e : j < b
 ·
  rw [if_pos e, if_pos e]
 ·
  rw [if_neg e, if_neg e]
theorem mrg_length (l : List Int) (a b : Nat) (hb : b < l.length) : (mrg l a b).length = l.length - 1 := by
 unfold mrg
 rw [List.length_eraseIdx, mset_len, if_pos hb]
theorem merge_sum (l : List Int) (a b : Nat) (ha : a < l.length) (hb : b < l.length) (hab : a ≠ b) (β : Nat → Int) :
  sumN (fun j => (mrg l a b).getD j 0 * β j) 0 (l.length - 1) = sumN (fun k => l.getD k 0 * β (mat a b k)) 0 l.length := by
 obtain ⟨d, hd⟩ : ∃ d, l.length = b + (d + 1) := ⟨l.length - b - 1, by omega⟩
 rw [hd, show b + (d + 1) - 1 = b + d by omega, sum_skip]
 have e1 : sumN (fun j => (mrg l a b).getD j 0 * β j) 0 (b + d) = sumN (fun j => l.getD (if j < b then j else j + 1) 0 * β (mat a b (if j < b then j else j + 1)) + (if j = (if a < b then a else a - 1) then l.getD b 0 * β j else 0)) 0 (b + d) := by
  refine sumN_congr' _ _ _ _ (fun j h1 h2 => ?_)
  have em : mat a b (if j < b then j else j + 1) = j := by
   unfold mat
   by_cases e : j < b
   ·
    rw [if_pos e, if_neg (by omega), if_neg (by omega)]
   ·
    rw [if_neg e, if_neg (by omega), if_pos (by omega)]; omega
  rw [em, mrg_at l a b j ha hb, mset_at l a b _ ha]
  by_cases e : j = (if a < b then a else a - 1)
  ·
   have e2 : (if j < b then j else j + 1) = a := by split at e <;> split <;> omega
   rw [if_pos e, e2, if_pos rfl, Int.add_mul]
  ·
   have e2 : (if j < b then j else j + 1) ≠ a := by split at e <;> split <;> omega
   rw [if_neg e, if_neg e2, Int.add_zero]
 have e2 : mat a b b = (if a < b then a else a - 1) := by
  unfold mat
  rw [if_pos rfl]
  by_cases e : a < b
  ·
   rw [if_pos e, if_neg (by omega)]
  ·
   rw [if_neg e, if_pos (by omega)]
 rw [e1, sumN_add, sumN_one (fun j => if j = (if a < b then a else a - 1) then l.getD b 0 * β j else 0) (if a < b then a else a - 1) (b + d) 0 (fun k _ _ hk => by simp only [if_neg hk]) (Nat.zero_le _) (by split <;> omega), e2]
 simp
theorem wsum_plc (l : List Int) (P : Nat → Bool) : wsum l (codeOf (plc P l.length)) = sumN (fun k => l.getD k 0 * (if P k = true then 1 else 0)) 0 l.length := by
 unfold wsum
 refine sumN_congr' _ _ _ _ (fun k h1 h2 => ?_)
 unfold wterm
 rw [(plc_code P l.length).2 k (by omega)]
 split <;> rfl
theorem merge_wins (l : List Int) (q : Int) (a b c : Nat) (ha : a < l.length) (hb : b < l.length) (hab : a ≠ b) (h1 : voteB l q = true) (h2 : voteB (mrg l a b) q = true) :
  winsWith (mrg l a b) q (plc (fun j => decide (bit c j = 1)) (mrg l a b).length) = winsWith l q (plc (fun k => decide (bit c (mat a b k) = 1)) l.length) := by
 unfold winsWith
 rw [if_pos ⟨h2, plc_set _ _⟩, if_pos ⟨h1, plc_set _ _⟩]
 unfold winB
 rw [wsum_plc, wsum_plc, mrg_length l a b hb, merge_sum l a b ha hb hab (fun j => if decide (bit c j = 1) = true then 1 else 0)]
theorem split_back (l : List Int) (q p : Int) (i : Nat) (hi : i < l.length) (h : voteB l q = true) (hp : 0 ≤ p ∧ p ≤ l.getD i 0) (h8 : l.length ≠ 8) :
  mergeV ((l ++ [l.getD i 0 - p]).set i p) q (i : Int) (l.length : Int) = (l, q, true) := by
 have hv := (voteB_iff l q).1 h
 have hat := hv.at_ i
 obtain ⟨S, hS⟩ : ∃ S, S = (l ++ [l.getD i 0 - p]).set i p := ⟨_, rfl⟩
 have hlen : S.length = l.length + 1 := by rw [hS]; simp
 have hgi : S.getD i 0 = p := by rw [hS, List.getD_eq_getElem?_getD, List.getElem?_set_self (by simp; omega)]; rfl
 have hgn : S.getD l.length 0 = l.getD i 0 - p := by
  rw [hS, List.getD_eq_getElem?_getD, List.getElem?_set_ne (by omega), List.getElem?_append_right (Nat.le_refl _), Nat.sub_self]; rfl
 have hm : mrg S i l.length = l := by
  unfold mrg mset
  rw [hgi, hgn, show p + (l.getD i 0 - p) = l.getD i 0 by omega, hS, List.set_set, List.set_append_left _ _ hi]
  rw [List.eraseIdx_append_of_length_le (by simp), List.length_set, Nat.sub_self]
  simp only [List.eraseIdx_cons_zero, List.append_nil]
  apply List.ext_getElem?
  intro n
  by_cases e : n = i
  ·
   subst e; rw [List.getElem?_set_self hi, List.getD_eq_getElem?_getD, List.getElem?_eq_getElem hi]; rfl
  ·
   rw [List.getElem?_set_ne (fun h => e h.symm)]
 have hmem : ∀ x ∈ S, 0 ≤ x ∧ x ≤ 20 := by
  intro x hx
  rw [hS] at hx
  rcases List.mem_or_eq_of_mem_set hx with hx | rfl
  ·
   rcases List.mem_append.1 hx with hx | hx
   ·
    exact hv.2.1 x hx
   ·
    rw [List.mem_singleton] at hx; omega
  ·
   omega
 have isum_app : ∀ a b : List Int, isum (a ++ b) = isum a + isum b := by
  intro a b
  induction a with
  | nil => simp [isum]
  | cons x a ih => simp only [List.cons_append, isum, ih]; omega
 have isum_set : ∀ (a : List Int) (n : Nat) (x : Int), n < a.length → isum (a.set n x) = isum a - a.getD n 0 + x := by
  intro a
  induction a with
  | nil => intro n x hn; simp at hn
  | cons y a ih =>
   intro n x hn
   cases n with
   | zero => simp only [List.set_cons_zero, isum, List.getD_cons_zero]; omega
   | succ n => simp only [List.set_cons_succ, isum, List.getD_cons_succ]; rw [ih n x (by simpa using hn)]; omega
 have hsum : isum S = isum l := by
  rw [hS, isum_set _ i p (by simp; omega), isum_app]
  have e : (l ++ [l.getD i 0 - p]).getD i 0 = l.getD i 0 := by
   rw [List.getD_eq_getElem?_getD, List.getElem?_append_left hi, ← List.getD_eq_getElem?_getD]
  rw [e]
  simp only [isum]; omega
 have hSv : voteB S q = true := (voteB_iff S q).2 ⟨by have := hv.1; omega, hmem, by rw [hsum]; exact hv.2.2⟩
 rw [← hS]
 unfold mergeV
 rw [if_pos ⟨hSv, by omega, by omega, by omega, by rw [Int.toNat_natCast, Int.toNat_natCast, hm]; exact h⟩, Int.toNat_natCast, Int.toNat_natCast, hm]
theorem rInts_l0 (a b : List Int) (hl : a.length = b.length) (hx : a.length ≤ 1048576) : ∀ (d i : Nat), i + d = a.length → Ev (fun k => laws_rInts.l0 k a b (i : Int)) (decide (a.drop i = b.drop i)) := by
 intro d
 induction d with
 | zero =>
  intro i hi
  refine Ev.step (fun k => laws_rInts.l0.eq_2 ..) (evn (by omega) (evs ?_))
  simp [List.drop_of_length_le (show a.length ≤ i by omega), List.drop_of_length_le (show b.length ≤ i by omega)]
 | succ d ih =>
  intro i hi
  refine Ev.step (fun k => laws_rInts.l0.eq_2 ..) (evp (by omega) (evp (by omega) (evp (by omega) ?_)))
  rw [w64s i (by omega), rd_nat, rd_nat, List.drop_eq_getElem_cons (show i < a.length by omega), List.drop_eq_getElem_cons (show i < b.length by omega)]
  have ea : a.getD i 0 = a[i] := by rw [List.getD_eq_getElem?_getD, List.getElem?_eq_getElem (show i < a.length by omega)]; rfl
  have eb : b.getD i 0 = b[i] := by rw [List.getD_eq_getElem?_getD, List.getElem?_eq_getElem (show i < b.length by omega)]; rfl
  rw [ea, eb]
  by_cases e : a[i] = b[i]
  ·
   refine evp e (evr (ih (i + 1) (by omega)) ?_)
   rw [e]; simp only [List.cons.injEq, true_and]
  ·
   refine evn e (evs ?_)
   simp only [List.cons.injEq, e, false_and, decide_false]
theorem rInts (a b : List Int) (hx : a.length ≤ 1048576) : Ev (fun k => laws_rInts.f k a b) (decide (a = b)) := by
 unfold laws_rInts.f
 by_cases h : a.length = b.length
 ·
  refine evp (by omega) (evr (rInts_l0 a b h hx a.length 0 (by omega)) (by simp))
 ·
  refine evn (by omega) (evs ?_)
  have : a ≠ b := fun e => h (by rw [e])
  simp [this]
theorem rVote (a : List Int) (q : Int) (hx : a.length ≤ 1048576) : Ev (fun k => laws_rVote.f k a q a q) true := by
 unfold laws_rVote.f
 exact evp rfl (evb (rInts a a hx) (evs (by simp)))
theorem fv_l2 (u m : List Int) (uq q a b : Int) (c : Nat) (hc : c < 1000) (hm : m.length ≤ 8) (s : List Int) (w : Bool) (hmw : Ev (fun k => impl_WinsWith.f k m q (plc (fun j => decide (bit c j = 1)) m.length)) (w, true)) (huw : Ev (fun k => impl_WinsWith.f k u uq s) (w, true))
  (hK : Ev (fun k => laws_FnVoters.l0 k a b ((c + 1 : Nat) : Int) u uq m q) true) : ∀ d j, j + d = m.length → Ev (fun k => laws_FnVoters.l2 k a b (c : Int) (plc (fun j => decide (bit c j = 1)) j) s (j : Int) u uq m q) true := by
 intro d
 induction d with
 | zero =>
  intro j hj
  obtain rfl : j = m.length := by omega
  refine Ev.step (fun k => laws_FnVoters.l2.eq_2 ..) (evn (by omega) (evb hmw (evb huw (evp rfl (evp rfl (evn (by simp) ?_))))))
  rw [w64s c (by omega)]; exact hK
 | succ d ih =>
  intro j hj
  have hnx := ih (j + 1) (by omega)
  have hln := plc_len (fun j => decide (bit c j = 1)) j
  rw [plc_succ] at hnx
  refine Ev.step (fun k => laws_FnVoters.l2.eq_2 ..) (evp (by omega) (evp (by omega) ?_))
  rw [digit c j (by omega) (by omega), w64s j (by omega)]
  by_cases e : bit c j = 1
  ·
   rw [if_pos (decide_eq_true e)] at hnx
   exact evp (by omega) (evp (by omega) hnx)
  ·
   rw [if_neg (by simpa using e), List.append_nil] at hnx
   exact evn (by omega) hnx
theorem fv_l1 (u m : List Int) (uq q : Int) (a b : Nat) (c : Nat) (hc : c < 1000) (hu : u.length ≤ 8) (ha : a < 8) (hb : b < 8)
  (hK : Ev (fun k => laws_FnVoters.l2 k (a : Int) (b : Int) (c : Int) [] (plc (fun k => decide (bit c (mat a b k) = 1)) u.length) 0 u uq m q) true) : ∀ d i, i + d = u.length → Ev (fun k => laws_FnVoters.l1 k (a : Int) (b : Int) (c : Int) [] (plc (fun k => decide (bit c (mat a b k) = 1)) i) (i : Int) u uq m q) true := by
 intro d
 induction d with
 | zero =>
  intro i hi
  obtain rfl : i = u.length := by omega
  exact Ev.step (fun k => laws_FnVoters.l1.eq_2 ..) (evn (by omega) hK)
 | succ d ih =>
  intro i hi
  have hnx := ih (i + 1) (by omega)
  have hln := plc_len (fun k => decide (bit c (mat a b k) = 1)) i
  rw [plc_succ] at hnx
  have go : ∀ (x : Int) (n : Nat), mat a b i = n → x = (n : Int) → n ≤ 8 → Ev (fun k => if 0 ≤ x then (if (Go.bits .and .i64 (shr .i64 (c : Int) x) 1) = 1 then (if (plc (fun k => decide (bit c (mat a b k) = 1)) i).length < 17592186044416 then (laws_FnVoters.l1 k (a : Int) (b : Int) (c : Int) [] (plc (fun k => decide (bit c (mat a b k) = 1)) i ++ [(i : Int)]) (wrap64 ((i : Int) + 1)) u uq m q) else none) else (laws_FnVoters.l1 k (a : Int) (b : Int) (c : Int) [] (plc (fun k => decide (bit c (mat a b k) = 1)) i) (wrap64 ((i : Int) + 1)) u uq m q)) else none) true := by
   intro x n hn hx hn8
   subst hx
   refine evp (by omega) ?_
   rw [digit c n (by omega) (by omega), w64s i (by omega)]
   rw [hn] at hnx
   by_cases e : bit c n = 1
   ·
    rw [if_pos (decide_eq_true e)] at hnx
    exact evp (by omega) (evp (by omega) hnx)
   ·
    rw [if_neg (by simpa using e), List.append_nil] at hnx
    exact evn (by omega) hnx
  have hj : ∀ y : Int, (i ≠ b → y = ((if i > b then i - 1 else i : Nat) : Int)) → Ev (fun k => laws_FnVoters.j5 k (a : Int) (b : Int) (c : Int) [] (plc (fun k => decide (bit c (mat a b k) = 1)) i) (i : Int) y u uq m q) true := by
   intro y hy
   refine Ev.step (fun k => laws_FnVoters.j5.eq_2 ..) ?_
   by_cases e : i = b
   ·
    refine evp (by omega) ?_
    by_cases e2 : a > b
    ·
     refine evp (by omega) ?_
     exact go _ (a - 1) (by unfold mat; rw [if_pos e, if_pos e2]) (by rw [w64 (by omega) (by omega)]; omega) (by omega)
    ·
     refine evn (by omega) ?_
     exact go _ a (by unfold mat; rw [if_pos e, if_neg e2]) rfl (by omega)
   ·
    refine evn (by omega) ?_
    exact go _ (if i > b then i - 1 else i) (by unfold mat; rw [if_neg e]) (hy e) (by split <;> omega)
  refine Ev.step (fun k => laws_FnVoters.l1.eq_2 ..) (evp (by omega) ?_)
  by_cases e : i > b
  ·
   refine evp (by omega) (hj _ (fun _ => ?_))
   rw [if_pos e, w64 (by omega) (by omega)]; omega
  ·
   refine evn (by omega) (hj _ (fun _ => ?_))
   rw [if_neg e]
theorem fv_l0 (u : List Int) (q : Int) (a b : Nat) (ha : a < u.length) (hb : b < u.length) (hab : a ≠ b) (h1 : voteB u q = true) (h2 : voteB (mrg u a b) q = true) : ∀ (d c : Nat), c + d = 2 ^ (mrg u a b).length → Ev (fun k => laws_FnVoters.l0 k (a : Int) (b : Int) (c : Int) u q (mrg u a b) q) true := by
 have hu8 := ((voteB_iff _ _).1 h1).1
 have hm8 := ((voteB_iff _ _).1 h2).1
 have hp := pow8 (mrg u a b).length hm8.2
 intro d
 induction d with
 | zero =>
  intro c hc
  refine Ev.step (fun k => laws_FnVoters.l0.eq_2 ..) (evn ?_ (evs rfl))
  rw [shl1 _ (by omega)]; omega
 | succ d ih =>
  intro c hc
  refine Ev.step (fun k => laws_FnVoters.l0.eq_2 ..) (evp ?_ ?_)
  ·
   rw [shl1 _ (by omega)]; omega
  ·
   have hw := merge_wins u q a b c ha hb hab h1 h2
   have lm := plc_len (fun j => decide (bit c j = 1)) (mrg u a b).length
   have lu := plc_len (fun k => decide (bit c (mat a b k) = 1)) u.length
   have w1 := iWinsW (mrg u a b) q (plc (fun j => decide (bit c j = 1)) (mrg u a b).length) (by omega) (by omega)
   have w2 := iWinsW u q (plc (fun k => decide (bit c (mat a b k) = 1)) u.length) (by omega) (by omega)
   rw [hw] at w1
   have hok : ∃ w, winsWith u q (plc (fun k => decide (bit c (mat a b k) = 1)) u.length) = (w, true) := by
    unfold winsWith
    rw [if_pos ⟨h1, plc_set _ _⟩]; exact ⟨_, rfl⟩
   obtain ⟨w, hw2⟩ := hok
   rw [hw2] at w1 w2
   have s2 := fv_l2 u (mrg u a b) q q (a : Int) (b : Int) c (by omega) (by omega) _ w w1 w2 (ih (c + 1) (by omega)) (mrg u a b).length 0 (by omega)
   have s1 := fv_l1 u (mrg u a b) q q a b c (by omega) (by omega) (by omega) (by omega) (by simpa [plc] using s2) u.length 0 (by omega)
   simpa [plc] using s1
theorem law (l0 : List Int) (hb : ∀ x ∈ l0, (Lit.int .u8 x).wf = true) : Ev (fun k => laws_FnVoters.f k l0) true := by
 unfold laws_FnVoters.f laws_rBig.f
 simp only [Option.bind_some]
 by_cases c : (l0.length : Int) > 65536
 ·
  exact evp (decide_eq_true c) (evs rfl)
 have hl := cur_ok l0 (by omega) hb
 refine evn (by simpa using c) ?_
 obtain ⟨⟨v, vq, i, p⟩, hd, hv9⟩ := dSplit hl
 obtain ⟨⟨u, uq, a, b⟩, hd2, hu9⟩ := dMerge hl
 simp only at hv9 hu9
 have i1 := iSplit v vq i p (by omega)
 have s1 := sSplit v vq i p (by omega)
 have i2 := iMerge u uq a b (by omega)
 have s2 := sMerge u uq a b (by omega)
 have l1 : (splitV v vq i p).1.length ≤ 10 := by unfold splitV; split <;> simp <;> omega
 have l2 := mergeV_len u uq a b
 have e2 : Ev (fun k => laws_FnVoters.j2 k a b (mergeV u uq a b).2.2 u uq (mergeV u uq a b).1 (mergeV u uq a b).2.1) true := by
  refine Ev.step (fun k => laws_FnVoters.j2.eq_2 ..) ?_
  unfold mergeV
  by_cases h : voteB u uq = true ∧ (0 ≤ a ∧ a ≤ u.length - 1) ∧ (0 ≤ b ∧ b ≤ u.length - 1) ∧ a ≠ b ∧ voteB (mrg u a.toNat b.toNat) uq = true
  ·
   rw [if_pos h]
   obtain ⟨A, rfl⟩ := Int.eq_ofNat_of_zero_le h.2.1.1
   obtain ⟨B, rfl⟩ := Int.eq_ofNat_of_zero_le h.2.2.1.1
   obtain ⟨g1, g2, g3, g4, g5⟩ := h
   rw [Int.toNat_natCast, Int.toNat_natCast] at g5 ⊢
   exact evp rfl (fv_l0 u uq A B (by omega) (by omega) (by omega) g1 g5 (2 ^ (mrg u A B).length) 0 (by omega))
  ·
   rw [if_neg h]
   exact evn (by simp) (evs rfl)
 have e1 : Ev (fun k => laws_FnVoters.j1 k i (splitV v vq i p).2.2 a b (mergeV u uq a b).2.2 (!true) v vq (splitV v vq i p).1 (splitV v vq i p).2.1 u uq (mergeV u uq a b).1 (mergeV u uq a b).2.1) true := by
  refine Ev.step (fun k => laws_FnVoters.j1.eq_2 ..) (evn (by simp) ?_)
  by_cases h : voteB v vq = true ∧ (0 ≤ i ∧ i ≤ v.length - 1) ∧ (0 ≤ p ∧ p ≤ v.getD i.toNat 0) ∧ v.length ≠ 8
  ·
   have es : splitV v vq i p = ((v ++ [v.getD i.toNat 0 - p]).set i.toNat p, vq, true) := by unfold splitV; rw [if_pos h]
   rw [es]
   obtain ⟨I, rfl⟩ := Int.eq_ofNat_of_zero_le h.2.1.1
   obtain ⟨g1, g2, g3, g4⟩ := h
   rw [Int.toNat_natCast] at g3 ⊢
   have hb2 := split_back v vq p I (by omega) g1 g3 g4
   have im := iMerge ((v ++ [v.getD I 0 - p]).set I p) vq (I : Int) (v.length : Int) (by simp; omega)
   rw [hb2] at im
   exact evp rfl (evb im (evp rfl (evb (rVote v vq (by omega)) (evp rfl e2))))
  ·
   have es : splitV v vq i p = ([], 0, false) := by unfold splitV; rw [if_neg h]
   rw [es]
   exact evn (by simp) e2
 refine evb hd (evb i1 (evb s1 (evn (by simp) (evb (rVote _ _ (by omega)) ?_))))
 refine Ev.step (fun k => laws_FnVoters.j0.eq_2 ..) (evn (by simp) (evb hd2 (evb i2 (evb s2 (evn (by simp) (evb (rVote _ _ (by omega)) e1))))))
end Go.Proofs.Ytoecohjjbgenbaa.LFnVoters
