-- Own text.
import Derived.Test.YtkgekmpnbhomgaaDoorMFnVotesx16
import Derived.Test.YtkgekmpnbhomgaaDoorZFnVotesBase
namespace Go.Proofs.YtkgekmpnbhomgaaDoor.LFnVotes
open Go Go.RowKit Go.Proofs.YtkgekmpnbhomgaaDoor.Base Go.Proofs.YtkgekmpnbhomgaaDoor.PFnVotes Go.Proofs.YtkgekmpnbhomgaaDoorW.PrintWords Go.Proofs.YtkgekmpnbhomgaaDoorW.PrintLast Go.Proofs.YtkgekmpnbhomgaaDoorW.PrintMore
set_option linter.unusedVariables false
set_option linter.unusedSimpArgs false
set_option maxRecDepth 4000
abbrev qA := @List.getD_eq_getElem?_getD
abbrev qB := @List.drop_eq_getElem_cons
abbrev qC := @List.getElem?_eq_getElem
abbrev qD := @List.drop_of_length_le
abbrev qF := @List.range'_succ
abbrev qG := @Option.bind_some
abbrev qH := @Int.toNat_natCast
abbrev qK := @List.range_eq_range'
abbrev qL := @Int.eq_ofNat_of_zero_le
abbrev qM := @List.getElem_mem
abbrev qN := @List.all_eq_true
theorem zJ (a b c : Int) : spec_l1In.f a b c = some (decide (b ≤ a ∧ a ≤ c)) := by
 unfold spec_l1In.f; split <;> simp_all <;> omega
theorem zT (a b c : Int) : impl_within.f a b c = some (decide (b ≤ a ∧ a ≤ c)) := by
 unfold impl_within.f; split <;> simp_all <;> omega
theorem zU (lo up : Int) (l : List Int) (hx : l.length < 4611686018427387904) : ∀ (d i : Nat), i + d = l.length →
  Ev (fun k => impl_allWithin.l0 k lo up l (l.length : Int) (i : Int)) ((l.drop i).all fun x => decide (lo ≤ x ∧ x ≤ up)) := by
 intro d
 induction d with
 | zero =>
  intro i hi
  refine Ev.step (fun k => impl_allWithin.l0.eq_2 ..) (evn (by omega) (evs ?_))
  simp [qD (show l.length ≤ i by omega)]
 | succ d ih =>
  intro i hi
  refine Ev.step (fun k => impl_allWithin.l0.eq_2 ..) (evp (by omega) (evp (by omega) (evp (by omega) ?_)))
  rw [w64s i (by omega), rd_nat, zT, qB (show i < l.length by omega)]
  simp only [qA, qC (show i < l.length by omega), Option.getD_some, qG, List.all_cons]
  by_cases e : lo ≤ l[i] ∧ l[i] ≤ up
  ·
   refine evp (by simpa using e) (evr (ih (i + 1) (by omega)) (by simp [e]))
  ·
   refine evn (by simpa using e) (evs (by simp [e]))
theorem zN (l : List Int) (lo up : Int) (hx : l.length < 4611686018427387904) : Ev (fun k => impl_allWithin.f k l lo up) (l.all fun x => decide (lo ≤ x ∧ x ≤ up)) := by
 unfold impl_allWithin.f
 exact zU lo up l hx l.length 0 (by omega)
theorem qy (l : List Int) (q : Int) (hl : l.length < 4611686018427387904) : ∀ (d i : Nat) (s : Int), i + d = l.length → i ≤ 9 → 0 ≤ s → s ≤ 20 * i →
  Ev (fun k => spec_l6Vote.l0 k s (i : Int) l q) (decide (1 ≤ l.length ∧ l.length ≤ 8) && (okW (l.drop i) && decide (1 ≤ q ∧ q ≤ s + isum (l.drop i)))) := by
 intro d
 induction d with
 | zero =>
  intro i s hi h9 hs0 hs
  have hd : l.drop i = [] := qD (by omega)
  refine Ev.step (fun k => spec_l6Vote.l0.eq_2 ..) (evn (by omega) (Ev.step (fun k => spec_l6Vote.j1.eq_2 ..) (evn (by simp) ?_)))
  rw [zJ, zJ]; simp only [qG]
  by_cases e : 1 ≤ l.length ∧ l.length ≤ 8
  ·
   refine evp (by simp; omega) (evs ?_)
   rw [hd, decide_eq_true e]; simp [okW, isum]
  ·
   refine evn (by simp; omega) (evs ?_)
   rw [decide_eq_false e]; simp
 | succ d ih =>
  intro i s hi h9 hs0 hs
  have hd := qB (show i < l.length by omega)
  refine Ev.step (fun k => spec_l6Vote.l0.eq_2 ..) (evp (by omega) (Ev.step (fun k => spec_l6Vote.j1.eq_2 ..) ?_))
  by_cases e8 : i ≤ 8
  ·
   refine evp (by simp; omega) (evp (by omega) (evp (by omega) ?_))
   rw [zJ, rd_nat, w64s i (by omega)]
   simp only [qA, qC (show i < l.length by omega), Option.getD_some, qG]
   by_cases e : 0 ≤ l[i] ∧ l[i] ≤ 20
   ·
    refine evp (by simpa using e) ?_
    rw [w64 (x := s + l[i]) (by omega) (by omega)]
    refine evr (ih (i + 1) _ (by omega) (by omega) (by omega) (by omega)) ?_
    rw [hd, show s + isum (l[i] :: l.drop (i + 1)) = s + l[i] + isum (l.drop (i + 1)) by simp only [isum]; omega]; simp only [okW, List.all_cons, decide_eq_true e, Bool.true_and]
   ·
    refine evn (by simpa using e) (evs ?_)
    rw [hd]; simp only [okW, List.all_cons, decide_eq_false e, Bool.false_and, Bool.and_false]
  ·
   refine evn (by simp; omega) ?_
   rw [zJ, zJ]; simp only [qG]
   have e : ¬ (1 ≤ l.length ∧ l.length ≤ 8) := by omega
   refine evn (by simp; omega) (evs ?_)
   rw [decide_eq_false e]; simp
theorem zl (l : List Int) (q : Int) (hl : l.length < 4611686018427387904) : Ev (fun k => spec_l6Vote.f k l q) (voteB l q) := by
 unfold spec_l6Vote.f
 exact evr (qy l q hl l.length 0 0 (by omega) (by omega) (by omega) (by omega)) (by simp [voteB])
theorem jb (l : List Int) (b : Int) (hb : 0 ≤ b ∧ b ≤ 1000000000000) (hx : ∀ x ∈ l, -b ≤ x ∧ x ≤ b) (hl : l.length ≤ 1048576) : ∀ (d i : Nat) (s : Int), i + d = l.length → -(b * i) ≤ s → s ≤ b * i →
  Ev (fun k => impl_total.l0 k s l (l.length : Int) (i : Int)) (s + isum (l.drop i)) := by
 intro d
 induction d with
 | zero =>
  intro i s hi hs0 hs
  have hd : l.drop i = [] := qD (by omega)
  exact Ev.step (fun k => impl_total.l0.eq_2 ..) (evn (by omega) (evs (by rw [hd]; simp [isum])))
 | succ d ih =>
  intro i s hi hs0 hs
  have hd := qB (show i < l.length by omega)
  have hi' := hx l[i] (qM (by omega))
  have hbi : b * (i : Int) ≤ 1000000000000 * 1048576 := Int.mul_le_mul hb.2 (by omega) (by omega) (by omega)
  have hbs : b * ((i + 1 : Nat) : Int) = b * i + b := by rw [show ((i + 1 : Nat) : Int) = (i : Int) + 1 by omega, Int.mul_add]; omega
  refine Ev.step (fun k => impl_total.l0.eq_2 ..) (evp (by omega) (evp (by omega) (evp (by omega) ?_)))
  rw [rd_nat, w64s i (by omega)]
  simp only [qA, qC (show i < l.length by omega), Option.getD_some]
  rw [w64 (x := s + l[i]) (by omega) (by omega)]
  refine evr (ih (i + 1) _ (by omega) (by omega) (by omega)) ?_
  rw [hd]; simp only [isum, Int.add_assoc]
theorem jw (l : List Int) (b : Int) (hb : 0 ≤ b ∧ b ≤ 1000000000000) (hx : ∀ x ∈ l, -b ≤ x ∧ x ≤ b) (hl : l.length ≤ 1048576) : Ev (fun k => impl_total.f k l) (isum l) := by
 unfold impl_total.f
 exact evr (jb l b hb hx hl l.length 0 0 (by omega) (by simp) (by simp)) (by simp)
theorem zf (l : List Int) (q : Int) (hl : l.length < 4611686018427387904) : Ev (fun k => impl_IsVote.f k l q) (voteB l q) := by
 unfold impl_IsVote.f voteB
 rw [zT]; simp only [qG]
 by_cases e : 1 ≤ l.length ∧ l.length ≤ 8
 ·
  refine evp (by simp; omega) (evb (zN l 0 20 hl) ?_)
  rw [decide_eq_true e, Bool.true_and]
  by_cases e' : okW l = true
  ·
   refine evp e' (evb (jw l 20 (by omega) (fun x hx => ?_) (by omega)) (evb (evc (zT ..)) (evs ?_)))
   ·
    have := (List.all_eq_true.1 e') x hx; simp at this; omega
   ·
    rw [e', Bool.true_and]
  ·
   exact evn e' (evs (by simp [e']))
 ·
  exact evn (by simp; omega) (evs (by simp [e]))
theorem qz {l : List Int} {q : Int} (h : Vot l q) (c : Nat) (hc : c < 2 ^ l.length) (out : List Bool) (ho : out.length = c) (r : List Bool)
  (hr : Ev (fun k => spec_l6Wins.l0 k (out ++ [winB l q c]) ((c + 1 : Nat) : Int) l q) r) : ∀ (d i : Nat) (s : Int), i + d = l.length → 0 ≤ s → s ≤ 20 * i → s + sumN (wterm l c) i d = wsum l c →
  Ev (fun k => spec_l6Wins.l1 k out (c : Int) s (i : Int) l q) r := by
 have h8 := h.1
 have hp := pow8 l.length h8.2
 intro d
 induction d with
 | zero =>
  intro i s hi h0 hs he
  refine Ev.step (fun k => spec_l6Wins.l1.eq_2 ..) (evn (by omega) (evp (by omega) ?_))
  rw [w64s c (by omega)]
  simp only [sumN, Int.add_zero] at he
  subst he
  exact hr
 | succ d ih =>
  intro i s hi h0 hs he
  have ht := h.wterm c i
  refine Ev.step (fun k => spec_l6Wins.l1.eq_2 ..) (evp (by omega) (evp (by omega) ?_))
  rw [digit c i (by omega) (by omega), rd_nat, w64s i (by omega), show l.getD i 0 * ((bit c i : Nat) : Int) = wterm l c i from rfl, w64 (x := wterm l c i) (by omega) (by omega), w64 (x := s + wterm l c i) (by omega) (by omega)]
  refine ih (i + 1) _ (by omega) (by omega) (by omega) ?_
  rw [← he]; simp only [sumN]; omega
theorem qE {l : List Int} {q : Int} (h : Vot l q) : ∀ (d c : Nat) (out : List Bool), c + d = 2 ^ l.length → out.length = c →
  Ev (fun k => spec_l6Wins.l0 k out (c : Int) l q) (out ++ (List.range' c d).map (winB l q)) := by
 have h8 := h.1
 have hp := pow8 l.length h8.2
 intro d
 induction d with
 | zero =>
  intro c out hc ho
  refine Ev.step (fun k => spec_l6Wins.l0.eq_2 ..) ?_
  rw [shl1 l.length (by omega)]
  exact evn (by omega) (evs (by simp))
 | succ d ih =>
  intro c out hc ho
  refine Ev.step (fun k => spec_l6Wins.l0.eq_2 ..) ?_
  rw [shl1 l.length (by omega)]
  refine evp (by omega) (evr (qz h c (by omega) out ho _ (ih (c + 1) _ (by omega) (by simp; omega)) l.length 0 0 (by omega) (by omega) (by omega) (by simp [wsum])) ?_)
  simp [qF]
theorem zx {l : List Int} {q : Int} (h : Vot l q) : Ev (fun k => spec_l6Wins.f k l q) ((List.range (2 ^ l.length)).map (winB l q)) := by
 unfold spec_l6Wins.f
 refine evr (qE h (2 ^ l.length) 0 [] (by omega) rfl) ?_
 rw [qK]; rfl
theorem jA {l : List Int} {q : Int} (h : Vot l q) (c : Nat) (hc : c < 2 ^ 62) : ∀ (d i : Nat) (s : Int), i + d = l.length → 0 ≤ s → s ≤ 20 * i → s + sumN (wterm l c) i d = wsum l c →
  Ev (fun k => impl_Vote_wins.l0 k (c : Int) s l (l.length : Int) (i : Int) l q) (winB l q c) := by
 have h8 := h.1
 intro d
 induction d with
 | zero =>
  intro i s hi h0 hs he
  refine Ev.step (fun k => impl_Vote_wins.l0.eq_2 ..) (evn (by omega) (evs ?_))
  simp only [sumN, Int.add_zero] at he
  subst he
  rfl
 | succ d ih =>
  intro i s hi h0 hs he
  have ht := h.wterm c i
  refine Ev.step (fun k => impl_Vote_wins.l0.eq_2 ..) (evp (by omega) (evp (by omega) (evp (by omega) ?_)))
  rw [digit c i (by omega) (by omega), rd_nat, w64s i (by omega), show l.getD i 0 * ((bit c i : Nat) : Int) = wterm l c i from rfl, w64 (x := wterm l c i) (by omega) (by omega), w64 (x := s + wterm l c i) (by omega) (by omega)]
  refine ih (i + 1) _ (by omega) (by omega) (by omega) ?_
  rw [← he]; simp only [sumN]; omega
theorem zK {l : List Int} {q : Int} (h : Vot l q) (c : Nat) (hc : c < 2 ^ 62) : Ev (fun k => impl_Vote_wins.f k l q (c : Int)) (winB l q c) := by
 unfold impl_Vote_wins.f
 exact jA h c hc l.length 0 0 (by omega) (by omega) (by omega) (by simp [wsum])
theorem zV {l : List Int} (q : Int) (h : l.length ≤ 8) : impl_Vote_all.f l q = some (((2 ^ l.length : Nat) : Int) - 1) := by
 unfold impl_Vote_all.f
 have hp := pow8 l.length h
 rw [shl1 l.length (by omega), w64 (by omega) (by omega)]
theorem qo (f : Nat → Bool) (n : Nat) (hn : n < 1000000) : ∀ (d c : Nat), c + d = n →
  Ev (fun k => spec_IsStrong.l0 k ((List.range n).map f) (c : Int)) ((List.range' c d).all fun c => f c || f (n - 1 - c), true) := by
 intro d
 induction d with
 | zero =>
  intro c hc
  exact Ev.step (fun k => spec_IsStrong.l0.eq_2 ..) (evn (by simp; omega) (evs (by simp)))
 | succ d ih =>
  intro c hc
  refine Ev.step (fun k => spec_IsStrong.l0.eq_2 ..) (evp (by simp; omega) (evp (by omega) ?_))
  rw [show (((List.range n).map f).length : Int) = (n : Int) by simp, w64 (x := (n : Int) - 1) (by omega) (by omega), w64 (x := (n : Int) - 1 - (c : Int)) (by omega) (by omega), show (n : Int) - 1 - (c : Int) = ((n - 1 - c : Nat) : Int) by omega, w64s c (by omega), rdOf_map f n c (by omega), rdOf_map f n (n - 1 - c) (by omega)]
  by_cases e : f c = true
  ·
   exact evp e (evr (ih (c + 1) (by omega)) (by simp [qF, e]))
  ·
   refine evn e (evp (by omega) (evp (by omega) ?_))
   by_cases e' : f (n - 1 - c) = true
   ·
    exact evp e' (evr (ih (c + 1) (by omega)) (by simp [qF, e']))
   ·
    exact evn e' (evs (by simp [qF, e, e']))
theorem jB (l : List Int) (q : Int) (hl : l.length < 4611686018427387904) : Ev (fun k => spec_IsStrong.f k l q) (strongB l q) := by
 unfold spec_IsStrong.f strongB
 refine evb (zl l q hl) ?_
 by_cases e : voteB l q = true
 ·
  have h := (voteB_iff l q).1 e
  have hp := pow8 l.length h.1.2
  refine evp e (evb (zx h) (evr (qo _ (2 ^ l.length) (by omega) (2 ^ l.length) 0 (by omega)) ?_))
  rw [if_pos e, qK]
 ·
  exact evn e (evs (by rw [if_neg e]))
theorem qp {l : List Int} {q : Int} (h : Vot l q) : ∀ (d c : Nat), c + d = 2 ^ l.length →
  Ev (fun k => impl_IsStrong.l0 k ((2 ^ l.length : Nat) : Int) (c : Int) l q) ((List.range' c d).all fun c => winB l q c || winB l q (2 ^ l.length - 1 - c), true) := by
 have h8 := h.1
 have hp := pow8 l.length h8.2
 intro d
 induction d with
 | zero =>
  intro c hc
  exact Ev.step (fun k => impl_IsStrong.l0.eq_2 ..) (evn (by omega) (evs (by simp)))
 | succ d ih =>
  intro c hc
  refine Ev.step (fun k => impl_IsStrong.l0.eq_2 ..) (evp (by omega) (evb (zK h c (by omega)) ?_))
  rw [w64s c (by omega)]
  by_cases e : winB l q c = true
  ·
   exact evp e (evr (ih (c + 1) (by omega)) (by simp [qF, e]))
  ·
   refine evn e (evb (evc (zV q h8.2)) ?_)
   rw [andnot l.length c h8.2 (by omega)]
   refine evb (zK h (2 ^ l.length - 1 - c) (by omega)) ?_
   by_cases e' : winB l q (2 ^ l.length - 1 - c) = true
   ·
    exact evp e' (evr (ih (c + 1) (by omega)) (by simp [qF, e']))
   ·
    exact evn e' (evs (by simp [qF, e, e']))
theorem jC (l : List Int) (q : Int) (hl : l.length < 4611686018427387904) : Ev (fun k => impl_IsStrong.f k l q) (strongB l q) := by
 unfold impl_IsStrong.f strongB
 refine evb (zf l q hl) ?_
 by_cases e : voteB l q = true
 ·
  have h := (voteB_iff l q).1 e
  have hp := pow8 l.length h.1.2
  refine evp e (evb (evc (zV q h.1.2)) ?_)
  rw [w64 (x := ((2 ^ l.length : Nat) : Int) - 1 + 1) (by omega) (by omega), show ((2 ^ l.length : Nat) : Int) - 1 + 1 = ((2 ^ l.length : Nat) : Int) by omega]
  refine evr (qp h (2 ^ l.length) 0 (by omega)) ?_
  rw [if_pos e, qK]
 ·
  exact evn e (evs (by rw [if_neg e]))
theorem qe (f : Nat → Bool) (n : Nat) (hn : n < 1000000) : ∀ (d c : Nat), c + d = n →
  Ev (fun k => spec_l6Proper.l0 k ((List.range n).map f) (c : Int)) ((List.range' c d).all fun c => !(f c && f (n - 1 - c))) := by
 intro d
 induction d with
 | zero =>
  intro c hc
  exact Ev.step (fun k => spec_l6Proper.l0.eq_2 ..) (evn (by simp; omega) (evs (by simp)))
 | succ d ih =>
  intro c hc
  refine Ev.step (fun k => spec_l6Proper.l0.eq_2 ..) (evp (by simp; omega) (evp (by omega) ?_))
  rw [show (((List.range n).map f).length : Int) = (n : Int) by simp, w64 (x := (n : Int) - 1) (by omega) (by omega), w64 (x := (n : Int) - 1 - (c : Int)) (by omega) (by omega), show (n : Int) - 1 - (c : Int) = ((n - 1 - c : Nat) : Int) by omega, w64s c (by omega), rdOf_map f n c (by omega), rdOf_map f n (n - 1 - c) (by omega)]
  by_cases e : f c = true
  ·
   refine evp e (evp (by omega) (evp (by omega) ?_))
   by_cases e' : f (n - 1 - c) = true
   ·
    exact evp e' (evs (by simp [qF, e, e']))
   ·
    exact evn e' (evr (ih (c + 1) (by omega)) (by simp [qF, e']))
  ·
   exact evn e (evr (ih (c + 1) (by omega)) (by simp [qF, e]))
theorem jc {l : List Int} {q : Int} (h : Vot l q) : Ev (fun k => spec_l6Proper.f k l q) ((List.range (2 ^ l.length)).all fun c => !(winB l q c && winB l q (2 ^ l.length - 1 - c))) := by
 unfold spec_l6Proper.f
 have hp := pow8 l.length h.1.2
 refine evb (zx h) (evr (qe _ (2 ^ l.length) (by omega) (2 ^ l.length) 0 (by omega)) ?_)
 rw [qK]
theorem jD (l : List Int) (q : Int) (hl : l.length < 4611686018427387904) : Ev (fun k => spec_IsProper.f k l q) (properB l q) := by
 unfold spec_IsProper.f properB
 refine evb (zl l q hl) ?_
 by_cases e : voteB l q = true
 ·
  exact evp e (evb (jc ((voteB_iff l q).1 e)) (evs (by rw [if_pos e])))
 ·
  exact evn e (evs (by rw [if_neg e]))
theorem qq {l : List Int} {q : Int} (h : Vot l q) : ∀ (d c : Nat), c + d = 2 ^ l.length →
  Ev (fun k => impl_IsProper.l0 k ((2 ^ l.length : Nat) : Int) (c : Int) l q) ((List.range' c d).all fun c => !(winB l q c && winB l q (2 ^ l.length - 1 - c)), true) := by
 have h8 := h.1
 have hp := pow8 l.length h8.2
 intro d
 induction d with
 | zero =>
  intro c hc
  exact Ev.step (fun k => impl_IsProper.l0.eq_2 ..) (evn (by omega) (evs (by simp)))
 | succ d ih =>
  intro c hc
  refine Ev.step (fun k => impl_IsProper.l0.eq_2 ..) (evp (by omega) (evb (zK h c (by omega)) ?_))
  rw [w64s c (by omega)]
  by_cases e : winB l q c = true
  ·
   refine evp e (evb (evc (zV q h8.2)) ?_)
   rw [andnot l.length c h8.2 (by omega)]
   refine evb (zK h (2 ^ l.length - 1 - c) (by omega)) ?_
   by_cases e' : winB l q (2 ^ l.length - 1 - c) = true
   ·
    exact evp e' (evs (by simp [qF, e, e']))
   ·
    exact evn e' (evr (ih (c + 1) (by omega)) (by simp [qF, e']))
  ·
   exact evn e (evr (ih (c + 1) (by omega)) (by simp [qF, e]))
theorem qj (l : List Int) (q : Int) (hl : l.length < 4611686018427387904) : Ev (fun k => impl_IsProper.f k l q) (properB l q) := by
 unfold impl_IsProper.f properB
 refine evb (zf l q hl) ?_
 by_cases e : voteB l q = true
 ·
  have h := (voteB_iff l q).1 e
  have hp := pow8 l.length h.1.2
  refine evp e (evb (evc (zV q h.1.2)) ?_)
  rw [w64 (x := ((2 ^ l.length : Nat) : Int) - 1 + 1) (by omega) (by omega), show ((2 ^ l.length : Nat) : Int) - 1 + 1 = ((2 ^ l.length : Nat) : Int) by omega]
  refine evr (qq h (2 ^ l.length) 0 (by omega)) ?_
  rw [if_pos e, qK]
 ·
  exact evn e (evs (by rw [if_neg e]))
theorem jZ (l : List Int) (h : l.length < 17592186044416) : spec_l1Own.f l = some l := by
 unfold spec_l1Own.f
 simp only [qG]
 rw [if_pos (by simpa using h)]; rfl
theorem jL (l : List Int) (h : l.length < 17592186044416) : impl_copied.f l = some l := by
 unfold impl_copied.f
 simp only [qG]
 rw [if_pos (by simpa using h)]; rfl
theorem jd {l : List Int} {q : Int} (h : Vot l q) : ∀ (d i : Nat) (s : Int), i + d = l.length → 0 ≤ s → s ≤ 20 * i →
  Ev (fun k => spec_l6Sum.l0 k s (i : Int) l q) (s + isum (l.drop i)) := by
 have h8 := h.1
 intro d
 induction d with
 | zero =>
  intro i s hi h0 hs
  have hd : l.drop i = [] := qD (by omega)
  exact Ev.step (fun k => spec_l6Sum.l0.eq_2 ..) (evn (by omega) (evs (by rw [hd]; simp [isum])))
 | succ d ih =>
  intro i s hi h0 hs
  have hd := qB (show i < l.length by omega)
  have hi' := h.2.1 l[i] (qM (by omega))
  refine Ev.step (fun k => spec_l6Sum.l0.eq_2 ..) (evp (by omega) (evp (by omega) ?_))
  rw [rd_nat, w64s i (by omega)]
  simp only [qA, qC (show i < l.length by omega), Option.getD_some]
  rw [w64 (x := s + l[i]) (by omega) (by omega)]
  refine evr (ih (i + 1) _ (by omega) (by omega) (by omega)) ?_
  rw [hd]; simp only [isum, Int.add_assoc]
theorem ka {l : List Int} {q : Int} (h : Vot l q) : Ev (fun k => spec_l6Sum.f k l q) (isum l) := by
 unfold spec_l6Sum.f
 exact evr (jd h l.length 0 0 (by omega) (by omega) (by omega)) (by simp)
theorem jM {l : List Int} {q : Int} (h : Vot l q) : Ev (fun k => spec_l6Dual.f k l q) (l, isum l + 1 - q) := by
 unfold spec_l6Dual.f
 have h8 := h.1; have hs := h.sum; have hq := h.2.2
 rw [jZ l (by omega)]; simp only [qG]
 refine evb (ka h) (evs ?_)
 rw [w64 (x := isum l + 1) (by omega) (by omega), w64 (x := isum l + 1 - q) (by omega) (by omega)]
theorem kb (l : List Int) (q : Int) (hl : l.length < 4611686018427387904) : Ev (fun k => spec_DualVote.f k l q) (dualV l q) := by
 unfold spec_DualVote.f dualV
 refine evb (zl l q hl) ?_
 by_cases e : voteB l q = true
 ·
  exact evp e (evb (jM ((voteB_iff l q).1 e)) (evs (by rw [if_pos e])))
 ·
  exact evn e (evs (by rw [if_neg e]))
theorem kc (l : List Int) (q : Int) (hl : l.length < 4611686018427387904) : Ev (fun k => impl_DualVote.f k l q) (dualV l q) := by
 unfold impl_DualVote.f dualV
 refine evb (zf l q hl) ?_
 by_cases e : voteB l q = true
 ·
  have h := (voteB_iff l q).1 e
  have h8 := h.1; have hs := h.sum; have hq := h.2.2
  refine evp e ?_
  rw [jL l (by omega)]; simp only [qG]
  refine evb (jw l 20 (by omega) (fun x hx => by have := h.2.1 x hx; omega) (by omega)) (evs ?_)
  rw [w64 (x := isum l + 1) (by omega) (by omega), w64 (x := isum l + 1 - q) (by omega) (by omega), if_pos e]
 ·
  exact evn e (evs (by rw [if_neg e]))
theorem qf (l : List Int) (lo hi : Int) (hl : l.length < 4611686018427387904) : ∀ (d i : Nat), i + d = l.length →
  Ev (fun k => spec_l1Rising.l0 k l lo hi (i : Int)) (inB lo hi (l.drop i) && riseB (l.drop (i - 1))) := by
 intro d
 induction d with
 | zero =>
  intro i hi'
  refine Ev.step (fun k => spec_l1Rising.l0.eq_2 ..) (evn (by omega) (evs ?_))
  rw [riseB_end l (i - 1) (by omega), qD (show l.length ≤ i by omega)]; rfl
 | succ d ih =>
  intro i hi'
  refine Ev.step (fun k => spec_l1Rising.l0.eq_2 ..) (evp (by omega) (evp (by omega) ?_))
  rw [rd_nat, zJ, w64s i (by omega)]; simp only [qG]
  have hd := qB (show i < l.length by omega)
  have hg : l.getD i 0 = l[i] := by simp [qA, qC (show i < l.length by omega)]
  by_cases e : lo ≤ l.getD i 0 ∧ l.getD i 0 ≤ hi
  ·
   refine evp (by simpa using e) ?_
   have hin : inB lo hi (l.drop i) = inB lo hi (l.drop (i + 1)) := by rw [hd]; simp only [inB, List.all_cons]; rw [← hg, decide_eq_true e, Bool.true_and]
   by_cases e0 : 0 < i
   ·
    refine evp (by omega) ?_
    rw [w64 (x := (i : Int) - 1) (by omega) (by omega), show (i : Int) - 1 = ((i - 1 : Nat) : Int) by omega, rd_nat]
    refine evp (by omega) (evp (by omega) ?_)
    have hs := riseB_step l (i - 1) (by omega)
    rw [show i - 1 + 1 = i by omega] at hs
    by_cases e1 : l.getD (i - 1) 0 ≥ l.getD i 0
    ·
     refine evp e1 (evs ?_)
     rw [hs, decide_eq_false (by omega)]; simp
    ·
     refine evn e1 (evr (ih (i + 1) (by omega)) ?_)
     rw [hin, hs, decide_eq_true (show l.getD (i - 1) 0 < l.getD i 0 by omega)]; simp
   ·
    refine evn (by omega) (evr (ih (i + 1) (by omega)) ?_)
    obtain rfl : i = 0 := by omega
    rw [hin]
  ·
   refine evn (by simpa using e) (evs ?_)
   rw [hd]; simp only [inB, List.all_cons]; rw [← hg, decide_eq_false e]; simp
theorem je (l : List Int) (lo hi : Int) (hl : l.length < 4611686018427387904) : Ev (fun k => spec_l1Rising.f k l lo hi) (inB lo hi l && riseB l) := by
 unfold spec_l1Rising.f
 exact evr (qf l lo hi hl l.length 0 (by omega)) (by simp)
theorem qI (l : List Int) (hl : l.length < 4611686018427387904) : ∀ (d i : Nat), i + d = l.length → 1 ≤ i →
  Ev (fun k => impl_rising.l0 k l (i : Int)) (riseB (l.drop (i - 1))) := by
 intro d
 induction d with
 | zero =>
  intro i hi' h1
  refine Ev.step (fun k => impl_rising.l0.eq_2 ..) (evn (by omega) (evs ?_))
  rw [riseB_end l (i - 1) (by omega)]
 | succ d ih =>
  intro i hi' h1
  refine Ev.step (fun k => impl_rising.l0.eq_2 ..) (evp (by omega) ?_)
  rw [rd_nat, w64s i (by omega), w64 (x := (i : Int) - 1) (by omega) (by omega), show (i : Int) - 1 = ((i - 1 : Nat) : Int) by omega, rd_nat]
  refine evp (by omega) (evp (by omega) (evp (by omega) ?_))
  have hs := riseB_step l (i - 1) (by omega)
  rw [show i - 1 + 1 = i by omega] at hs
  by_cases e1 : l.getD (i - 1) 0 ≥ l.getD i 0
  ·
   refine evp e1 (evs ?_)
   rw [hs, decide_eq_false (by omega)]; simp
  ·
   refine evn e1 (evr (ih (i + 1) (by omega) (by omega)) ?_)
   rw [hs, decide_eq_true (show l.getD (i - 1) 0 < l.getD i 0 by omega)]; simp
theorem jN (l : List Int) (hl : l.length < 4611686018427387904) : Ev (fun k => impl_rising.f k l) (riseB l) := by
 unfold impl_rising.f
 by_cases h : l.length = 0
 ·
  refine Ev.step (fun k => impl_rising.l0.eq_2 ..) (evn (by omega) (evs ?_))
  rw [List.eq_nil_of_length_eq_zero h]; rfl
 ·
  exact evr (qI l hl (l.length - 1) 1 (by omega) (by omega)) (by simp)
theorem kd (l : List Int) (n : Int) (hn : 0 ≤ n ∧ n ≤ 1000000) (hl : l.length < 4611686018427387904) : Ev (fun k => impl_isSet.f k l n) (setB n l) := by
 unfold impl_isSet.f setB
 refine evb (jN l hl) ?_
 rw [w64 (x := n - 1) (by omega) (by omega)]
 by_cases e : riseB l = true
 ·
  refine evp e (evb (zN l 0 (n - 1) hl) (evs ?_))
  rw [e, Bool.and_true]; rfl
 ·
  exact evn e (evs (by simp [e]))
theorem ke (l : List Int) (q : Int) (s : List Int) (hl : l.length < 4611686018427387904) (hs : s.length < 4611686018427387904) : Ev (fun k => spec_l6Set.f k l q s) (voteB l q && setB l.length s) := by
 unfold spec_l6Set.f setB
 refine evb (zl l q hl) ?_
 rw [w64 (x := (l.length : Int) - 1) (by omega) (by omega)]
 by_cases e : voteB l q = true
 ·
  exact evp e (evb (je s 0 _ hs) (evs (by rw [e, Bool.true_and])))
 ·
  exact evn e (evs (by simp [e]))
theorem qJ {l : List Int} {q : Int} (h : Vot l q) (s : List Int) (hs : s.length < 4611686018427387904) : ∀ (d i : Nat) (c : Nat), i + d = s.length → riseB (s.drop i) = true → (∀ x ∈ s.drop i, 0 ≤ x ∧ x < l.length ∧ c < 2 ^ x.toNat) → c < 2 ^ l.length →
  Ev (fun k => spec_WinsWith.l0 k s (c : Int) (i : Int) l q) (winB l q (c + codeOf (s.drop i)), true) := by
 have h8 := h.1
 have hp := pow8 l.length h8.2
 intro d
 induction d with
 | zero =>
  intro i c hi hr hx hc
  rw [qD (show s.length ≤ i by omega)]
  refine Ev.step (fun k => spec_WinsWith.l0.eq_2 ..) (evn (by omega) (evb (zx h) (evp (by omega) (evp (by simp; exact_mod_cast hc) (evs ?_)))))
  rw [rdOf_map _ _ _ hc]; rfl
 | succ d ih =>
  intro i c hi hr hx hc
  have hd := qB (show i < s.length by omega)
  have hg : s.getD i 0 = s[i] := by simp [qA, qC (show i < s.length by omega)]
  have h1 := hx s[i] (by rw [hd]; exact List.mem_cons_self)
  rw [hd] at hr
  obtain ⟨x, hx0⟩ : ∃ x : Nat, s[i] = (x : Int) := ⟨s[i].toNat, by omega⟩
  have hxl : x < l.length := by omega
  have hpx := pow_lt x l.length hxl
  have key : c + 2 ^ x < 2 ^ (x + 1) := by
   have := h1.2.2; rw [hx0, qH] at this; rw [Nat.pow_succ]; omega
  have keyl : c + 2 ^ x < 2 ^ l.length := Nat.lt_of_lt_of_le key (Nat.pow_le_pow_right (by decide) (by omega))
  refine Ev.step (fun k => spec_WinsWith.l0.eq_2 ..) (evp (by omega) (evp (by omega) ?_))
  rw [rd_nat, hg, hx0, shl1 x (by omega), w64s i (by omega), w64 (x := (c : Int) + ((2 ^ x : Nat) : Int)) (by omega) (by omega), show (c : Int) + ((2 ^ x : Nat) : Int) = ((c + 2 ^ x : Nat) : Int) by omega]
  refine evp (by omega) (evr (ih (i + 1) (c + 2 ^ x) (by omega) (riseB_tail hr) (fun y hy => ?_) keyl) ?_)
  ·
   have h2 := hx y (by rw [hd]; exact List.mem_cons_of_mem _ hy)
   have h3 := riseB_lt _ _ hr y hy
   exact ⟨h2.1, h2.2.1, Nat.lt_of_lt_of_le key (Nat.pow_le_pow_right (by decide) (by omega))⟩
  ·
   rw [hd]; simp only [codeOf]; rw [hx0, qH, Nat.add_assoc]
theorem zm (n : Nat) (s : List Int) : setB n s = true ↔ (∀ x ∈ s, 0 ≤ x ∧ x < n) ∧ riseB s = true := by
 simp only [setB, inB, Bool.and_eq_true, qN, decide_eq_true_eq]
 constructor
 ·
  rintro ⟨a, b⟩; exact ⟨fun x hx => by have := a x hx; omega, b⟩
 ·
  rintro ⟨a, b⟩; exact ⟨fun x hx => by have := a x hx; omega, b⟩
theorem jO (l : List Int) (q : Int) (s : List Int) (hl : l.length < 4611686018427387904) (hs : s.length < 4611686018427387904) : Ev (fun k => spec_WinsWith.f k l q s) (winsWith l q s) := by
 unfold spec_WinsWith.f winsWith
 refine evb (ke l q s hl hs) ?_
 by_cases e : voteB l q = true ∧ setB l.length s = true
 ·
  have h := (voteB_iff l q).1 e.1
  obtain ⟨h1, h2⟩ := (zm _ _).1 e.2
  refine evp (by rw [e.1, e.2]; rfl) (evr (qJ h s hs s.length 0 0 (by omega) (by simpa using h2) (fun x hx => ?_) (Nat.two_pow_pos _)) ?_)
  ·
   have := h1 x (by simpa using hx); exact ⟨this.1, this.2, Nat.two_pow_pos _⟩
  ·
   rw [if_pos e]; simp
 ·
  refine evn (by simpa using e) (evs (by rw [if_neg e]))
theorem jf (n : Nat) (hn : n ≤ 8) (s : List Int) (hs : s.length < 4611686018427387904) : ∀ (d i : Nat) (c : Nat), i + d = s.length → riseB (s.drop i) = true → (∀ x ∈ s.drop i, 0 ≤ x ∧ x < n ∧ c < 2 ^ x.toNat) →
  Ev (fun k => impl_setOf.l0 k (c : Int) s (s.length : Int) (i : Int)) ((c + codeOf (s.drop i) : Nat) : Int) := by
 have hp := pow8 n hn
 intro d
 induction d with
 | zero =>
  intro i c hi hr hx
  rw [qD (show s.length ≤ i by omega)]
  exact Ev.step (fun k => impl_setOf.l0.eq_2 ..) (evn (by omega) (evs rfl))
 | succ d ih =>
  intro i c hi hr hx
  have hd := qB (show i < s.length by omega)
  have hg : s.getD i 0 = s[i] := by simp [qA, qC (show i < s.length by omega)]
  have h1 := hx s[i] (by rw [hd]; exact List.mem_cons_self)
  rw [hd] at hr
  obtain ⟨x, hx0⟩ : ∃ x : Nat, s[i] = (x : Int) := ⟨s[i].toNat, by omega⟩
  have hxl : x < n := by omega
  have hpx := pow_lt x n hxl
  have hcx : c < 2 ^ x := by have := h1.2.2; rw [hx0, qH] at this; exact this
  have key : c + 2 ^ x < 2 ^ (x + 1) := by rw [Nat.pow_succ]; omega
  refine Ev.step (fun k => impl_setOf.l0.eq_2 ..) (evp (by omega) (evp (by omega) (evp (by omega) ?_)))
  rw [rd_nat, hg, hx0, shl1 x (by omega), w64s i (by omega), or_nat c (2 ^ x) (by omega) (by omega), or_low c x hcx]
  refine evp (by omega) (evr (ih (i + 1) (c + 2 ^ x) (by omega) (riseB_tail hr) (fun y hy => ?_)) ?_)
  ·
   have h2 := hx y (by rw [hd]; exact List.mem_cons_of_mem _ hy)
   have h3 := riseB_lt _ _ hr y hy
   exact ⟨h2.1, h2.2.1, Nat.lt_of_lt_of_le key (Nat.pow_le_pow_right (by decide) (by omega))⟩
  ·
   rw [hd]; simp only [codeOf]; rw [hx0, qH, Nat.add_assoc]
theorem kf (n : Nat) (hn : n ≤ 8) (s : List Int) (hs : s.length < 4611686018427387904) (h1 : ∀ x ∈ s, 0 ≤ x ∧ x < n) (h2 : riseB s = true) : Ev (fun k => impl_setOf.f k s) ((codeOf s : Nat) : Int) := by
 unfold impl_setOf.f
 refine evr (jf n hn s hs s.length 0 0 (by omega) (by simpa using h2) (fun x hx => ?_)) (by simp)
 have := h1 x (by simpa using hx); exact ⟨this.1, this.2, Nat.two_pow_pos _⟩
theorem qO (l : List Int) (q : Int) (s : List Int) (hl : l.length < 4611686018427387904) (hs : s.length < 4611686018427387904) : Ev (fun k => impl_WinsWith.f k l q s) (winsWith l q s) := by
 unfold impl_WinsWith.f winsWith
 refine evb (zf l q hl) ?_
 by_cases e : voteB l q = true
 ·
  have h := (voteB_iff l q).1 e
  have h8 := h.1
  have hp := pow8 l.length h8.2
  refine evp e (evb (kd s l.length (by omega) hs) (Ev.step (fun k => impl_WinsWith.j0.eq_2 ..) ?_))
  by_cases e' : setB l.length s = true
  ·
   obtain ⟨h1, h2⟩ := (zm _ _).1 e'
   have hc := code_lt l.length s 0 h2 (fun x hx => ⟨(h1 x hx).1, (h1 x hx).2, Nat.two_pow_pos _⟩) (Nat.two_pow_pos _)
   refine evn (by simp [e']) (evb (kf l.length h8.2 s hs h1 h2) (evb (zK h (codeOf s) (by omega)) (evs ?_)))
   rw [if_pos ⟨e, e'⟩]
  ·
   exact evp (by simp [e']) (evs (by rw [if_neg (fun h => e' h.2)]))
 ·
  exact evn e (Ev.step (fun k => impl_WinsWith.j0.eq_2 ..) (evp rfl (evs (by rw [if_neg (fun h => e h.1)]))))
theorem qr (a b : Int) : cmp_Compare_int.f a b = some (if a < b then -1 else if a > b then 1 else 0) := by
 unfold cmp_Compare_int.f cmp_isNaN_int.f
 simp only [bne_self_eq_false, qG, Bool.false_eq_true, if_false]
 split
 ·
  rfl
 ·
  split <;> rfl
theorem qg (a b : List Int) (hx : a.length < 4611686018427387904) : ∀ (d i : Nat), i + d = a.length → i ≤ b.length →
  Ev (fun k => slices_Compare_int_int.l0 k a b a (a.length : Int) (i : Int)) (cmpv (a.drop i) (b.drop i)) := by
 intro d
 induction d with
 | zero =>
  intro i hi hb
  refine Ev.step (fun k => slices_Compare_int_int.l0.eq_2 ..) (evn (by omega) ?_)
  rw [qD (show a.length ≤ i by omega)]
  by_cases e : a.length < b.length
  ·
   refine evp (by omega) (evs ?_)
   rw [qB (show i < b.length by omega)]; rfl
  ·
   refine evn (by omega) (evs ?_)
   rw [qD (show b.length ≤ i by omega)]; rfl
 | succ d ih =>
  intro i hi hb
  refine Ev.step (fun k => slices_Compare_int_int.l0.eq_2 ..) (evp (by omega) (evp (by omega) (evp (by omega) ?_)))
  rw [qB (show i < a.length by omega)]
  by_cases e : i ≥ b.length
  ·
   refine evp (by omega) (evs ?_)
   rw [qD (show b.length ≤ i by omega)]; rfl
  ·
   refine evn (by omega) (evp (by omega) ?_)
   rw [rd_nat, rd_nat, qr, w64s i (by omega), qB (show i < b.length by omega)]
   simp only [qA, qC (show i < a.length by omega), qC (show i < b.length by omega), Option.getD_some, qG, cmpv]
   by_cases e1 : a[i] < b[i]
   ·
    rw [if_pos e1]; exact evn (by decide) (evs (by rw [if_pos e1]))
   ·
    rw [if_neg e1]
    by_cases e2 : a[i] > b[i]
    ·
     rw [if_pos e2]; exact evn (by decide) (evs (by rw [if_neg e1, if_pos e2]))
    ·
     rw [if_neg e2]; exact evp rfl (evr (ih (i + 1) (by omega) (by omega)) (by rw [if_neg e1, if_neg e2]))
theorem jg (a b : List Int) (hx : a.length < 4611686018427387904) : Ev (fun k => slices_Compare_int_int.f k a b) (cmpv a b) := by
 unfold slices_Compare_int_int.f
 exact qg a b hx a.length 0 (by omega) (by omega)
def zg (l : List Int) : Prop := (l.length : Int) ≤ 65536 ∧ ∀ x ∈ l, 0 ≤ x ∧ x ≤ 255
theorem jP (l : List Int) (hl : (l.length : Int) ≤ 65536) (hb : ∀ x ∈ l, (Lit.int .u8 x).wf = true) : zg l := by
 refine ⟨hl, fun x hx => ?_⟩
 have := hb x hx
 simp only [Lit.wf, Bool.and_eq_true, decide_eq_true_eq, IntKind.min, IntKind.max, IntKind.signed, IntKind.bits] at this
 simp at this
 omega
theorem jE (y : Int) (h0 : 0 ≤ y) (h1 : y < 18446744073709551616) : 0 ≤ Go.bits .and .u64 (y / 1099511627776) 255 ∧ Go.bits .and .u64 (y / 1099511627776) 255 ≤ 255 := by
 obtain ⟨n, hn⟩ := qL (show 0 ≤ y / 1099511627776 by omega)
 have hn2 : n < 2 ^ 64 := by omega
 have h := (bits_nat .u64 64 (by decide) (fun n h₀ h₁ => by rw [show IntKind.u64.wrap n = n % 18446744073709551616 by simp [IntKind.wrap, IntKind.bits, IntKind.signed]]; omega) n 255 hn2 (by decide)).1
 rw [hn, show (255 : Int) = ((255 : Nat) : Int) from rfl, h]
 have := @Nat.and_le_right n 255
 omega
theorem jF (z : Int) : 0 ≤ IntKind.u64.wrap z ∧ IntKind.u64.wrap z < 18446744073709551616 := by
 rw [show IntKind.u64.wrap z = z % 18446744073709551616 by simp [IntKind.wrap, IntKind.bits, IntKind.signed]]; omega
theorem jx {l : List Int} (hl : zg l) (p s : Int) (hp : 0 ≤ p ∧ p ≤ 1000000) : ∃ x s', spec_l1Cur_next.f l p s = some (x, p + 1, s') ∧ 0 ≤ x ∧ x ≤ 255 := by
 have hr : 0 ≤ rd l p ∧ rd l p ≤ 255 := by
  obtain ⟨j, rfl⟩ := qL hp.1
  rw [rd_nat]
  by_cases hj : j < l.length
  ·
   rw [qA, qC hj]; exact hl.2 _ (qM hj)
  ·
   rw [qA, List.getElem?_eq_none (by omega)]; decide
 have ew : wrap64 (p + 1) = p + 1 := w64 (by omega) (by omega)
 have hw : ∀ z : Int, ∃ x s', (some (wrap64 (Go.bits .and .u64 ((IntKind.u64.wrap z) / 1099511627776) 255), p + 1, IntKind.u64.wrap z) : Option (Int × Int × Int)) = some (x, p + 1, s') ∧ 0 ≤ x ∧ x ≤ 255 := by
  intro z
  have h := jF z
  have h2 := jE _ h.1 h.2
  refine ⟨_, _, rfl, ?_⟩
  rw [w64 (by omega) (by omega)]; exact h2
 unfold spec_l1Cur_next.f
 rw [ew]
 by_cases h : p < (l.length : Int)
 ·
  rw [if_pos h, if_pos hp.1]
  by_cases h2 : p + 1 ≤ (l.length : Int)
  ·
   rw [if_pos h2]
   refine ⟨_, _, rfl, ?_⟩
   rw [w64 (by omega) (by omega)]; exact hr
  ·
   omega
 ·
  rw [if_neg h, if_neg (by omega)]
  exact hw _
theorem zW (x n : Int) (hx : 0 ≤ x) (hn : 0 < n) : 0 ≤ Int.tmod x n ∧ Int.tmod x n < n := by
 rw [Int.tmod_eq_emod_of_nonneg hx]
 exact ⟨Int.emod_nonneg _ (by omega), Int.emod_lt_of_pos _ hn⟩
theorem zA {l : List Int} (hl : zg l) (p s n : Int) (hp : 0 ≤ p ∧ p ≤ 900000) : ∃ x p' s', spec_l1Cur_pick.f l p s n = some (x, p', s') ∧ 0 ≤ x ∧ (x < n ∨ n ≤ 1 ∧ x = 0) ∧ p ≤ p' ∧ p' ≤ p + 2 := by
 unfold spec_l1Cur_pick.f
 by_cases h1 : n ≤ 1
 ·
  rw [if_pos h1]; exact ⟨0, p, s, rfl, Int.le_refl _, .inr ⟨h1, rfl⟩, by omega, by omega⟩
 ·
  rw [if_neg h1]
  obtain ⟨x, s1, e, hx0, hx1⟩ := jx hl p s (by omega)
  rw [e]; simp only [qG]
  by_cases h2 : n > 200
  ·
   rw [if_pos h2]
   obtain ⟨y, s2, e2, hy0, hy1⟩ := jx hl (p + 1) s1 (by omega)
   rw [e2]; simp only [qG]
   rw [if_neg (by omega), w64 (x := x * 256) (by omega) (by omega), w64 (by omega) (by omega)]
   have := zW (x * 256 + y) n (by omega) (by omega)
   exact ⟨_, _, _, rfl, this.1, .inl this.2, by omega, by omega⟩
  ·
   rw [if_neg h2, if_neg (by omega)]
   have := zW x n hx0 (by omega)
   exact ⟨_, _, _, rfl, this.1, .inl this.2, by omega, by omega⟩
theorem jh {l : List Int} (hl : zg l) (p s n : Int) (hp : 0 ≤ p ∧ p ≤ 900000) : ∃ b p' s', spec_l1Cur_one.f l p s n = some (b, p', s') ∧ p ≤ p' ∧ p' ≤ p + 2 := by
 obtain ⟨x, p', s', e, _, _, h1, h2⟩ := zA hl p s n hp
 unfold spec_l1Cur_one.f
 rw [e]; exact ⟨_, _, _, rfl, h1, h2⟩
theorem zy {l : List Int} (hl : zg l) (p s : Int) (xs : List Int) (hx : xs ≠ []) (hp : 0 ≤ p ∧ p ≤ 900000) : ∃ x p' s', spec_l1Cur_among.f l p s xs = some (x, p', s') ∧ x ∈ xs ∧ p ≤ p' ∧ p' ≤ p + 2 := by
 have hlen : 0 < xs.length := List.length_pos_iff.2 hx
 obtain ⟨x, p', s', e, h0, h1, h2, h3⟩ := zA hl p s (xs.length : Int) hp
 have hlt : x < (xs.length : Int) := by omega
 unfold spec_l1Cur_among.f
 rw [e]; simp only [qG]
 rw [if_pos h0, if_pos hlt]
 refine ⟨_, _, _, rfl, ?_, h2, h3⟩
 obtain ⟨j, rfl⟩ := qL h0
 rw [rd_nat, qA, qC (show j < xs.length by omega)]
 exact qM _
theorem qP (a b : Int) : spec_l1Most.f a b = some (if a > b then a else b) := by unfold spec_l1Most.f; split <;> rfl
theorem qk (a b : Int) : spec_l1Least.f a b = some (if a < b then a else b) := by unfold spec_l1Least.f; split <;> rfl
def VDr (p : Int) (n : Nat) (v : List Int × Int × Int × Int) : Prop := v.1.length ≤ 9 ∧ p ≤ v.2.2.1 ∧ v.2.2.1 ≤ p + n
theorem kg (l : List Int) (p s q : Int) : ∀ d (v : List Int), v.length + d = 9 → ∃ r, Ev (fun k => spec_l1Cur_someVote.l1 k l p s v q) r ∧ VDr p 0 r := by
 intro d
 induction d with
 | zero =>
  intro v hv
  exact ⟨_, Ev.step (fun k => spec_l1Cur_someVote.l1.eq_2 ..) (evn (by omega) (evs rfl)), by unfold VDr; simp; omega⟩
 | succ d ih =>
  intro v hv
  obtain ⟨r, hr, h⟩ := ih (v ++ [1]) (by simp; omega)
  exact ⟨r, Ev.step (fun k => spec_l1Cur_someVote.l1.eq_2 ..) (evp (by omega) (evp (by omega) hr)), h⟩
theorem jy {l : List Int} (hl : zg l) (p s sum q : Int) (v : List Int) (hv : 1 ≤ v.length ∧ v.length ≤ 8) (hp : 0 ≤ p ∧ p ≤ 800000) : ∃ r, Ev (fun k => spec_l1Cur_someVote.j1 k sum l p s v q) r ∧ VDr p 4 r := by
 obtain ⟨x, p1, s1, e, _, _, h1, h2⟩ := zA hl p s 40 (by omega)
 by_cases c0 : x = 0
 ·
  obtain ⟨y, p2, s2, e2, _, h3, h4⟩ := zy hl p1 s1 [0, sum, wrap64 (sum + 1), -1] (by simp) (by omega)
  refine ⟨_, Ev.step (fun k => spec_l1Cur_someVote.j1.eq_2 ..) (evb (evc e) (evp c0 (evb (evc e2) (evs rfl)))), ?_⟩
  unfold VDr; simp only; omega
 by_cases c1 : x = 1
 ·
  obtain ⟨y, p2, s2, e2, _, h3, h4⟩ := zy hl p1 s1 [20, 21, -1, 4611686018427387904] (by simp) (by omega)
  refine ⟨_, Ev.step (fun k => spec_l1Cur_someVote.j1.eq_2 ..) (evb (evc e) (evn c0 (evp c1 (evb (evc e2) (evp (by omega) (evs rfl)))))), ?_⟩
  unfold VDr; simp only [List.length_set]; omega
 by_cases c2 : x = 2
 ·
  obtain ⟨r, hr, h⟩ := kg l p1 s1 q (9 - v.length) v (by omega)
  refine ⟨r, Ev.step (fun k => spec_l1Cur_someVote.j1.eq_2 ..) (evb (evc e) (evn c0 (evn c1 (evp c2 hr)))), ?_⟩
  unfold VDr at h ⊢; omega
 by_cases c3 : x = 3
 ·
  refine ⟨_, Ev.step (fun k => spec_l1Cur_someVote.j1.eq_2 ..) (evb (evc e) (evn c0 (evn c1 (evn c2 (evp c3 (evs rfl)))))), ?_⟩
  unfold VDr; simp only [List.length_nil]; omega
 ·
  refine ⟨_, Ev.step (fun k => spec_l1Cur_someVote.j1.eq_2 ..) (evb (evc e) (evn c0 (evn c1 (evn c2 (evn c3 (evs rfl)))))), ?_⟩
  unfold VDr; simp only; omega
theorem kh {l : List Int} (hl : zg l) (q0 : Int) : ∀ (d : Nat) (p s sum : Int) (v : List Int), 1 ≤ v.length + d → v.length + d ≤ 8 → 0 ≤ p ∧ p + 2 * d ≤ 700000 → ∃ r, Ev (fun k => spec_l1Cur_someVote.l0 k sum (d : Int) l p s v q0) r ∧ VDr p (2 * d + 8) r := by
 intro d
 induction d with
 | zero =>
  intro p s sum v h1 h8 hp
  obtain ⟨x, p1, s1, e, _, _, g1, g2⟩ := zA hl p s (if sum > 1 then sum else 1) (by omega)
  obtain ⟨b, p2, s2, e2, g3, g4⟩ := jh hl p1 s1 3 (by omega)
  by_cases c : b = true
  ·
   obtain ⟨r, hr, h⟩ := jy hl p2 s2 sum (wrap64 ((wrap64 (Int.tdiv sum 2)) + 1)) v (by omega) (by omega)
   refine ⟨r, Ev.step (fun k => spec_l1Cur_someVote.l0.eq_2 ..) (evn (by omega) (evb (evc (qP _ _)) (evb (evc e) (evb (evc e2) (evp c hr))))), ?_⟩
   unfold VDr at h ⊢; omega
  ·
   obtain ⟨r, hr, h⟩ := jy hl p2 s2 sum (wrap64 (1 + x)) v (by omega) (by omega)
   refine ⟨r, Ev.step (fun k => spec_l1Cur_someVote.l0.eq_2 ..) (evn (by omega) (evb (evc (qP _ _)) (evb (evc e) (evb (evc e2) (evn c hr))))), ?_⟩
   unfold VDr at h ⊢; omega
 | succ d ih =>
  intro p s sum v h1 h8 hp
  obtain ⟨x, p1, s1, e, _, g1, g2⟩ := zy hl p s [1, 2, 3, 1, 0, 5, 7] (by simp) (by omega)
  obtain ⟨r, hr, h⟩ := ih p1 s1 (wrap64 (sum + x)) (v ++ [x]) (by simp; omega) (by simp; omega) (by omega)
  refine ⟨r, Ev.step (fun k => spec_l1Cur_someVote.l0.eq_2 ..) (evp (by omega) (evb (evc e) (evp (by omega) ?_))), ?_⟩
  ·
   simp only
   rw [show wrap64 (((d + 1 : Nat) : Int) - 1) = (d : Int) by rw [w64 (by omega) (by omega)]; omega]; exact hr
  ·
   unfold VDr at h ⊢; omega
theorem ji {l : List Int} (hl : zg l) (p s most : Int) (hm : 1 ≤ most) (hp : 0 ≤ p ∧ p ≤ 600000) : ∃ r, Ev (fun k => spec_l1Cur_someVote.f k l p s most) r ∧ VDr p 26 r := by
 obtain ⟨x, p1, s1, e, hx, g1, g2⟩ := zy hl p s [3, 4, 5, 2, 1, 6, 8] (by simp) (by omega)
 have hx8 : 1 ≤ x ∧ x ≤ 8 := by simp at hx; omega
 obtain ⟨d, hd⟩ : ∃ d : Nat, (if x < most then x else most) = (d : Int) := ⟨(if x < most then x else most).toNat, by split <;> omega⟩
 have hd8 : 1 ≤ d ∧ d ≤ 8 := by split at hd <;> omega
 obtain ⟨r, hr, h⟩ := kh hl 0 d p1 s1 0 [] (by simp; omega) (by simp; omega) (by omega)
 refine ⟨r, ?_, ?_⟩
 ·
  unfold spec_l1Cur_someVote.f
  refine evb (evc e) (evb (evc (qk _ _)) ?_)
  simp only
  rw [hd]; exact hr
 ·
  unfold VDr at h ⊢; omega
theorem zX {l : List Int} (hl : zg l) (b : Bool) (p s : Int) (v : List Int) (q : Int) (hp : 0 ≤ p ∧ p ≤ 800000) : ∃ r, Ev (fun k => spec_l1Cur_voter.j0 k b l p s v q) r ∧ p ≤ r.2.1 ∧ r.2.1 ≤ p + 2 := by
 by_cases c : b = true
 ·
  obtain ⟨x, p1, s1, e, _, g1, g2⟩ := zy hl p s [-1, 0, (v.length : Int), 4611686018427387904] (by simp) (by omega)
  exact ⟨_, Ev.step (fun k => spec_l1Cur_voter.j0.eq_2 ..) (evp c (evb (evc e) (evs rfl))), g1, g2⟩
 ·
  obtain ⟨x, p1, s1, e, _, _, g1, g2⟩ := zA hl p s (v.length : Int) (by omega)
  exact ⟨_, Ev.step (fun k => spec_l1Cur_voter.j0.eq_2 ..) (evn c (evb (evc e) (evs rfl))), g1, g2⟩
theorem ki {l : List Int} (hl : zg l) (p s : Int) (v : List Int) (q : Int) (hp : 0 ≤ p ∧ p ≤ 700000) : ∃ r, Ev (fun k => spec_l1Cur_voter.f k l p s v q) r ∧ p ≤ r.2.1 ∧ r.2.1 ≤ p + 4 := by
 unfold spec_l1Cur_voter.f
 by_cases c : (v.length : Int) = 0
 ·
  obtain ⟨r, hr, h1, h2⟩ := zX hl true p s v q (by omega)
  exact ⟨r, evp c hr, h1, by omega⟩
 ·
  obtain ⟨b, p1, s1, e, g1, g2⟩ := jh hl p s 20 (by omega)
  obtain ⟨r, hr, h1, h2⟩ := zX hl b p1 s1 v q (by omega)
  exact ⟨r, evn c (evb (evc e) hr), by omega, by omega⟩
def plc (P : Nat → Bool) (n : Nat) : List Int := ((List.range n).filter P).map fun k : Nat => (k : Int)
theorem zq (P : Nat → Bool) (n : Nat) : plc P (n + 1) = plc P n ++ (if P n = true then [(n : Int)] else []) := by
 unfold plc
 rw [List.range_succ, List.filter_append, List.map_append]
 by_cases e : P n = true
 ·
  simp [List.filter, e]
 ·
  simp [List.filter, e]
theorem zL (P : Nat → Bool) : ∀ n, (plc P n).length ≤ n
 | 0 => by simp [plc]
 | n + 1 => by
  have := zL P n
  rw [zq]
  split <;> simp <;> omega
theorem qQ (P : Nat → Bool) (n : Nat) : ∀ x ∈ plc P n, 0 ≤ x ∧ x < n := by
 intro x hx
 unfold plc at hx
 obtain ⟨k, hk, rfl⟩ := List.mem_map.1 hx
 have := List.mem_range.1 (List.mem_filter.1 hk).1
 omega
theorem zG : ∀ (l : List Int) (y : Int), riseB l = true → (∀ x ∈ l, x < y) → riseB (l ++ [y]) = true
 | [], _, _, _ => rfl
 | [x], y, _, h => by simp [riseB, h x (by simp)]
 | x :: z :: l, y, hr, h => by
  have h1 := zG (z :: l) y (riseB_tail hr) (fun u hu => h u (by simp [hu]))
  have h2 := riseB_lt _ _ hr z (by simp)
  simp only [List.cons_append, riseB, Bool.and_eq_true, decide_eq_true_eq] at h1 ⊢
  exact ⟨h2, h1⟩
theorem zr (P : Nat → Bool) : ∀ n, riseB (plc P n) = true
 | 0 => by simp [plc, riseB]
 | n + 1 => by
  rw [zq]
  split
  ·
   exact zG _ _ (zr P n) (fun x hx => (qQ P n x hx).2)
  ·
   rw [List.append_nil]; exact zr P n
theorem jG (P : Nat → Bool) (n : Nat) : setB n (plc P n) = true := (zm _ _).2 ⟨qQ P n, zr P n⟩
theorem zw : ∀ a b : List Int, codeOf (a ++ b) = codeOf a + codeOf b
 | [], b => by simp [codeOf]
 | x :: a, b => by simp only [List.cons_append, codeOf, zw a b]; omega
theorem zh (c i : Nat) : bit c i = if c.testBit i = true then 1 else 0 := by
 unfold bit
 have := bit_lt c i
 unfold bit at this
 rw [Nat.testBit_eq_decide_div_mod_eq]
 by_cases e : c / 2 ^ i % 2 = 1
 ·
  simp [e]
 ·
  simp [e]; omega
theorem zC (P : Nat → Bool) : ∀ n, codeOf (plc P n) < 2 ^ n ∧ ∀ i, i < n → bit (codeOf (plc P n)) i = if P i = true then 1 else 0
 | 0 => by simp [plc, codeOf]
 | n + 1 => by
  obtain ⟨h1, h2⟩ := zC P n
  rw [zq, zw]
  by_cases e : P n = true
  ·
   rw [if_pos e]
   have e2 : codeOf (plc P n) + codeOf [(n : Int)] = 2 ^ n + codeOf (plc P n) := by simp only [codeOf, qH]; omega
   rw [e2]
   refine ⟨by rw [Nat.pow_succ]; omega, fun i hi => ?_⟩
   by_cases ei : i = n
   ·
    subst ei
    rw [zh, Nat.testBit_two_pow_add_eq, Nat.testBit_lt_two_pow h1]; simp [e]
   ·
    rw [zh, Nat.testBit_two_pow_add_gt (by omega), ← zh]
    exact h2 i (by omega)
  ·
   rw [if_neg e]
   have e2 : codeOf (plc P n) + codeOf ([] : List Int) = codeOf (plc P n) := by simp [codeOf]
   rw [e2]
   refine ⟨by rw [Nat.pow_succ]; omega, fun i hi => ?_⟩
   by_cases ei : i = n
   ·
    subst ei
    rw [zh, Nat.testBit_lt_two_pow h1]; simp [e]
   ·
    exact h2 i (by omega)
theorem jj (a b : List Int) (hl : a.length = b.length) (hx : a.length ≤ 1048576) : ∀ (d i : Nat), i + d = a.length → Ev (fun k => laws_rInts.l0 k a b (i : Int)) (decide (a.drop i = b.drop i)) := by
 intro d
 induction d with
 | zero =>
  intro i hi
  refine Ev.step (fun k => laws_rInts.l0.eq_2 ..) (evn (by omega) (evs ?_))
  simp [qD (show a.length ≤ i by omega), qD (show b.length ≤ i by omega)]
 | succ d ih =>
  intro i hi
  refine Ev.step (fun k => laws_rInts.l0.eq_2 ..) (evp (by omega) (evp (by omega) (evp (by omega) ?_)))
  rw [w64s i (by omega), rd_nat, rd_nat, qB (show i < a.length by omega), qB (show i < b.length by omega)]
  have ea : a.getD i 0 = a[i] := by rw [qA, qC (show i < a.length by omega)]; rfl
  have eb : b.getD i 0 = b[i] := by rw [qA, qC (show i < b.length by omega)]; rfl
  rw [ea, eb]
  by_cases e : a[i] = b[i]
  ·
   refine evp e (evr (ih (i + 1) (by omega)) ?_)
   rw [e]; simp only [List.cons.injEq, true_and]
  ·
   refine evn e (evs ?_)
   simp only [List.cons.injEq, e, false_and, decide_false]
theorem jz (a b : List Int) (hx : a.length ≤ 1048576) : Ev (fun k => laws_rInts.f k a b) (decide (a = b)) := by
 unfold laws_rInts.f
 by_cases h : a.length = b.length
 ·
  refine evp (by omega) (evr (jj a b h hx a.length 0 (by omega)) (by simp))
 ·
  refine evn (by omega) (evs ?_)
  have : a ≠ b := fun e => h (by rw [e])
  simp [this]
theorem kj (a : List Int) (q : Int) (hx : a.length ≤ 1048576) : Ev (fun k => laws_rVote.f k a q a q) true := by
 unfold laws_rVote.f
 exact evp rfl (evb (jz a a hx) (evs (by simp)))
theorem zO : ∀ a b : List Int, cmpT a b = cmpv a b
 | [], [] => rfl
 | [], _ :: _ => rfl
 | _ :: _, [] => rfl
 | x :: a, y :: b => by unfold cmpT cmpv; rw [zO a b]
theorem jk (a b : List Int) (ha : a.length ≤ 1048576) (hb : b.length ≤ 1048576) : Ev (fun k => impl_compareSets.f k a b) (cfS a b) := by
 unfold impl_compareSets.f cfS
 by_cases e : (a.length : Int) = (b.length : Int)
 ·
  rw [if_pos e, zO]
  exact evp e (evb (jg a b (by omega)) (evs rfl))
 ·
  rw [if_neg e]
  exact evn e (evs (w64 (by omega) (by omega)))
theorem zH {P : Nat → Nat → Prop} : ∀ n : Nat, (∀ t, t < n → ∃ K, ∀ k, K ≤ k → P t k) → ∃ K, ∀ k, K ≤ k → ∀ t, t < n → P t k
 | 0, _ => ⟨0, fun _ _ t ht => absurd ht (by omega)⟩
 | n + 1, h => by
  obtain ⟨K1, h1⟩ := zH n (fun t ht => h t (by omega))
  obtain ⟨K2, h2⟩ := h n (by omega)
  refine ⟨max K1 K2, fun k hk t ht => ?_⟩
  rcases Nat.lt_or_ge t n with h3 | h3
  ·
   exact h1 k (by omega) t h3
  ·
   obtain rfl : t = n := by omega
   exact h2 k (by omega)
theorem zY {l : List Int} {q : Int} (h : Vot l q) : ∃ K, ∀ k, K ≤ k → OKV k l q ∧ ∀ t : Nat, t < 256 → winV k l q t = winB l q t := by
 obtain ⟨K1, h1⟩ := zH (P := fun t k => impl_Vote_wins.f k l q (t : Int) = some (winB l q t)) 256 (fun t ht => zK h t (by omega))
 obtain ⟨K2, h2⟩ := zH (P := fun s k => ∀ t, t < 256 → impl_compareSets.f k (bitsV s) (bitsV t) = some (cfS (bitsV s) (bitsV t))) 256 (fun s hs => zH 256 (fun t ht => jk _ _ (by have := bitsV_len s hs; omega) (by have := bitsV_len t ht; omega)))
 refine ⟨max K1 K2, fun k hk => ⟨⟨h.1.2, fun t ht => ?_, fun s hs t ht => h2 k (by omega) s hs t ht, ?_⟩, fun t ht => ?_⟩⟩
 ·
  rw [h1 k (by omega) t ht]; rfl
 ·
  rw [zV q h.1.2]
 ·
  unfold winV; rw [h1 k (by omega) t ht]; rfl
def zd (l : List Int) (q : Int) : Int × Bool := if voteB l q = true then ((((List.range (2 ^ l.length)).filter (winB l q)).length : Nat), true) else (0, false)
theorem qR (l : List Int) (q : Int) (hl : l.length < 4611686018427387904) : Ev (fun k => impl_CountWins.f k l q) (zd l q) := by
 unfold impl_CountWins.f zd
 refine evb (zf l q hl) ?_
 by_cases e : voteB l q = true
 ·
  have h := (voteB_iff l q).1 e
  rw [if_pos e]
  refine evp e ?_
  obtain ⟨K, hK⟩ := zY h
  refine ⟨K, fun k hk => ?_⟩
  have hp := pow8 l.length h.1.2
  dsimp only
  rw [if_pos (hK k hk).1, filter_congr_ (winV k l q) (winB l q) _ (fun s hs => (hK k hk).2 s (by have := List.mem_range.1 hs; omega))]
 ·
  exact evn e (evs (by rw [if_neg e]))
theorem qS (f : Nat → Bool) (n : Nat) (hn : n < 1000000) : ∀ (d c : Nat) (m : Nat), c + d = n → m ≤ c →
  Ev (fun k => spec_CountWins.l0 k (m : Int) ((List.range n).map f) (c : Int)) (((m + ((List.range' c d).filter f).length : Nat) : Int), true) := by
 intro d
 induction d with
 | zero =>
  intro c m hc hm
  exact Ev.step (fun k => spec_CountWins.l0.eq_2 ..) (evn (by simp; omega) (evs (by simp)))
 | succ d ih =>
  intro c m hc hm
  refine Ev.step (fun k => spec_CountWins.l0.eq_2 ..) (evp (by simp; omega) (evp (by omega) ?_))
  rw [w64s c (by omega), rdOf_map f n c (by omega)]
  by_cases e : f c = true
  ·
   refine evp e ?_
   rw [w64s m (by omega)]
   refine evr (ih (c + 1) (m + 1) (by omega) (by omega)) ?_
   rw [qF, List.filter_cons_of_pos e, List.length_cons]
   simp only [Prod.mk.injEq, and_true]; omega
  ·
   refine evn e (evr (ih (c + 1) m (by omega) (by omega)) ?_)
   rw [qF, List.filter_cons_of_neg e]
theorem jQ (l : List Int) (q : Int) (hl : l.length < 4611686018427387904) : Ev (fun k => spec_CountWins.f k l q) (zd l q) := by
 unfold spec_CountWins.f zd
 refine evb (zl l q hl) ?_
 by_cases e : voteB l q = true
 ·
  have h := (voteB_iff l q).1 e
  have hp := pow8 l.length h.1.2
  refine evp e (evb (zx h) (evr (qS _ (2 ^ l.length) (by omega) (2 ^ l.length) 0 0 (by omega) (by omega)) ?_))
  rw [if_pos e, qK, Nat.zero_add]
 ·
  exact evn e (evs (by rw [if_neg e]))
def ltS (x y : List Int) : Bool := decide (cfS x y < 0)
theorem qh (a b : List Int) (hl : a.length = b.length) (hx : a.length ≤ 1048576) : ∀ (d i : Nat), i + d = a.length → Ev (fun k => spec_l6Before.l0 k a b (i : Int)) (decide (cmpT (a.drop i) (b.drop i) < 0)) := by
 intro d
 induction d with
 | zero =>
  intro i hi
  refine Ev.step (fun k => spec_l6Before.l0.eq_2 ..) (evn (by omega) (evs ?_))
  rw [qD (show a.length ≤ i by omega), qD (show b.length ≤ i by omega)]; rfl
 | succ d ih =>
  intro i hi
  refine Ev.step (fun k => spec_l6Before.l0.eq_2 ..) (evp (by omega) (evp (by omega) (evp (by omega) ?_)))
  rw [w64s i (by omega), rd_nat, rd_nat, qB (show i < a.length by omega), qB (show i < b.length by omega)]
  have ea : a.getD i 0 = a[i] := by rw [qA, qC (show i < a.length by omega)]; rfl
  have eb : b.getD i 0 = b[i] := by rw [qA, qC (show i < b.length by omega)]; rfl
  rw [ea, eb]
  by_cases e : a[i] = b[i]
  ·
   refine evp e (evr (ih (i + 1) (by omega)) ?_)
   conv => rhs; unfold cmpT
   rw [if_neg (by omega), if_neg (by omega)]
  ·
   refine evn e (evs ?_)
   conv => rhs; unfold cmpT
   by_cases h : a[i] < b[i]
   ·
    rw [if_pos h]; simp [h]
   ·
    rw [if_neg h, if_pos (by omega)]; simp [h]
theorem jl (a b : List Int) (ha : a.length ≤ 1048576) (hb : b.length ≤ 1048576) : Ev (fun k => spec_l6Before.f k a b) (ltS a b) := by
 unfold spec_l6Before.f ltS cfS
 by_cases h : (a.length : Int) = (b.length : Int)
 ·
  rw [if_pos h]
  exact evp h (evr (qh a b (by omega) ha a.length 0 (by omega)) (by simp))
 ·
  rw [if_neg h]
  exact evn h (evs (decide_eq_decide.2 (by omega)))
def ze (s : List Int) : List (List Int) → List (List Int)
 | [] => [s]
 | y :: L => if ltS y s = true then y :: ze s L else s :: y :: L
theorem zj (s : List Int) : ∀ L, (ze s L).Perm (s :: L)
 | [] => List.Perm.refl _
 | y :: L => by
  unfold ze
  by_cases h : ltS y s = true
  ·
   rw [if_pos h]; exact ((zj s L).cons y).trans (List.Perm.swap s y L)
  ·
   rw [if_neg h]
theorem zB (s : List Int) : ∀ L : List (List Int), L.Pairwise (fun x y => ltS y x = false) → (ze s L).Pairwise (fun x y => ltS y x = false)
 | [], _ => by unfold ze; exact List.pairwise_singleton _ _
 | y :: L, h => by
  obtain ⟨h1, h2⟩ := List.pairwise_cons.1 h
  unfold ze
  by_cases c : ltS y s = true
  ·
   rw [if_pos c]
   refine List.pairwise_cons.2 ⟨fun z hz => ?_, zB s L h2⟩
   rcases List.mem_cons.1 ((zj s L).mem_iff.1 hz) with rfl | hz
   ·
    rw [Bool.eq_false_iff]; intro c2
    have := cfS_swo.trans y z y c c2
    rw [cfS_swo.irrefl] at this; cases this
   ·
    exact h1 z hz
  ·
   rw [if_neg c]
   refine List.pairwise_cons.2 ⟨fun z hz => ?_, h⟩
   rcases List.mem_cons.1 hz with rfl | hz
   ·
    exact Bool.eq_false_iff.2 c
   ·
    exact cfS_swo.ntrans z y s (h1 z hz) (Bool.eq_false_iff.2 c)
theorem jm (s : List Int) (L : List (List Int)) : (ze s L).length = L.length + 1 := by rw [(zj s L).length_eq, List.length_cons]
def zz (xs : List (List Int)) (L : List (List Int)) : List (List Int) := xs.foldl (fun L s => ze s L) L
theorem zP : ∀ (xs L : List (List Int)), L.Pairwise (fun x y => ltS y x = false) → (zz xs L).Pairwise (fun x y => ltS y x = false) ∧ (zz xs L).Perm (xs ++ L)
 | [], L, h => ⟨h, List.Perm.refl _⟩
 | s :: xs, L, h => by
  obtain ⟨h1, h2⟩ := zP xs (ze s L) (zB s L h)
  refine ⟨h1, h2.trans ?_⟩
  exact ((zj s L).append_left xs).trans (List.perm_middle)
theorem qT (xs : List (List Int)) : zz xs [] = sortL cfS xs := by
 obtain ⟨h1, h2⟩ := zP xs [] List.Pairwise.nil
 rw [List.append_nil] at h2
 have hbit : ∀ a b : List Int, (!(decide (cfS b a < 0))) = true ↔ ltS b a = false := by intro a b; unfold ltS; simp
 refine List.Perm.eq_of_pairwise (le := fun x y => ltS y x = false) (fun a b _ _ ha hb => cfS_total a b hb ha) h1 ?_ (h2.trans (List.mergeSort_perm _ _).symm)
 have := List.pairwise_mergeSort (le := fun x y : List Int => !(decide (cfS y x < 0))) (fun a b c ha hb => (hbit a c).2 (cfS_swo.ntrans c b a ((hbit b c).1 hb) ((hbit a b).1 ha))) (fun a b => by
  by_cases c : ltS b a = true
  ·
   have : ltS a b = false := by
    rw [Bool.eq_false_iff]; intro c2
    have := cfS_swo.trans a b a c2 c
    rw [cfS_swo.irrefl] at this; cases this
   rw [(hbit b a).2 this, Bool.or_true]
  ·
   rw [(hbit a b).2 (Bool.eq_false_iff.2 c), Bool.true_or]) xs
 exact this.imp (fun h => (hbit _ _).1 h)
theorem jR (l : List (List Int)) (i : Nat) : rd_L3 l (i : Int) = rdl l i := by simp [rd_L3, rdl]
theorem jn (L : List (List Int)) (s : List Int) (hL : L.length ≤ 1048576) (hr : ∀ r ∈ L, r.length ≤ 1048576) (hs : s.length ≤ 1048576) : ∀ (d i : Nat), i + d = L.length →
  Ev (fun k => spec_l6Put.l0 k L s (i : Int)) (L.take i ++ ze s (L.drop i)) := by
 have fin : ∀ i : Nat, i ≤ L.length → Ev (fun _ : Nat => (if 0 ≤ (i : Int) then (if (i : Int) ≤ (L.length : Int) then some (([] ++ L.take i) ++ [s] ++ L.drop i) else none) else none)) (L.take i ++ s :: L.drop i) := fun i hi => evp (by omega) (evp (by omega) (evs (by simp)))
 have lz : ∀ i : Nat, i ≤ L.length → ([] : List (List Int)).length + (L.take i).length < 5864062014805 ∧ (([] : List (List Int)) ++ L.take i).length + [s].length < 5864062014805 ∧ (([] ++ L.take i) ++ [s]).length + (L.drop i).length < 5864062014805 := fun i hi => by
  simp only [List.length_append, List.length_take, List.length_drop, List.length_nil, List.length_cons]; omega
 intro d
 induction d with
 | zero =>
  intro i hi
  have h0 : (0 : Int) ≤ i := by omega
  have h1 : (i : Int) ≤ L.length := by omega
  obtain ⟨z1, z2, z3⟩ := lz i (by omega)
  have et : ((i : Int)).toNat = i := qH i
  refine Ev.step (fun k => spec_l6Put.l0.eq_2 ..) (evn (by omega) ?_)
  rw [et]
  refine evb (evs rfl) (evp h0 (evp h1 (evb (evs rfl) (evp z1 (evb (evs rfl) (evb (evs rfl) (evp z2 (evb (evs rfl) (evb (evs rfl) (evp z3 (evs ?_)))))))))))
  rw [show L.drop i = [] from qD (by omega)]
  simp [ze]
 | succ d ih =>
  intro i hi
  have hgt := qM (show i < L.length by omega)
  have hg : rdl L i = L[i] := by simp [rdl, qA, qC (show i < L.length by omega)]
  have h0 : (0 : Int) ≤ i := by omega
  have h1 : (i : Int) ≤ L.length := by omega
  have hlt : (i : Int) < L.length := by omega
  have hnx := ih (i + 1) (by omega)
  have hw := w64s i (by omega)
  have hb := jl L[i] s (hr _ hgt) hs
  obtain ⟨z1, z2, z3⟩ := lz i (by omega)
  have et : ((i : Int)).toNat = i := qH i
  have hd := qB (show i < L.length by omega)
  refine Ev.step (fun k => spec_l6Put.l0.eq_2 ..) (evp hlt (evp h0 ?_))
  rw [jR, hg, et]
  refine evb hb ?_
  by_cases c : ltS L[i] s = true
  ·
   refine evp c ?_
   rw [hw]
   refine evr hnx ?_
   rw [hd]; conv => rhs; unfold ze
   rw [if_pos c, List.take_succ_eq_append_getElem (by omega), List.append_assoc]; rfl
  ·
   refine evn c (evb (evs rfl) (evp h1 (evb (evs rfl) (evp z1 (evb (evs rfl) (evb (evs rfl) (evp z2 (evb (evs rfl) (evb (evs rfl) (evp z3 (evs ?_)))))))))))
   rw [hd]; conv => rhs; unfold ze
   rw [if_neg c]; simp
theorem kk (L : List (List Int)) (s : List Int) (hL : L.length ≤ 1048576) (hr : ∀ r ∈ L, r.length ≤ 1048576) (hs : s.length ≤ 1048576) : Ev (fun k => spec_l6Put.f k L s) (ze s L) := by
 unfold spec_l6Put.f
 exact evr (jn L s hL hr hs L.length 0 (by omega)) (by simp)
theorem zQ (n c : Nat) (hn : n ≤ 8) (hc : c < 256) : ∀ (d i : Nat), i + d = n → Ev (fun k => spec_l6Bits.l0 k (n : Int) (c : Int) (((List.range i).filter fun i => bit c i == 1).map fun i : Nat => (i : Int)) (i : Int)) (((List.range n).filter fun i => bit c i == 1).map fun i : Nat => (i : Int)) := by
 intro d
 induction d with
 | zero =>
  intro i hi
  exact Ev.step (fun k => spec_l6Bits.l0.eq_2 ..) (evn (by omega) (evs (by rw [show i = n by omega])))
 | succ d ih =>
  intro i hi
  have hnx := ih (i + 1) (by omega)
  have hl : (((List.range i).filter fun i => bit c i == 1).map fun i : Nat => (i : Int)).length ≤ 8 := by rw [List.length_map]; exact Nat.le_trans (List.length_filter_le _ _) (by rw [List.length_range]; omega)
  refine Ev.step (fun k => spec_l6Bits.l0.eq_2 ..) (evp (by omega) (evp (by omega) ?_))
  rw [digit c i (by omega) (by omega), w64s i (by omega)]
  rw [List.range_succ, List.filter_append, List.map_append] at hnx
  by_cases e : bit c i = 1
  ·
   refine evp (by omega) (evp (by omega) (evr hnx rfl |>.congr fun k => ?_))
   simp [List.filter_cons, e]
  ·
   refine evn (by omega) (hnx.congr fun k => ?_)
   simp [List.filter_cons, e]
theorem qU : ∀ n : Nat, n ≤ 8 → ∀ c : Nat, c < 2 ^ n → (((List.range n).filter fun i => bit c i == 1).map fun i : Nat => (i : Int)) = bitsV c := by decide +kernel
theorem jS (n c : Nat) (hn : n ≤ 8) (hc : c < 2 ^ n) : Ev (fun k => spec_l6Bits.f k (n : Int) (c : Int)) (bitsV c) := by
 have hp := pow8 n hn
 unfold spec_l6Bits.f
 rw [← qU n hn c hc]
 exact zQ n c hn (by omega) n 0 (by omega)
theorem jo : ∀ c : Nat, c < 256 → ∀ i : Nat, i < 8 → Go.bits .xor .i64 (c : Int) ((2 ^ i : Nat) : Int) = ((c ^^^ 2 ^ i : Nat) : Int) := by decide +kernel
theorem qV : ∀ n : Nat, n ≤ 8 → ∀ c : Nat, c < 2 ^ n → ∀ i : Nat, i < n → c ^^^ 2 ^ i < 2 ^ n := by
 intro n hn c hc i hi
 exact Nat.xor_lt_two_pow hc (Nat.pow_lt_pow_right (by omega) hi)
def zb (f : Nat → Bool) (n c : Nat) (win : Bool) : Bool := ((List.range n).all fun i => !(((decide (bit c i = 1)) == win) && (f (c ^^^ 2 ^ i) == win))) && (f c == win)
theorem qW (f : Nat → Bool) (n c : Nat) (win : Bool) (hn : n ≤ 8) (hc : c < 2 ^ n) : ∀ (d i : Nat), i + d = n →
  Ev (fun k => spec_l6Edge.l0 k (n : Int) ((List.range (2 ^ n)).map f) (c : Int) win (i : Int)) (((List.range' i d).all fun i => !(((decide (bit c i = 1)) == win) && (f (c ^^^ 2 ^ i) == win))) && (f c == win)) := by
 have hp := pow8 n hn
 have hlen : ((List.range (2 ^ n)).map f).length = 2 ^ n := by simp
 intro d
 induction d with
 | zero =>
  intro i hi
  refine Ev.step (fun k => spec_l6Edge.l0.eq_2 ..) (evn (by omega) (evp (by omega) (evp (by rw [hlen]; omega) (evs ?_))))
  rw [rdOf_map f _ c hc]; simp
 | succ d ih =>
  intro i hi
  have hnx := ih (i + 1) (by omega)
  have hx := qV n hn c hc i (by omega)
  refine Ev.step (fun k => spec_l6Edge.l0.eq_2 ..) (evp (by omega) (evp (by omega) ?_))
  rw [digit c i (by omega) (by omega), shl1 i (by omega), jo c (by omega) i (by omega), w64s i (by omega), rdOf_map f _ _ hx, hlen]
  have eb : (((bit c i : Nat) : Int) == 1) = decide (bit c i = 1) := by
   by_cases e : bit c i = 1
   ·
    rw [e]; rfl
   ·
    rw [decide_eq_false e]; exact beq_eq_false_iff_ne.2 (by omega)
  rw [eb, qF, List.all_cons]
  by_cases e1 : ((decide (bit c i = 1)) == win) = true
  ·
   refine evp e1 (evp (by omega) (evp (by omega) ?_))
   by_cases e2 : (f (c ^^^ 2 ^ i) == win) = true
   ·
    exact evp e2 (evs (by rw [e1, e2]; rfl))
   ·
    refine evn e2 (evr hnx ?_)
    rw [Bool.eq_false_iff.2 e2, Bool.and_false, Bool.not_false, Bool.true_and]
  ·
   refine evn e1 (evr hnx ?_)
   rw [Bool.eq_false_iff.2 e1, Bool.false_and, Bool.not_false, Bool.true_and]
theorem jT (f : Nat → Bool) (n c : Nat) (win : Bool) (hn : n ≤ 8) (hc : c < 2 ^ n) : Ev (fun k => spec_l6Edge.f k (n : Int) ((List.range (2 ^ n)).map f) (c : Int) win) (zb f n c win) := by
 unfold spec_l6Edge.f zb
 refine evr (qW f n c win hn hc n 0 (by omega)) ?_
 rw [qK]
def zc (l : List Int) (q : Int) (win : Bool) : List (List Int) := sortL cfS (((List.range (2 ^ l.length)).filter fun c => zb (winB l q) l.length c win).map bitsV)
theorem zZ (c : Nat) : (bitsV c).length ≤ 8 := by
 unfold bitsV; rw [List.length_map]; exact Nat.le_trans (List.length_filter_le _ _) (by simp)
theorem qs (f : Nat → Bool) (n : Nat) (win : Bool) (hn : n ≤ 8) : ∀ (d c : Nat) (L : List (List Int)), c + d = 2 ^ n → L.length ≤ c → (∀ r ∈ L, r.length ≤ 8) →
  Ev (fun k => spec_l6Edges.l0 k win L ((List.range (2 ^ n)).map f) (n : Int) (c : Int)) (zz (((List.range' c d).filter fun c => zb f n c win).map bitsV) L) := by
 have hp := pow8 n hn
 have hlen : ((List.range (2 ^ n)).map f).length = 2 ^ n := by simp
 intro d
 induction d with
 | zero =>
  intro c L hc hL hr
  exact Ev.step (fun k => spec_l6Edges.l0.eq_2 ..) (evn (by rw [hlen]; omega) (evs (by simp [zz])))
 | succ d ih =>
  intro c L hc hL hr
  refine Ev.step (fun k => spec_l6Edges.l0.eq_2 ..) (evp (by rw [hlen]; omega) (evb (jT f n c win hn (by omega)) ?_))
  rw [w64s c (by omega), qF]
  by_cases e : zb f n c win = true
  ·
   refine evp e (evb (jS n c hn (by omega)) (evb (kk L (bitsV c) (by omega) (fun r h => by have := hr r h; omega) (by have := zZ c; omega)) (evr (ih (c + 1) (ze (bitsV c) L) (by omega) (by rw [jm]; omega) (fun r h => ?_)) ?_)))
   ·
    rcases List.mem_cons.1 ((zj _ _).mem_iff.1 h) with rfl | h
    ·
     exact zZ c
    ·
     exact hr r h
   ·
    rw [List.filter_cons_of_pos (p := fun c => zb f n c win) e]; rfl
  ·
   refine evn e (evr (ih (c + 1) L (by omega) (by omega) hr) ?_)
   rw [List.filter_cons_of_neg (p := fun c => zb f n c win) e]
theorem ql {l : List Int} {q : Int} (h : Vot l q) (win : Bool) : Ev (fun k => spec_l6Edges.f k l q win) (zc l q win) := by
 have hp := pow8 l.length h.1.2
 unfold spec_l6Edges.f zc
 refine evb (zx h) (evr (qs (winB l q) l.length win h.1.2 (2 ^ l.length) 0 [] (by omega) (by simp) (by simp)) ?_)
 rw [qT, qK]
def za (l : List Int) (q : Int) (win : Bool) : List (List Int) × Bool := if voteB l q = true then (zc l q win, true) else ([], false)
theorem jU (l : List Int) (q : Int) (hl : l.length < 4611686018427387904) : Ev (fun k => spec_LeastWins.f k l q) (za l q true) := by
 unfold spec_LeastWins.f za
 refine evb (zl l q hl) ?_
 by_cases e : voteB l q = true
 ·
  rw [if_pos e]; exact evp e (evb (ql ((voteB_iff l q).1 e) true) (evs rfl))
 ·
  rw [if_neg e]; exact evn e (evs rfl)
theorem kl (l : List Int) (q : Int) (hl : l.length < 4611686018427387904) : Ev (fun k => spec_GreatestLosses.f k l q) (za l q false) := by
 unfold spec_GreatestLosses.f za
 refine evb (zl l q hl) ?_
 by_cases e : voteB l q = true
 ·
  rw [if_pos e]; exact evp e (evb (ql ((voteB_iff l q).1 e) false) (evs rfl))
 ·
  rw [if_neg e]; exact evn e (evs rfl)
theorem zs : ∀ n : Nat, n ≤ 8 → ∀ c : Nat, c < 2 ^ n → ∀ i : Nat, i < 8 → (bit c i = 1 → i < n ∧ c ^^^ 2 ^ i = clrN c i) := by decide +kernel
theorem zn (c : Nat) (i : Nat) : ((i : Int) ∈ bitsV c) ↔ (i < 8 ∧ bit c i = 1) := by
 unfold bitsV bit
 constructor
 ·
  intro h
  obtain ⟨j, hj, e⟩ := List.mem_map.1 h
  obtain ⟨h1, h2⟩ := List.mem_filter.1 hj
  obtain rfl : j = i := by omega
  exact ⟨List.mem_range.1 h1, by simpa using h2⟩
 ·
  rintro ⟨h1, h2⟩
  exact List.mem_map.2 ⟨i, List.mem_filter.2 ⟨List.mem_range.2 h1, by simpa using h2⟩, rfl⟩
theorem qt (f : Nat → Bool) (n c : Nat) (hn : n ≤ 8) (hc : c < 2 ^ n) : (((bitsV c).all fun i => !(f (clrN c i.toNat))) && f c) = zb f n c true := by
 unfold zb
 congr 1
 ·
  rw [Bool.eq_iff_iff, qN, qN]
  constructor
  ·
   intro h i hi
   by_cases e : bit c i = 1
   ·
    have h2 := h i ((zn c i).2 ⟨by have := List.mem_range.1 hi; omega, e⟩)
    rw [qH] at h2
    rw [(zs n hn c hc i (by have := List.mem_range.1 hi; omega) e).2, e]
    simpa using h2
   ·
    simp [e]
  ·
   intro h x hx
   obtain ⟨i, hi, rfl⟩ := bitsV_in hx
   have e := ((zn c i).1 hx).2
   have h2 := h i (List.mem_range.2 (zs n hn c hc i hi e).1)
   rw [(zs n hn c hc i hi e).2, e] at h2
   rw [qH]
   simpa using h2
 ·
  cases f c <;> rfl
theorem jV (l : List Int) (q : Int) (hl : l.length < 4611686018427387904) : Ev (fun k => impl_LeastWins.f k l q) (za l q true) := by
 unfold impl_LeastWins.f za
 refine evb (zf l q hl) ?_
 by_cases e : voteB l q = true
 ·
  have h := (voteB_iff l q).1 e
  rw [if_pos e]
  refine evp e ?_
  obtain ⟨K, hK⟩ := zY h
  refine ⟨K, fun k hk => ?_⟩
  have hp := pow8 l.length h.1.2
  dsimp only
  rw [if_pos (hK k hk).1]
  unfold zc
  rw [filter_congr_ (leastV k l q) (fun c => zb (winB l q) l.length c true) _ (fun s hs => ?_)]
  have hs' := List.mem_range.1 hs
  rw [← qt (winB l q) l.length s h.1.2 hs']
  unfold leastV
  rw [(hK k hk).2 s (by omega)]
  congr 1
  refine all_congr_ _ _ _ fun x hx => ?_
  obtain ⟨i, hi, rfl⟩ := bitsV_in hx
  rw [qH, (hK k hk).2 _ (clrN_bits s (by omega) i hi).2]
 ·
  rw [if_neg e]; exact evn e (evs rfl)
theorem qu : ∀ n : Nat, n ≤ 8 → ∀ c : Nat, c < 2 ^ n → ∀ i : Nat, i < 8 → decide (bit (2 ^ n - 1 - c) i = 1) = (decide (i < n) && !decide (bit c i = 1)) := by decide +kernel
theorem qv : ∀ c : Nat, c < 256 → ∀ i : Nat, i < 8 → (bit c i = 1 ∨ c ^^^ 2 ^ i = setN c i) := by decide +kernel
theorem zo (n : Nat) (hn : n ≤ 8) (c : Nat) (hc : c < 2 ^ n) (i : Nat) (hi : i < 8) : (bit (2 ^ n - 1 - c) i = 1 ↔ (i < n ∧ ¬ bit c i = 1)) ∧ (i < n → ¬ bit c i = 1 → c ^^^ 2 ^ i = setN c i) := by
 have hp := pow8 n hn
 have h1 := qu n hn c hc i hi
 refine ⟨?_, fun _ h => (qv c (by omega) i hi).resolve_left h⟩
 rw [Bool.eq_iff_iff, decide_eq_true_eq, Bool.and_eq_true, decide_eq_true_eq, Bool.not_eq_true', decide_eq_false_iff_not] at h1
 exact h1
theorem zI (c : Nat) (i : Nat) : ((i : Int) ∈ bitsV c) ↔ (i < 8 ∧ bit c i = 1) := by
 unfold bitsV bit
 constructor
 ·
  intro h
  obtain ⟨j, hj, e⟩ := List.mem_map.1 h
  obtain ⟨h1, h2⟩ := List.mem_filter.1 hj
  obtain rfl : j = i := by omega
  exact ⟨List.mem_range.1 h1, by simpa using h2⟩
 ·
  rintro ⟨h1, h2⟩
  exact List.mem_map.2 ⟨i, List.mem_filter.2 ⟨List.mem_range.2 h1, by simpa using h2⟩, rfl⟩
theorem qX (f : Nat → Bool) (n c : Nat) (hn : n ≤ 8) (hc : c < 2 ^ n) : (((bitsV (2 ^ n - 1 - c)).all fun i => f (setN c i.toNat)) && !(f c)) = zb f n c false := by
 unfold zb
 congr 1
 ·
  rw [Bool.eq_iff_iff, qN, qN]
  constructor
  ·
   intro h i hi
   have hi' := List.mem_range.1 hi
   by_cases e : bit c i = 1
   ·
    simp [e]
   ·
    have h2 := h i ((zI _ i).2 ⟨by omega, (zo n hn c hc i (by omega)).1.2 ⟨hi', e⟩⟩)
    rw [qH] at h2
    rw [(zo n hn c hc i (by omega)).2 hi' e, h2]
    simp
  ·
   intro h x hx
   obtain ⟨i, hi, rfl⟩ := bitsV_in hx
   have e := (zo n hn c hc i hi).1.1 ((zI _ i).1 hx).2
   have h2 := h i (List.mem_range.2 e.1)
   rw [(zo n hn c hc i hi).2 e.1 e.2] at h2
   rw [qH]
   simpa [e.2] using h2
 ·
  cases f c <;> rfl
theorem km (l : List Int) (q : Int) (hl : l.length < 4611686018427387904) : Ev (fun k => impl_GreatestLosses.f k l q) (za l q false) := by
 unfold impl_GreatestLosses.f za
 refine evb (zf l q hl) ?_
 by_cases e : voteB l q = true
 ·
  have h := (voteB_iff l q).1 e
  rw [if_pos e]
  refine evp e ?_
  obtain ⟨K, hK⟩ := zY h
  refine ⟨K, fun k hk => ?_⟩
  have hp := pow8 l.length h.1.2
  dsimp only
  rw [if_pos (hK k hk).1]
  unfold zc
  rw [filter_congr_ (lossV k l q) (fun c => zb (winB l q) l.length c false) _ (fun s hs => ?_)]
  have hs' := List.mem_range.1 hs
  rw [← qX (winB l q) l.length s h.1.2 hs']
  unfold lossV
  rw [(hK k hk).2 s (by omega)]
  congr 1
  refine all_congr_ _ _ _ fun x hx => ?_
  obtain ⟨i, hi, rfl⟩ := bitsV_in hx
  rw [qH, (hK k hk).2 _ (setN_bits s (by omega) i hi).2]
 ·
  rw [if_neg e]; exact evn e (evs rfl)
theorem qa : ∀ a b : List Int, riseB a = true → riseB b = true → (∀ x, x ∈ a ↔ x ∈ b) → a = b
 | [], [], _, _, _ => rfl
 | [], y :: b, _, _, h => absurd ((h y).2 List.mem_cons_self) (by simp)
 | x :: a, [], _, _, h => absurd ((h x).1 List.mem_cons_self) (by simp)
 | x :: a, y :: b, ha, hb, h => by
  have la := riseB_lt a x ha
  have lb := riseB_lt b y hb
  have e : x = y := by
   rcases List.mem_cons.1 ((h x).1 List.mem_cons_self) with e | hx
   ·
    exact e
   ·
    rcases List.mem_cons.1 ((h y).2 List.mem_cons_self) with e | hy
    ·
     exact e.symm
    ·
     have := la y hy; have := lb x hx; omega
  subst e
  rw [qa a b (riseB_tail ha) (riseB_tail hb) (fun z => ⟨fun hz => ?_, fun hz => ?_⟩)]
  ·
   rcases List.mem_cons.1 ((h z).1 (List.mem_cons_of_mem _ hz)) with e | hz'
   ·
    have := la z hz; omega
   ·
    exact hz'
  ·
   rcases List.mem_cons.1 ((h z).2 (List.mem_cons_of_mem _ hz)) with e | hz'
   ·
    have := lb z hz; omega
   ·
    exact hz'
theorem jH {n : Nat} {s : List Int} (h : setB n s = true) : s = plc (fun i => decide ((i : Int) ∈ s)) n := by
 obtain ⟨h1, h2⟩ := (zm n s).1 h
 refine qa _ _ h2 (zr _ n) (fun x => ⟨fun hx => ?_, fun hx => ?_⟩)
 ·
  obtain ⟨i, rfl⟩ := qL (h1 x hx).1
  exact List.mem_map.2 ⟨i, List.mem_filter.2 ⟨List.mem_range.2 (by have := h1 _ hx; omega), by simpa using hx⟩, rfl⟩
 ·
  obtain ⟨i, hi, rfl⟩ := List.mem_map.1 hx
  simpa using (List.mem_filter.1 hi).2
theorem zt {n : Nat} {s : List Int} (h : setB n s = true) : codeOf s < 2 ^ n ∧ ∀ i, i < n → (bit (codeOf s) i = 1 ↔ (i : Int) ∈ s) := by
 have hp := zC (fun i => decide ((i : Int) ∈ s)) n
 rw [← jH h] at hp
 refine ⟨hp.1, fun i hi => ?_⟩
 rw [hp.2 i hi]
 by_cases e : (i : Int) ∈ s
 ·
  simp [e]
 ·
  simp [e]
theorem qY (l : List Int) : isum l = sumN (fun k => l.getD k 0) 0 l.length := by
 rw [← isum_map (fun k => l.getD k 0) l.length 0]
 congr 1
 apply List.ext_getElem
 ·
  simp
 ·
  intro k h1 h2
  simp only [List.getElem_map, List.getElem_range', Nat.zero_add, Nat.one_mul]
  rw [qA, qC h1]; rfl
theorem qb : ∀ n : Nat, n ≤ 8 → ∀ c : Nat, c < 2 ^ n → ∀ i : Nat, i < n → bit c i + bit (2 ^ n - 1 - c) i = 1 := by decide +kernel
theorem jp {l : List Int} (h8 : l.length ≤ 8) (c : Nat) (hc : c < 2 ^ l.length) : wsum l c + wsum l (2 ^ l.length - 1 - c) = isum l := by
 unfold wsum
 rw [← sumN_add, qY]
 refine sumN_congr' _ _ _ _ (fun k h1 h2 => ?_)
 have := qb l.length h8 c hc k (by omega)
 unfold wterm
 rw [← Int.mul_add, show ((bit c k : Nat) : Int) + ((bit (2 ^ l.length - 1 - c) k : Nat) : Int) = 1 by omega, Int.mul_one]
theorem zu {l : List Int} (q : Int) (h8 : l.length ≤ 8) (c : Nat) (hc : c < 2 ^ l.length) : winB l (isum l + 1 - q) c = !(winB l q (2 ^ l.length - 1 - c)) := by
 have h := jp h8 c hc
 unfold winB
 by_cases e : wsum l (2 ^ l.length - 1 - c) ≥ q
 ·
  rw [decide_eq_true e, decide_eq_false (by omega)]; rfl
 ·
  rw [decide_eq_false e, decide_eq_true (by omega)]; rfl
theorem zD {l : List Int} {q : Int} (h : Vot l q) : Vot l (isum l + 1 - q) := ⟨h.1, h.2.1, by have := h.2.2; omega, by have := h.2.2; omega⟩
theorem zR (f g : Nat → Int) : ∀ d i, (∀ k, i ≤ k → k < i + d → f k ≤ g k) → sumN f i d ≤ sumN g i d
 | 0, _, _ => Int.le_refl _
 | d + 1, i, h => by
  have h1 := h i (Nat.le_refl _) (by omega)
  have h2 := zR f g d (i + 1) (fun k a b => h k (by omega) (by omega))
  simp only [sumN]; omega
theorem qc {l : List Int} {q : Int} (h : Vot l q) (t s : Nat) (hts : ∀ i, i < l.length → bit t i = 1 → bit s i = 1) (ht : winB l q t = true) : winB l q s = true := by
 have : wsum l t ≤ wsum l s := by
  unfold wsum
  refine zR _ _ _ _ (fun k h1 h2 => ?_)
  unfold wterm
  have hk := (h.at_ k).1
  have b1 := bit_lt t k
  have b2 := hts k (by omega)
  by_cases e : bit t k = 1
  ·
   rw [e, b2 e]; exact Int.le_refl _
  ·
   rw [show bit t k = 0 by omega]
   have : 0 ≤ l.getD k 0 * ((bit s k : Nat) : Int) := Int.mul_nonneg hk (by omega)
   simpa using this
 unfold winB at ht ⊢
 have := of_decide_eq_true ht
 exact decide_eq_true (by omega)
theorem qm : ∀ s : Nat, s < 256 → ∀ i : Nat, i < 8 → ∀ j : Nat, j < 8 → bit (s ^^^ 2 ^ i) j = if j = i then 1 - bit s i else bit s j := by decide +kernel
theorem zE : ∀ s : Nat, s < 256 → ∀ i : Nat, i < 8 → (bit s i = 1 ∧ s ^^^ 2 ^ i < s) ∨ (bit s i = 0 ∧ s < s ^^^ 2 ^ i) := by decide +kernel
theorem zF {f : Nat → Bool} {n c : Nat} {win : Bool} (hf : f c = win) (he : ¬ zb f n c win = true) : ∃ i, i < n ∧ ((decide (bit c i = 1)) == win) = true ∧ f (c ^^^ 2 ^ i) = win := by
 unfold zb at he
 rw [hf, beq_self_eq_true, Bool.and_true, qN] at he
 have ⟨i, hi⟩ := Classical.not_forall.1 he
 have ⟨hm, hi⟩ := Classical.not_imp.1 hi
 refine ⟨i, List.mem_range.1 hm, ?_⟩
 simp only [Bool.not_eq_true, Bool.not_eq_false', Bool.and_eq_true, beq_iff_eq] at hi
 exact ⟨by rw [beq_iff_eq]; exact hi.1, hi.2⟩
theorem jq {l : List Int} {q : Int} (h8 : l.length ≤ 8) : ∀ (m s : Nat), s ≤ m → s < 2 ^ l.length → winB l q s = true → ∃ t, t < 2 ^ l.length ∧ zb (winB l q) l.length t true = true ∧ ∀ i, i < l.length → bit t i = 1 → bit s i = 1 := by
 have hp := pow8 l.length h8
 intro m
 induction m with
 | zero =>
  intro s hm hs hw
  by_cases he : zb (winB l q) l.length s true = true
  ·
   exact ⟨s, hs, he, fun i _ h => h⟩
  ·
   obtain ⟨i, hi, h1, h2⟩ := zF hw he
   have hb : bit s i = 1 := by simpa using h1
   rcases zE s (by omega) i (by omega) with h3 | h3 <;> omega
 | succ m ih =>
  intro s hm hs hw
  by_cases he : zb (winB l q) l.length s true = true
  ·
   exact ⟨s, hs, he, fun i _ h => h⟩
  ·
   obtain ⟨i, hi, h1, h2⟩ := zF hw he
   have hb : bit s i = 1 := by simpa using h1
   have h3 : s ^^^ 2 ^ i < s := by rcases zE s (by omega) i (by omega) with h3 | h3 <;> omega
   obtain ⟨t, ht, he2, hsub⟩ := ih (s ^^^ 2 ^ i) (by omega) (by omega) h2
   refine ⟨t, ht, he2, fun j hj hbj => ?_⟩
   have h4 := hsub j hj hbj
   rw [qm s (by omega) i (by omega) j (by omega)] at h4
   by_cases e : j = i
   ·
    rw [e]; exact hb
   ·
    rw [if_neg e] at h4; exact h4
theorem jI {l : List Int} {q : Int} (h8 : l.length ≤ 8) : ∀ (m s : Nat), 2 ^ l.length ≤ m + s → s < 2 ^ l.length → winB l q s = false → ∃ t, t < 2 ^ l.length ∧ zb (winB l q) l.length t false = true ∧ ∀ i, i < l.length → bit s i = 1 → bit t i = 1 := by
 have hp := pow8 l.length h8
 intro m
 induction m with
 | zero => intro s hm hs hw; omega
 | succ m ih =>
  intro s hm hs hw
  by_cases he : zb (winB l q) l.length s false = true
  ·
   exact ⟨s, hs, he, fun i _ h => h⟩
  ·
   obtain ⟨i, hi, h1, h2⟩ := zF hw he
   have hb : ¬ bit s i = 1 := by simpa using h1
   have h3 : s < s ^^^ 2 ^ i := by rcases zE s (by omega) i (by omega) with h3 | h3 <;> omega
   obtain ⟨t, ht, he2, hsub⟩ := ih (s ^^^ 2 ^ i) (by omega) (qV l.length h8 s hs i hi) h2
   refine ⟨t, ht, he2, fun j hj hbj => hsub j hj ?_⟩
   rw [qm s (by omega) i (by omega) j (by omega)]
   by_cases e : j = i
   ·
    rw [e] at hbj; exact absurd hbj hb
   ·
    rw [if_neg e]; exact hbj
theorem qd {f : Nat → Bool} {n c : Nat} {win : Bool} (h : zb f n c win = true) : f c = win := by
 unfold zb at h
 exact eq_of_beq (Bool.and_eq_true_iff.1 h).2
theorem zk {l : List Int} {q : Int} {win : Bool} (r : List Int) : r ∈ zc l q win ↔ ∃ t, t < 2 ^ l.length ∧ zb (winB l q) l.length t win = true ∧ r = bitsV t := by
 unfold zc sortL
 rw [(List.mergeSort_perm _ _).mem_iff, List.mem_map]
 constructor
 ·
  rintro ⟨t, ht, rfl⟩
  have := List.mem_filter.1 ht
  exact ⟨t, List.mem_range.1 this.1, this.2, rfl⟩
 ·
  rintro ⟨t, h1, h2, rfl⟩
  exact ⟨t, List.mem_filter.2 ⟨List.mem_range.2 h1, h2⟩, rfl⟩
theorem jr (n t : Nat) (ht : t < 2 ^ n) (i : Nat) (hi : n ≤ i) : bit t i = 0 := by
 unfold bit
 rw [Nat.div_eq_of_lt (Nat.lt_of_lt_of_le ht (Nat.pow_le_pow_right (by decide) hi))]
theorem zv {n t : Nat} (hn : n ≤ 8) (ht : t < 2 ^ n) (x : Int) : x ∈ bitsV t ↔ ∃ i : Nat, i < n ∧ bit t i = 1 ∧ x = i := by
 constructor
 ·
  intro hx
  obtain ⟨i, hi, rfl⟩ := bitsV_in hx
  have := (zn t i).1 hx
  refine ⟨i, ?_, this.2, rfl⟩
  rcases Nat.lt_or_ge i n with h | h
  ·
   exact h
  ·
   have := jr n t ht i h; omega
 ·
  rintro ⟨i, h1, h2, rfl⟩
  exact (zn t i).2 ⟨by omega, h2⟩
theorem jJ {l : List Int} {q : Int} (h : Vot l q) {s : List Int} (hs : setB l.length s = true) : ((zc l q true).any fun r => r.all fun x => decide (x ∈ s)) = winB l q (codeOf s) := by
 have h8 := h.1.2
 obtain ⟨hc, hb⟩ := zt hs
 rw [Bool.eq_iff_iff, List.any_eq_true]
 constructor
 ·
  rintro ⟨r, hr, ha⟩
  obtain ⟨t, ht, he, rfl⟩ := (zk r).1 hr
  refine qc h t _ (fun i hi hbi => (hb i hi).2 ?_) (qd he)
  have := List.all_eq_true.1 ha (i : Int) ((zv h8 ht _).2 ⟨i, hi, hbi, rfl⟩)
  simpa using this
 ·
  intro hw
  obtain ⟨t, ht, he, hsub⟩ := jq h8 _ _ (Nat.le_refl _) hc hw
  refine ⟨bitsV t, (zk _).2 ⟨t, ht, he, rfl⟩, List.all_eq_true.2 fun x hx => ?_⟩
  obtain ⟨i, hi, hbi, rfl⟩ := (zv h8 ht x).1 hx
  exact decide_eq_true ((hb i hi).1 (hsub i hi hbi))
theorem qZ {l : List Int} {q : Int} (h : Vot l q) {s : List Int} (hs : setB l.length s = true) : ((zc l q false).any fun r => s.all fun x => decide (x ∈ r)) = !(winB l q (codeOf s)) := by
 have h8 := h.1.2
 obtain ⟨hc, hb⟩ := zt hs
 obtain ⟨h1, _⟩ := (zm _ _).1 hs
 rw [Bool.eq_iff_iff, List.any_eq_true, Bool.not_eq_true']
 constructor
 ·
  rintro ⟨r, hr, ha⟩
  obtain ⟨t, ht, he, rfl⟩ := (zk r).1 hr
  rw [Bool.eq_false_iff]
  intro hw
  have := qc h _ t (fun i hi hbi => ?_) hw
  ·
   rw [qd he] at this; cases this
  ·
   have h2 := List.all_eq_true.1 ha (i : Int) ((hb i hi).1 hbi)
   obtain ⟨j, hj, hbj, e⟩ := (zv h8 ht _).1 (of_decide_eq_true h2)
   obtain rfl : i = j := by omega
   exact hbj
 ·
  intro hw
  obtain ⟨t, ht, he, hsub⟩ := jI h8 (2 ^ l.length) _ (by omega) hc hw
  refine ⟨bitsV t, (zk _).2 ⟨t, ht, he, rfl⟩, List.all_eq_true.2 fun x hx => ?_⟩
  obtain ⟨hx0, hx1⟩ := h1 x hx
  obtain ⟨i, rfl⟩ := qL hx0
  exact decide_eq_true ((zv h8 ht _).2 ⟨i, by omega, hsub i (by omega) ((hb i (by omega)).2 hx), rfl⟩)
def zi (n : Nat) (s : List Int) : List Int := plc (fun i => !decide ((i : Int) ∈ s)) n
theorem js {n : Nat} (hn : n ≤ 8) {s : List Int} (hs : setB n s = true) : codeOf (zi n s) = 2 ^ n - 1 - codeOf s := by
 obtain ⟨hc, hb⟩ := zt hs
 have hp := zC (fun i => !decide ((i : Int) ∈ s)) n
 have hpw := pow8 n hn
 refine Nat.eq_of_testBit_eq (fun i => ?_)
 rcases Nat.lt_or_ge i n with hi | hi
 ·
  have e1 := hp.2 i hi
  have e2 := qb n hn _ hc i hi
  have e3 := hb i hi
  have b1 := bit_lt (codeOf s) i
  rw [zh] at e1
  have t2 := zh (2 ^ n - 1 - codeOf s) i
  by_cases e : (i : Int) ∈ s
  ·
   have := e3.2 e
   simp only [e, decide_true, Bool.not_true, Bool.false_eq_true, if_false] at e1
   rw [show bit (2 ^ n - 1 - codeOf s) i = 0 by omega] at t2
   by_cases x1 : (codeOf (zi n s)).testBit i = true
   ·
    unfold zi at x1; rw [if_pos x1] at e1; omega
   ·
    by_cases x2 : (2 ^ n - 1 - codeOf s).testBit i = true
    ·
     rw [if_pos x2] at t2; omega
    ·
     rw [Bool.eq_false_iff.2 x1, Bool.eq_false_iff.2 x2]
  ·
   have h0 : ¬ bit (codeOf s) i = 1 := fun h => e (e3.1 h)
   simp only [e, decide_false, Bool.not_false, if_true] at e1
   rw [show bit (2 ^ n - 1 - codeOf s) i = 1 by omega] at t2
   by_cases x1 : (codeOf (zi n s)).testBit i = true
   ·
    by_cases x2 : (2 ^ n - 1 - codeOf s).testBit i = true
    ·
     rw [x1, x2]
    ·
     rw [if_neg x2] at t2; omega
   ·
    unfold zi at x1; rw [if_neg x1] at e1; omega
 ·
  have h1 : codeOf (zi n s) < 2 ^ i := Nat.lt_of_lt_of_le hp.1 (Nat.pow_le_pow_right (by decide) hi)
  have h2 : 2 ^ n - 1 - codeOf s < 2 ^ i := Nat.lt_of_lt_of_le (by omega : 2 ^ n - 1 - codeOf s < 2 ^ n) (Nat.pow_le_pow_right (by decide) hi)
  rw [Nat.testBit_lt_two_pow h1, Nat.testBit_lt_two_pow h2]
theorem jt {l : List Int} {q : Int} (h : Vot l q) {s : List Int} (hs : setB l.length s = true) : winsWith l (isum l + 1 - q) (zi l.length s) = (!(winB l q (codeOf s)), true) := by
 obtain ⟨hc, _⟩ := zt hs
 have hp := pow8 l.length h.1.2
 unfold winsWith
 rw [if_pos ⟨(voteB_iff _ _).2 (zD h), jG _ _⟩, js h.1.2 hs, zu q h.1.2 _ (by omega), show 2 ^ l.length - 1 - (2 ^ l.length - 1 - codeOf s) = codeOf s by omega]
theorem qi {l : List Int} {q : Int} (h : Vot l q) : (properB l (isum l + 1 - q)).1 = (strongB l q).1 ∧ (properB l (isum l + 1 - q)).2 = true := by
 have hp := pow8 l.length h.1.2
 unfold properB strongB
 rw [if_pos ((voteB_iff _ _).2 (zD h)), if_pos ((voteB_iff _ _).2 h)]
 refine ⟨?_, rfl⟩
 simp only
 rw [Bool.eq_iff_iff, qN, qN]
 refine forall_congr' fun c => forall_congr' fun hc => ?_
 have hc' := List.mem_range.1 hc
 rw [zu q h.1.2 c hc', zu q h.1.2 _ (by omega), show 2 ^ l.length - 1 - (2 ^ l.length - 1 - c) = c by omega]
 cases winB l q c <;> cases winB l q (2 ^ l.length - 1 - c) <;> simp
theorem zp {α : Type} (p : α → Bool) : ∀ L : List α, (L.filter p).length + (L.filter fun x => !(p x)).length = L.length
 | [] => rfl
 | x :: L => by
  have := zp p L
  by_cases e : p x = true
  ·
   rw [List.filter_cons_of_pos e, List.filter_cons_of_neg (by simp [e])]; simp only [List.length_cons]; omega
  ·
   rw [List.filter_cons_of_neg e, List.filter_cons_of_pos (by simp [e])]; simp only [List.length_cons]; omega
theorem zM (n : Nat) : ((List.range n).map fun c => n - 1 - c).Perm (List.range n) := by
 have : ((List.range n).map fun c => n - 1 - c) = (List.range n).reverse := by
  apply List.ext_getElem
  ·
   simp
  ·
   intro k h1 h2
   simp at h1
   simp [List.getElem_reverse]
 rw [this]; exact List.reverse_perm _
theorem qw {l : List Int} {q : Int} (h : Vot l q) : (zd l q).1 + (zd l (isum l + 1 - q)).1 = ((2 ^ l.length : Nat) : Int) ∧ (zd l (isum l + 1 - q)).2 = true := by
 unfold zd
 rw [if_pos ((voteB_iff _ _).2 (zD h)), if_pos ((voteB_iff _ _).2 h)]
 refine ⟨?_, rfl⟩
 have e1 : ((List.range (2 ^ l.length)).filter (winB l (isum l + 1 - q))).length = ((List.range (2 ^ l.length)).filter fun c => !(winB l q c)).length := by
  have e2 : (List.range (2 ^ l.length)).filter (winB l (isum l + 1 - q)) = (List.range (2 ^ l.length)).filter fun c => !(winB l q (2 ^ l.length - 1 - c)) := List.filter_congr fun c hc => zu q h.1.2 c (List.mem_range.1 hc)
  rw [e2]
  have e3 := (zM (2 ^ l.length)).filter (fun c => !(winB l q c))
  rw [← e3.length_eq, List.filter_map, List.length_map]
  rfl
 have e4 := zp (winB l q) (List.range (2 ^ l.length))
 rw [List.length_range] at e4
 simp only
 rw [e1]; omega
theorem zS (l : List (List Int)) (i : Nat) (hi : i < l.length) : rd_L3 l (i : Int) = l[i] := by simp [rd_L3, hi]
theorem qn (T : List (List Int)) (hT : T.length ≤ 1000000) (h : ∀ r ∈ T, r.length ≤ 1000000) : Ev (fun k => laws_rTable.f k T T) true := by
 unfold laws_rTable.f
 refine evp rfl ?_
 have go : ∀ d i : Nat, i + d = T.length → Ev (fun k => laws_rTable.l0 k T T (i : Int)) true := by
  intro d
  induction d with
  | zero => intro i hi; exact Ev.step (fun k => laws_rTable.l0.eq_2 ..) (evn (by omega) (evs rfl))
  | succ d ih =>
   intro i hi
   refine Ev.step (fun k => laws_rTable.l0.eq_2 ..) (evp (by omega) (evp (by omega) (evp (by omega) ?_)))
   rw [zS T i (by omega), w64s i (by omega)]
   exact evb (jz _ _ (by have := h T[i] (qM _); omega)) (evp (by simp) (ih (i + 1) (by omega)))
 exact go T.length 0 (by omega)
theorem ju (l : List Int) (x : Int) (hl : l.length ≤ 1048576) : ∀ (d i : Nat), i + d = l.length → Ev (fun k => laws_rHas.l0 k l x (i : Int)) (decide (x ∈ l.drop i)) := by
 intro d
 induction d with
 | zero =>
  intro i hi
  refine Ev.step (fun k => laws_rHas.l0.eq_2 ..) (evn (by omega) (evs ?_))
  simp [qD (show l.length ≤ i by omega)]
 | succ d ih =>
  intro i hi
  refine Ev.step (fun k => laws_rHas.l0.eq_2 ..) (evp (by omega) (evp (by omega) ?_))
  have ea : l.getD i 0 = l[i] := by rw [qA, qC (show i < l.length by omega)]; rfl
  rw [w64s i (by omega), rd_nat, qB (show i < l.length by omega), ea]
  by_cases e : l[i] = x
  ·
   exact evp e (evs (by simp [e]))
  ·
   refine evn e (evr (ih (i + 1) (by omega)) ?_)
   simp only [List.mem_cons, show (x = l[i]) = False from eq_false (fun h => e h.symm), false_or]
theorem qx (l : List Int) (x : Int) (hl : l.length ≤ 1048576) : Ev (fun k => laws_rHas.f k l x) (decide (x ∈ l)) := by
 unfold laws_rHas.f
 exact evr (ju l x hl l.length 0 (by omega)) (by simp)
theorem jv {n t : Nat} (hn : n ≤ 8) (ht : t < 2 ^ n) : (bitsV t).length ≤ 8 := by
 have h0 : ∀ c : Nat, c < 256 → (bitsV c).length ≤ 8 := by decide +kernel
 have := pow8 n hn
 exact h0 t (by omega)
theorem ja {l : List Int} {q : Int} {win : Bool} (h8 : l.length ≤ 8) : (zc l q win).length ≤ 256 ∧ ∀ r ∈ zc l q win, r.length ≤ 8 := by
 refine ⟨?_, fun r hr => ?_⟩
 ·
  unfold zc sortL
  rw [(List.mergeSort_perm _ _).length_eq, List.length_map]
  have := List.length_filter_le (fun c => zb (winB l q) l.length c win) (List.range (2 ^ l.length))
  rw [List.length_range] at this
  have hp := pow8 l.length h8
  omega
 ·
  obtain ⟨t, ht, _, rfl⟩ := (zk r).1 hr
  exact jv h8 ht
theorem jW {l : List Int} (hl : zg l) : ∃ r, Ev (fun k => spec_DrawWinsWith.f k l) r ∧ r.1.length ≤ 9 ∧ r.2.2.length ≤ 9 := by
 obtain ⟨v, hv, h⟩ := ji hl 0 0 8 (by omega) (by omega)
 unfold VDr at h
 have hn : ∃ n : Nat, n ≤ 8 ∧ (if (v.1.length : Int) < 8 then (v.1.length : Int) else 8) = (n : Int) := by
  by_cases e : (v.1.length : Int) < 8
  ·
   exact ⟨v.1.length, by omega, by rw [if_pos e]⟩
  ·
   exact ⟨8, by omega, by rw [if_neg e]; rfl⟩
 obtain ⟨n, hn8, en⟩ := hn
 obtain ⟨x, p1, s1, e1, x0, x1, g1, g2⟩ := zA hl v.2.2.1 v.2.2.2 256 (by omega)
 obtain ⟨X, rfl⟩ := qL x0
 have hb : Ev (fun k => spec_l6Bits.f k (n : Int) (X : Int)) (((List.range n).filter fun i => bit X i == 1).map fun i : Nat => (i : Int)) := by
  unfold spec_l6Bits.f
  have := zQ n X hn8 (by omega) n 0 (by omega)
  simpa using this
 have lb : (((List.range n).filter fun i => bit X i == 1).map fun i : Nat => (i : Int)).length ≤ 8 := by
  rw [List.length_map]
  have := List.length_filter_le (fun i => bit X i == 1) (List.range n)
  rw [List.length_range] at this
  omega
 generalize (((List.range n).filter fun i => bit X i == 1).map fun i : Nat => (i : Int)) = B at hb lb
 obtain ⟨b, p2, s2, e2, g3, g4⟩ := jh hl p1 s1 20 (by omega)
 unfold spec_DrawWinsWith.f spec_l1Cur_vote.f
 have el : spec_l1Least.f (v.1.length : Int) 8 = some (n : Int) := (qk _ _).trans (by rw [en])
 by_cases c : b = true
 ·
  obtain ⟨i, hi, _, _⟩ := ki hl p2 s2 v.1 v.2.1 (by omega)
  exact ⟨_, evb (evb hv (evs rfl)) (evb (evc el) (evb (evc e1) (evb hb (evb (evc e2) (evp c (evb hi (evp (by omega) (evs rfl)))))))), h.1, by simp; omega⟩
 ·
  exact ⟨_, evb (evb hv (evs rfl)) (evb (evc el) (evb (evc e1) (evb hb (evb (evc e2) (evn c (evs rfl)))))), h.1, by simp only; omega⟩
theorem jX (s : List Int) (x5 : Bool) (x9 x13 : List (List Int)) (l : List Int) (q : Int) (dl : List Int) (dq : Int) (hs : s.length ≤ 9) (h8 : l.length ≤ 8) (hK : Ev (fun k => laws_FnVotes.l1 k s x5 x9 x13 (zi l.length s) false false 0 dl dq) true) : ∀ d i, i + d = l.length → Ev (fun k => laws_FnVotes.l0 k s x5 x9 x13 (zi i s) (i : Int) l q dl dq) true := by
 intro d
 induction d with
 | zero =>
  intro i hi
  obtain rfl : i = l.length := by omega
  exact Ev.step (fun k => laws_FnVotes.l0.eq_2 ..) (evn (by omega) hK)
 | succ d ih =>
  intro i hi
  have hnx := ih (i + 1) (by omega)
  have hln := zL (fun i => !decide ((i : Int) ∈ s)) i
  unfold zi at hnx ⊢
  rw [zq] at hnx
  refine Ev.step (fun k => laws_FnVotes.l0.eq_2 ..) (evp (by omega) (evb (qx s (i : Int) (by omega)) ?_))
  rw [w64s i (by omega)]
  by_cases e : (i : Int) ∈ s
  ·
   rw [if_neg (by simpa using e), List.append_nil] at hnx
   exact evp (decide_eq_true e) hnx
  ·
   rw [if_pos (by simpa using e)] at hnx
   exact evn (by simpa using e) (evp (by omega) hnx)
theorem jY (s : List Int) (x5 : Bool) (T x13 : List (List Int)) (o : List Int) (x40 : Bool) (dl : List Int) (dq : Int) (hs : s.length ≤ 9) (hT : T.length ≤ 256) (hr : ∀ r ∈ T, r.length ≤ 8) (R : Bool) (hK : ∀ m, m = (R || T.any fun r => r.all fun x => decide (x ∈ s)) → Ev (fun k => laws_FnVotes.l3 k s x5 x13 o m x40 0 dl dq) true) : ∀ d i, i + d = T.length → ∀ m, (m || (T.drop i).any fun r => r.all fun x => decide (x ∈ s)) = (R || T.any fun r => r.all fun x => decide (x ∈ s)) → Ev (fun k => laws_FnVotes.l1 k s x5 T x13 o m x40 (i : Int) dl dq) true := by
 intro d
 induction d with
 | zero =>
  intro i hi m hm
  rw [qD (by omega)] at hm
  exact Ev.step (fun k => laws_FnVotes.l1.eq_2 ..) (evn (by omega) (hK m (by simpa using hm)))
 | succ d ih =>
  intro i hi m hm
  rw [qB (show i < T.length by omega), List.any_cons] at hm
  have hl := hr T[i] (qM _)
  have go : ∀ e j : Nat, j + e = T[i].length → ∀ b, (b && (T[i].drop j).all fun x => decide (x ∈ s)) = (T[i].all fun x => decide (x ∈ s)) → Ev (fun k => laws_FnVotes.l2 k s x5 T x13 o m x40 (i : Int) b (j : Int) dl dq) true := by
   intro e
   induction e with
   | zero =>
    intro j hj b hb
    rw [qD (by omega), List.all_nil, Bool.and_true] at hb
    refine Ev.step (fun k => laws_FnVotes.l2.eq_2 ..) (evp (by omega) (evp (by omega) ?_))
    rw [zS T i (by omega), w64s i (by omega)]
    refine evn (by omega) ?_
    by_cases c : m = true
    ·
     exact evp c (ih (i + 1) (by omega) true (by rw [← hm, c, Bool.true_or, Bool.true_or]))
    ·
     refine evn c (ih (i + 1) (by omega) b ?_)
     rw [← hm, hb, Bool.eq_false_iff.2 c, Bool.false_or]
   | succ e ihe =>
    intro j hj b hb
    refine Ev.step (fun k => laws_FnVotes.l2.eq_2 ..) (evp (by omega) (evp (by omega) ?_))
    rw [zS T i (by omega), w64s j (by omega)]
    refine evp (by omega) ?_
    rw [qB (show j < T[i].length by omega), List.all_cons] at hb
    have ea : rd T[i] (j : Int) = T[i][j] := by rw [rd_nat, qA, qC (show j < T[i].length by omega)]; rfl
    by_cases c : b = true
    ·
     refine evp c (evp (by omega) (evb (qx s _ (by omega)) (ihe (j + 1) (by omega) _ ?_)))
     rw [ea, ← hb, c, Bool.true_and]
    ·
     refine evn c (ihe (j + 1) (by omega) false ?_)
     rw [← hb, Bool.eq_false_iff.2 c, Bool.false_and, Bool.false_and]
  exact Ev.step (fun k => laws_FnVotes.l1.eq_2 ..) (evp (by omega) (go T[i].length 0 (by omega) true (by simp)))
theorem jK (s : List Int) (x5 : Bool) (T : List (List Int)) (o : List Int) (x39 : Bool) (dl : List Int) (dq : Int) (hs : s.length ≤ 9) (hT : T.length ≤ 256) (hr : ∀ r ∈ T, r.length ≤ 8) (w : Bool) (ho : o.length ≤ 8) (hdl : dl.length ≤ 8) (hw : winsWith dl dq o = (!x5, true)) (h39 : x39 = x5) (hw2 : (T.any fun r => s.all fun x => decide (x ∈ r)) = !x5) : ∀ d i, i + d = T.length → ∀ m, (m || (T.drop i).any fun r => s.all fun x => decide (x ∈ r)) = (T.any fun r => s.all fun x => decide (x ∈ r)) → Ev (fun k => laws_FnVotes.l3 k s x5 T o x39 m (i : Int) dl dq) true := by
 intro d
 induction d with
 | zero =>
  intro i hi m hm
  rw [qD (by omega), List.any_nil, Bool.or_false, hw2] at hm
  have h := qO dl dq o (by omega) (by omega)
  rw [hw] at h
  exact Ev.step (fun k => laws_FnVotes.l3.eq_2 ..) (evn (by omega) (evb h (evp rfl (evp (by rw [h39]; simp) (evp (by rw [hm]; cases x5 <;> rfl) (evs (by simp)))))))
 | succ d ih =>
  intro i hi m hm
  rw [qB (show i < T.length by omega), List.any_cons] at hm
  have hl := hr T[i] (qM _)
  have go : ∀ e j : Nat, j + e = s.length → ∀ b, (b && (s.drop j).all fun x => decide (x ∈ T[i])) = (s.all fun x => decide (x ∈ T[i])) → Ev (fun k => laws_FnVotes.l4 k s x5 T o x39 m (i : Int) b (j : Int) dl dq) true := by
   intro e
   induction e with
   | zero =>
    intro j hj b hb
    rw [qD (by omega), List.all_nil, Bool.and_true] at hb
    refine Ev.step (fun k => laws_FnVotes.l4.eq_2 ..) ?_
    rw [w64s i (by omega)]
    refine evn (by omega) ?_
    by_cases c : m = true
    ·
     exact evp c (ih (i + 1) (by omega) true (by rw [← hm, c, Bool.true_or, Bool.true_or]))
    ·
     refine evn c (ih (i + 1) (by omega) b ?_)
     rw [← hm, hb, Bool.eq_false_iff.2 c, Bool.false_or]
   | succ e ihe =>
    intro j hj b hb
    refine Ev.step (fun k => laws_FnVotes.l4.eq_2 ..) ?_
    rw [w64s j (by omega)]
    refine evp (by omega) ?_
    rw [qB (show j < s.length by omega), List.all_cons] at hb
    have ea : rd s (j : Int) = s[j] := by rw [rd_nat, qA, qC (show j < s.length by omega)]; rfl
    by_cases c : b = true
    ·
     refine evp c (evp (by omega) (evp (by omega) (evp (by omega) ?_)))
     rw [zS T i (by omega)]
     refine evb (qx T[i] _ (by omega)) (ihe (j + 1) (by omega) _ ?_)
     rw [ea, ← hb, c, Bool.true_and]
    ·
     refine evn c (ihe (j + 1) (by omega) false ?_)
     rw [← hb, Bool.eq_false_iff.2 c, Bool.false_and, Bool.false_and]
  exact Ev.step (fun k => laws_FnVotes.l3.eq_2 ..) (evp (by omega) (go s.length 0 (by omega) true (by simp)))
theorem law (l0 : List Int) (hb : ∀ x ∈ l0, (Lit.int .u8 x).wf = true) : Ev (fun k => laws_FnVotes.f k l0) true := by
 unfold laws_FnVotes.f laws_rBig.f
 simp only [qG]
 by_cases c : (l0.length : Int) > 65536
 ·
  exact evp (decide_eq_true c) (evs rfl)
 have hl := jP l0 (by omega) hb
 refine evn (by simpa using c) ?_
 obtain ⟨⟨l, q, s⟩, hd, hv9, hs9⟩ := jW hl
 simp only at hv9 hs9
 have bne_self : ∀ b : Bool, ¬ (b != b) = true := fun b => by cases b <;> decide
 have iw := qO l q s (by omega) (by omega)
 have sw := jO l q s (by omega) (by omega)
 have il := jV l q (by omega)
 have sl := jU l q (by omega)
 have ig := km l q (by omega)
 have sg := kl l q (by omega)
 have ic := qR l q (by omega)
 have sc := jQ l q (by omega)
 have id_ := kc l q (by omega)
 have sd := kb l q (by omega)
 have ip := qj l q (by omega)
 have sp := jD l q (by omega)
 have ir := jC l q (by omega)
 have sr := jB l q (by omega)
 have iv := zf l q (by omega)
 have el : (za l q true).2 = voteB l q := by unfold za; cases voteB l q <;> rfl
 have eg : (za l q false).2 = voteB l q := by unfold za; cases voteB l q <;> rfl
 have ed : (dualV l q).2.2 = voteB l q := by unfold dualV; cases voteB l q <;> rfl
 have ep : (properB l q).2 = voteB l q := by unfold properB; cases voteB l q <;> rfl
 have er : (strongB l q).2 = voteB l q := by unfold strongB; cases voteB l q <;> rfl
 have ec : (zd l q).2 = voteB l q := by unfold zd; cases voteB l q <;> rfl
 have tl : ∀ w, (za l q w).1.length ≤ 256 ∧ ∀ r ∈ (za l q w).1, r.length ≤ 8 := by
  intro w
  unfold za
  by_cases h : voteB l q = true
  ·
   rw [if_pos h]; exact ja ((voteB_iff _ _).1 h).1.2
  ·
   rw [if_neg h]; exact ⟨by simp, by simp⟩
 have dl : (dualV l q).1.length ≤ 9 := by unfold dualV; split <;> simp <;> omega
 have t1 := qn (za l q true).1 (by have := (tl true).1; omega) (fun r hr => by have := (tl true).2 r hr; omega)
 have t2 := qn (za l q false).1 (by have := (tl false).1; omega) (fun r hr => by have := (tl false).2 r hr; omega)
 have tv := kj (dualV l q).1 (dualV l q).2.1 (by omega)
 have k6 : Ev (fun k => laws_FnVotes.j6 k s (winsWith l q s).1 (winsWith l q s).2 (za l q true).1 (za l q true).2 (za l q false).1 (zd l q).1 (strongB l q).1 false l q (dualV l q).1 (dualV l q).2.1) true := by
  refine Ev.step (fun k => laws_FnVotes.j6.eq_2 ..) (evn (by simp) ?_)
  by_cases h : voteB l q = true
  ·
   have hV := (voteB_iff _ _).1 h
   have h8 := hV.1.2
   have hp := pow8 l.length h8
   have e1 : za l q true = (zc l q true, true) := by unfold za; rw [if_pos h]
   have e2 : za l q false = (zc l q false, true) := by unfold za; rw [if_pos h]
   have e3 : dualV l q = (l, isum l + 1 - q, true) := by unfold dualV; rw [if_pos h]
   have T1 := tl true
   have T2 := tl false
   rw [e1] at T1 ⊢
   rw [e2] at T2 ⊢
   rw [e3]
   have pd := qi hV
   have cd := qw hV
   have ip2 := qj l (isum l + 1 - q) (by omega)
   have ic2 := qR l (isum l + 1 - q) (by omega)
   refine evp rfl (evb ip2 (evb ic2 (evp pd.2 (evp cd.2 (evn (by rw [pd.1]; exact bne_self _) ?_)))))
   rw [cd.1, w64 (by omega) (by omega), shl1 _ (by omega), show ((((2 ^ l.length : Nat) : Int)) != ((2 ^ l.length : Nat) : Int)) = false by simp]
   refine Ev.step (fun k => laws_FnVotes.j7.eq_2 ..) (evn (by simp) ?_)
   by_cases hs : setB l.length s = true
   ·
    have ew : winsWith l q s = (winB l q (codeOf s), true) := by unfold winsWith; rw [if_pos ⟨h, hs⟩]
    rw [ew]
    have lo := zL (fun i => !decide ((i : Int) ∈ s)) l.length
    have hh := jK s (winB l q (codeOf s)) (zc l q false) (zi l.length s) (winB l q (codeOf s)) l (isum l + 1 - q) hs9 T2.1 T2.2 true (by unfold zi; omega) h8 (jt hV hs) rfl (qZ hV hs) (zc l q false).length 0 (by omega) false (by simp)
    have hm := jY s (winB l q (codeOf s)) (zc l q true) (zc l q false) (zi l.length s) false l (isum l + 1 - q) hs9 T1.1 T1.2 false (fun m em => by rw [em, Bool.false_or, jJ hV hs]; exact hh) (zc l q true).length 0 (by omega) false (by simp)
    exact evp rfl (jX s _ _ _ l q l (isum l + 1 - q) hs9 h8 hm l.length 0 (by omega))
   ·
    have ew : winsWith l q s = (false, false) := by unfold winsWith; rw [if_neg (fun x => hs x.2)]
    rw [ew]
    exact evn (by simp) (evs rfl)
  ·
   refine evn (by rw [el]; exact h) (evs ?_)
   unfold winsWith
   rw [if_neg (fun x => h x.1)]; rfl
 have k5 : Ev (fun k => laws_FnVotes.j5 k s (winsWith l q s).1 (winsWith l q s).2 (za l q true).1 (za l q true).2 (za l q false).1 (zd l q).1 false l q (dualV l q).1 (dualV l q).2.1) true := by
  refine Ev.step (fun k => laws_FnVotes.j5.eq_2 ..) (evn (by simp) (evb ir (evb sr (evn (bne_self _) (evn (bne_self _) ?_)))))
  rw [show ((strongB l q).2 != (za l q true).2) = false by rw [er, el]; simp]; exact k6
 have k4 : Ev (fun k => laws_FnVotes.j4 k s (winsWith l q s).1 (winsWith l q s).2 (za l q true).1 (za l q true).2 (za l q false).1 (zd l q).1 false l q (dualV l q).1 (dualV l q).2.1) true := by
  refine Ev.step (fun k => laws_FnVotes.j4.eq_2 ..) (evn (by simp) (evb ip (evb sp (evn (bne_self _) (evn (bne_self _) ?_)))))
  rw [show ((properB l q).2 != (za l q true).2) = false by rw [ep, el]; simp]; exact k5
 have k3 : Ev (fun k => laws_FnVotes.j3 k s (winsWith l q s).1 (winsWith l q s).2 (za l q true).1 (za l q true).2 (za l q false).1 (zd l q).1 false l q) true :=
  Ev.step (fun k => laws_FnVotes.j3.eq_2 ..) (evn (by simp) (evb id_ (evb sd (evn (bne_self _) (evn (by rw [ed, el]; exact bne_self _) (evb tv k4))))))
 have k2 : Ev (fun k => laws_FnVotes.j2 k s (winsWith l q s).1 (winsWith l q s).2 (za l q true).1 (za l q true).2 (za l q false).1 false l q) true := by
  refine Ev.step (fun k => laws_FnVotes.j2.eq_2 ..) (evn (by simp) (evb ic (evb sc (evp rfl (evn (bne_self _) ?_)))))
  rw [show ((zd l q).2 != (za l q true).2) = false by rw [ec, el]; simp]; exact k3
 have k1 : Ev (fun k => laws_FnVotes.j1 k s (winsWith l q s).1 (winsWith l q s).2 (za l q true).1 (za l q true).2 false l q) true :=
  Ev.step (fun k => laws_FnVotes.j1.eq_2 ..) (evn (by simp) (evb ig (evb sg (evn (bne_self _) (evn (by rw [eg, el]; exact bne_self _) (evb t2 k2))))))
 have k0 : Ev (fun k => laws_FnVotes.j0 k s (winsWith l q s).1 (winsWith l q s).2 false l q) true :=
  Ev.step (fun k => laws_FnVotes.j0.eq_2 ..) (evn (by simp) (evb il (evb sl (evn (bne_self _) (evb iv (evn (by rw [el]; exact bne_self _) (evb t1 k1)))))))
 refine evb hd (evb iw (evb sw (evn (bne_self _) ?_)))
 rw [show ((winsWith l q s).2 != (winsWith l q s).2) = false by simp]; exact k0
end Go.Proofs.YtkgekmpnbhomgaaDoor.LFnVotes
