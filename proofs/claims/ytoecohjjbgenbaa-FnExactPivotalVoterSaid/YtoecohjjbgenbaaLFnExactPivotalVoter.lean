/- Own lemmas: what the printed functions of one law come to. -/
import Derived.Test.YtoecohjjbgenbaaMFnExactPivotalVoterx11
import Derived.Test.YtoecohjjbgenbaaBase
namespace Go.Proofs.Ytoecohjjbgenbaa.LFnExactPivotalVoter
open Go Go.RowKit Go.Proofs.Ytoecohjjbgenbaa.Base Go.Proofs.Ytoecohjjbgenbaa.PFnExactPivotalVoter Go.Proofs.YtoecohjjbgenbaaW.PrintWords Go.Proofs.YtoecohjjbgenbaaW.PrintLast Go.Proofs.YtoecohjjbgenbaaW.PrintMore
set_option linter.unusedVariables false
set_option linter.unusedSimpArgs false
set_option maxRecDepth 4000

/-! ### laws_toIntS -/
theorem toIntS_l0 (x0 : List Int) (hx : x0.length < 4611686018427387904) : ∀ (d i : Nat) (x3 : List Int), i + d = x0.length → x3.length = x0.length →
    Ev (fun k => laws_toIntS.l0 k x0 x3 (i : Int)) (x3.take i ++ x0.drop i) := by
  intro d
  induction d with
  | zero =>
    intro i x3 hi hl
    refine Ev.step (fun k => laws_toIntS.l0.eq_2 ..) (evn (by omega) (evs ?_))
    simp [List.take_of_length_le (show x3.length ≤ i by omega), List.drop_of_length_le (show x0.length ≤ i by omega)]
  | succ d ih =>
    intro i x3 hi hl
    refine Ev.step (fun k => laws_toIntS.l0.eq_2 ..) (evp (by omega) (evp (by omega) (evp (by omega) ?_)))
    rw [w64s i (by omega), rd_nat]
    refine evr (ih (i + 1) _ (by omega) (by simpa using hl)) ?_
    rw [Int.toNat_natCast, set_take _ _ _ (by omega), List.drop_eq_getElem_cons (show i < x0.length by omega), List.append_assoc]
    simp [List.getD_eq_getElem?_getD, List.getElem?_eq_getElem (show i < x0.length by omega)]
theorem toIntS (l : List Int) (h : l.length ≤ 35184372088832) : Ev (fun k => laws_toIntS.f k l) l := by
  unfold laws_toIntS.f
  refine evp (by omega) (evp (by simpa using h) ?_)
  refine evr (toIntS_l0 l (by omega) l.length 0 _ (by omega) (by simp)) (by simp)

/-! ### laws_eqIntS -/
theorem eqIntS_l0 (a b : List Int) (hl : a.length = b.length) (hx : a.length < 4611686018427387904) : ∀ (d i : Nat), i + d = a.length →
    Ev (fun k => laws_eqIntS.l0 k a b (i : Int)) (decide (a.drop i = b.drop i)) := by
  intro d
  induction d with
  | zero =>
    intro i hi
    refine Ev.step (fun k => laws_eqIntS.l0.eq_2 ..) (evn (by omega) (evs ?_))
    simp [List.drop_of_length_le (show a.length ≤ i by omega), List.drop_of_length_le (show b.length ≤ i by omega)]
  | succ d ih =>
    intro i hi
    refine Ev.step (fun k => laws_eqIntS.l0.eq_2 ..) (evp (by omega) (evp (by omega) (evp (by omega) ?_)))
    rw [w64s i (by omega), rd_nat, rd_nat]
    have ea := List.drop_eq_getElem_cons (show i < a.length by omega)
    have eb := List.drop_eq_getElem_cons (show i < b.length by omega)
    simp only [List.getD_eq_getElem?_getD, List.getElem?_eq_getElem (show i < a.length by omega), List.getElem?_eq_getElem (show i < b.length by omega), Option.getD_some]
    by_cases e : a[i] = b[i]
    · refine evp e (evr (ih (i + 1) (by omega)) ?_)
      rw [ea, eb, e]; simp only [List.cons.injEq, true_and]
    · refine evn e (evs ?_)
      rw [ea, eb]; simp only [List.cons.injEq, e, false_and, decide_false]
theorem eqIntS (a b : List Int) (hx : a.length < 4611686018427387904) : Ev (fun k => laws_eqIntS.f k a b) (decide (a = b)) := by
  unfold laws_eqIntS.f
  by_cases h : a.length = b.length
  · refine evp (by omega) (evr (eqIntS_l0 a b h hx a.length 0 (by omega)) (by simp))
  · refine evn (by omega) (evs ?_)
    have : a ≠ b := fun e => h (by rw [e])
    simp [this]

/-! ### spec_l1In -/
theorem l1In (a b c : Int) : spec_l1In.f a b c = some (decide (b ≤ a ∧ a ≤ c)) := by
  unfold spec_l1In.f; split <;> simp_all <;> omega

/-! ### impl_within -/
theorem within (a b c : Int) : impl_within.f a b c = some (decide (b ≤ a ∧ a ≤ c)) := by
  unfold impl_within.f; split <;> simp_all <;> omega

/-! ### impl_allWithin -/
theorem allWithin_l0 (lo up : Int) (l : List Int) (hx : l.length < 4611686018427387904) : ∀ (d i : Nat), i + d = l.length →
    Ev (fun k => impl_allWithin.l0 k lo up l (l.length : Int) (i : Int)) ((l.drop i).all fun x => decide (lo ≤ x ∧ x ≤ up)) := by
  intro d
  induction d with
  | zero =>
    intro i hi
    refine Ev.step (fun k => impl_allWithin.l0.eq_2 ..) (evn (by omega) (evs ?_))
    simp [List.drop_of_length_le (show l.length ≤ i by omega)]
  | succ d ih =>
    intro i hi
    refine Ev.step (fun k => impl_allWithin.l0.eq_2 ..) (evp (by omega) (evp (by omega) (evp (by omega) ?_)))
    rw [w64s i (by omega), rd_nat, within, List.drop_eq_getElem_cons (show i < l.length by omega)]
    simp only [List.getD_eq_getElem?_getD, List.getElem?_eq_getElem (show i < l.length by omega), Option.getD_some, Option.bind_some, List.all_cons]
    by_cases e : lo ≤ l[i] ∧ l[i] ≤ up
    · refine evp (by simpa using e) (evr (ih (i + 1) (by omega)) (by simp [e]))
    · refine evn (by simpa using e) (evs (by simp [e]))
theorem allWithin (l : List Int) (lo up : Int) (hx : l.length < 4611686018427387904) : Ev (fun k => impl_allWithin.f k l lo up) (l.all fun x => decide (lo ≤ x ∧ x ≤ up)) := by
  unfold impl_allWithin.f
  exact allWithin_l0 lo up l hx l.length 0 (by omega)

/-! ### laws_szIntS -/
theorem szIntS (l : List Int) (m : Int) (h0 : 0 ≤ m) (hm : m ≤ 1048576) (hl : l.length ≤ maxLen) : laws_szIntS.f l m = some (if (l.length : Int) ≤ m then m - l.length else -1) := by
  unfold maxLen at hl
  unfold laws_szIntS.f
  rw [w64 (x := m - (l.length : Int)) (by omega) (by omega)]
  by_cases h : (l.length : Int) ≤ m
  · rw [if_neg (by omega), if_pos h]
  · rw [if_pos (by omega), if_neg h]

/-! ### laws_szVote laws_szIntS -/
theorem szVote (l : List Int) (q m : Int) (h0 : 0 ≤ m) (hm : m ≤ 1048576) (hl : l.length ≤ maxLen) : laws_szVote.f l q m = some (if (l.length : Int) ≤ m then m - l.length else -1) := by
  unfold laws_szVote.f
  rw [szIntS l m h0 hm hl]
  simp only [Option.bind_some]
  by_cases h : (l.length : Int) ≤ m
  · rw [if_pos h, if_neg (by omega)]
  · rw [if_neg h, if_pos (by omega)]

/-! ### laws_toVote laws_toIntS -/
theorem toVote (l : List Int) (q : Int) (h : l.length ≤ 35184372088832) : Ev (fun k => laws_toVote.f k l q) (l, q) := by
  unfold laws_toVote.f
  exact evb (toIntS l h) (evs rfl)

/-! ### laws_eqVote laws_eqIntS -/
theorem eqVote (l : List Int) (q : Int) (l' : List Int) (q' : Int) (h : l.length < 4611686018427387904) : Ev (fun k => laws_eqVote.f k l q l' q') (decide (l = l') && decide (q = q')) := by
  unfold laws_eqVote.f
  refine evb (eqIntS l l' h) ?_
  by_cases e : l = l'
  · refine evp (by simpa using e) ?_
    by_cases e' : q = q'
    · exact evp e' (evs (by simp [e, e']))
    · exact evn e' (evs (by simp [e, e']))
  · exact evn (by simpa using e) (evs (by simp [e]))

/-! ### spec_l6Vote -/
theorem l6Vote_l0 (l : List Int) (q : Int) (hl : l.length < 4611686018427387904) : ∀ (d i : Nat) (s : Int), i + d = l.length → i ≤ 9 → 0 ≤ s → s ≤ 20 * i →
    Ev (fun k => spec_l6Vote.l0 k s (i : Int) l q) (decide (1 ≤ l.length ∧ l.length ≤ 8) && (okW (l.drop i) && decide (1 ≤ q ∧ q ≤ s + isum (l.drop i)))) := by
  intro d
  induction d with
  | zero =>
    intro i s hi h9 hs0 hs
    have hd : l.drop i = [] := List.drop_of_length_le (by omega)
    refine Ev.step (fun k => spec_l6Vote.l0.eq_2 ..) (evn (by omega) (Ev.step (fun k => spec_l6Vote.j1.eq_2 ..) (evn (by simp) ?_)))
    rw [l1In, l1In]; simp only [Option.bind_some]
    by_cases e : 1 ≤ l.length ∧ l.length ≤ 8
    · refine evp (by simp; omega) (evs ?_)
      rw [hd, decide_eq_true e]; simp [okW, isum]
    · refine evn (by simp; omega) (evs ?_)
      rw [decide_eq_false e]; simp
  | succ d ih =>
    intro i s hi h9 hs0 hs
    have hd := List.drop_eq_getElem_cons (show i < l.length by omega)
    refine Ev.step (fun k => spec_l6Vote.l0.eq_2 ..) (evp (by omega) (Ev.step (fun k => spec_l6Vote.j1.eq_2 ..) ?_))
    by_cases e8 : i ≤ 8
    · refine evp (by simp; omega) (evp (by omega) (evp (by omega) ?_))
      rw [l1In, rd_nat, w64s i (by omega)]
      simp only [List.getD_eq_getElem?_getD, List.getElem?_eq_getElem (show i < l.length by omega), Option.getD_some, Option.bind_some]
      by_cases e : 0 ≤ l[i] ∧ l[i] ≤ 20
      · refine evp (by simpa using e) ?_
        rw [w64 (x := s + l[i]) (by omega) (by omega)]
        refine evr (ih (i + 1) _ (by omega) (by omega) (by omega) (by omega)) ?_
        rw [hd, show s + isum (l[i] :: l.drop (i + 1)) = s + l[i] + isum (l.drop (i + 1)) by simp only [isum]; omega]; simp only [okW, List.all_cons, decide_eq_true e, Bool.true_and]
      · refine evn (by simpa using e) (evs ?_)
        rw [hd]; simp only [okW, List.all_cons, decide_eq_false e, Bool.false_and, Bool.and_false]
    · refine evn (by simp; omega) ?_
      rw [l1In, l1In]; simp only [Option.bind_some]
      have e : ¬ (1 ≤ l.length ∧ l.length ≤ 8) := by omega
      refine evn (by simp; omega) (evs ?_)
      rw [decide_eq_false e]; simp
theorem l6Vote (l : List Int) (q : Int) (hl : l.length < 4611686018427387904) : Ev (fun k => spec_l6Vote.f k l q) (voteB l q) := by
  unfold spec_l6Vote.f
  exact evr (l6Vote_l0 l q hl l.length 0 0 (by omega) (by omega) (by omega) (by omega)) (by simp [voteB])

/-! ### impl_total -/
theorem total_l0 (l : List Int) (b : Int) (hb : 0 ≤ b ∧ b ≤ 1000000000000) (hx : ∀ x ∈ l, -b ≤ x ∧ x ≤ b) (hl : l.length ≤ 1048576) : ∀ (d i : Nat) (s : Int), i + d = l.length → -(b * i) ≤ s → s ≤ b * i →
    Ev (fun k => impl_total.l0 k s l (l.length : Int) (i : Int)) (s + isum (l.drop i)) := by
  intro d
  induction d with
  | zero =>
    intro i s hi hs0 hs
    have hd : l.drop i = [] := List.drop_of_length_le (by omega)
    exact Ev.step (fun k => impl_total.l0.eq_2 ..) (evn (by omega) (evs (by rw [hd]; simp [isum])))
  | succ d ih =>
    intro i s hi hs0 hs
    have hd := List.drop_eq_getElem_cons (show i < l.length by omega)
    have hi' := hx l[i] (List.getElem_mem (by omega))
    have hbi : b * (i : Int) ≤ 1000000000000 * 1048576 := Int.mul_le_mul hb.2 (by omega) (by omega) (by omega)
    have hbs : b * ((i + 1 : Nat) : Int) = b * i + b := by rw [show ((i + 1 : Nat) : Int) = (i : Int) + 1 by omega, Int.mul_add]; omega
    refine Ev.step (fun k => impl_total.l0.eq_2 ..) (evp (by omega) (evp (by omega) (evp (by omega) ?_)))
    rw [rd_nat, w64s i (by omega)]
    simp only [List.getD_eq_getElem?_getD, List.getElem?_eq_getElem (show i < l.length by omega), Option.getD_some]
    rw [w64 (x := s + l[i]) (by omega) (by omega)]
    refine evr (ih (i + 1) _ (by omega) (by omega) (by omega)) ?_
    rw [hd]; simp only [isum, Int.add_assoc]
theorem total (l : List Int) (b : Int) (hb : 0 ≤ b ∧ b ≤ 1000000000000) (hx : ∀ x ∈ l, -b ≤ x ∧ x ≤ b) (hl : l.length ≤ 1048576) : Ev (fun k => impl_total.f k l) (isum l) := by
  unfold impl_total.f
  exact evr (total_l0 l b hb hx hl l.length 0 0 (by omega) (by simp) (by simp)) (by simp)

/-! ### impl_IsVote -/
theorem iIsVote (l : List Int) (q : Int) (hl : l.length < 4611686018427387904) : Ev (fun k => impl_IsVote.f k l q) (voteB l q) := by
  unfold impl_IsVote.f voteB
  rw [within]; simp only [Option.bind_some]
  by_cases e : 1 ≤ l.length ∧ l.length ≤ 8
  · refine evp (by simp; omega) (evb (allWithin l 0 20 hl) ?_)
    rw [decide_eq_true e, Bool.true_and]
    by_cases e' : okW l = true
    · refine evp e' (evb (total l 20 (by omega) (fun x hx => ?_) (by omega)) (evb (evc (within ..)) (evs ?_)))
      · have := (List.all_eq_true.1 e') x hx; simp at this; omega
      · rw [e', Bool.true_and]
    · exact evn e' (evs (by simp [e']))
  · exact evn (by simp; omega) (evs (by simp [e]))

/-! ### impl_copied -/
theorem copied (l : List Int) (h : l.length < 17592186044416) : impl_copied.f l = some l := by
  unfold impl_copied.f
  simp only [Option.bind_some]
  rw [if_pos (by simpa using h)]; rfl

/-! ### impl_rising -/
theorem rising_l0 (l : List Int) (hl : l.length < 4611686018427387904) : ∀ (d i : Nat), i + d = l.length → 1 ≤ i →
    Ev (fun k => impl_rising.l0 k l (i : Int)) (riseB (l.drop (i - 1))) := by
  intro d
  induction d with
  | zero =>
    intro i hi' h1
    refine Ev.step (fun k => impl_rising.l0.eq_2 ..) (evn (by omega) (evs ?_))
    rw [riseB_end l (i - 1) (by omega)]
  | succ d ih =>
    intro i hi' h1
    refine Ev.step (fun k => impl_rising.l0.eq_2 ..) (evp (by omega) ?_)
    rw [rd_nat, w64s i (by omega), w64 (x := (i : Int) - 1) (by omega) (by omega), show (i : Int) - 1 = ((i - 1 : Nat) : Int) by omega, rd_nat]
    refine evp (by omega) (evp (by omega) (evp (by omega) ?_))
    have hs := riseB_step l (i - 1) (by omega)
    rw [show i - 1 + 1 = i by omega] at hs
    by_cases e1 : l.getD (i - 1) 0 ≥ l.getD i 0
    · refine evp e1 (evs ?_)
      rw [hs, decide_eq_false (by omega)]; simp
    · refine evn e1 (evr (ih (i + 1) (by omega) (by omega)) ?_)
      rw [hs, decide_eq_true (show l.getD (i - 1) 0 < l.getD i 0 by omega)]; simp
theorem rising (l : List Int) (hl : l.length < 4611686018427387904) : Ev (fun k => impl_rising.f k l) (riseB l) := by
  unfold impl_rising.f
  by_cases h : l.length = 0
  · refine Ev.step (fun k => impl_rising.l0.eq_2 ..) (evn (by omega) (evs ?_))
    rw [List.eq_nil_of_length_eq_zero h]; rfl
  · exact evr (rising_l0 l hl (l.length - 1) 1 (by omega) (by omega)) (by simp)

/-! ### impl_isSet -/
theorem isSet (l : List Int) (n : Int) (hn : 0 ≤ n ∧ n ≤ 1000000) (hl : l.length < 4611686018427387904) : Ev (fun k => impl_isSet.f k l n) (setB n l) := by
  unfold impl_isSet.f setB
  refine evb (rising l hl) ?_
  rw [w64 (x := n - 1) (by omega) (by omega)]
  by_cases e : riseB l = true
  · refine evp e (evb (allWithin l 0 (n - 1) hl) (evs ?_))
    rw [e, Bool.and_true]; rfl
  · exact evn e (evs (by simp [e]))

/-! ### impl_isOrder impl_isSet impl_copied -/
def rangeI (n : Nat) : List Int := (List.range n).map fun i : Nat => (i : Int)
theorem rangeI_mem (n : Nat) (x : Int) : x ∈ rangeI n ↔ 0 ≤ x ∧ x < n := by
  unfold rangeI
  rw [List.mem_map]
  constructor
  · rintro ⟨i, hi, rfl⟩
    have := List.mem_range.1 hi; omega
  · rintro ⟨h0, h1⟩
    exact ⟨x.toNat, List.mem_range.2 (by omega), by omega⟩
theorem perm_of_all : ∀ (n : Nat) (l : List Int), l.length = n → (∀ i : Nat, i < n → (i : Int) ∈ l) → l.Perm (rangeI n) := by
  intro n
  induction n with
  | zero => intro l hl _; rw [List.eq_nil_of_length_eq_zero hl]; exact List.Perm.refl _
  | succ n ih =>
    intro l hl h
    have hn := h n (by omega)
    have hp := List.perm_cons_erase hn
    have he : (l.erase (n : Int)).length = n := by rw [List.length_erase_of_mem hn]; omega
    have h2 := ih _ he (fun i hi => (List.mem_erase_of_ne (by omega)).2 (h i (by omega)))
    have h3 : rangeI (n + 1) = rangeI n ++ [(n : Int)] := by unfold rangeI; rw [List.range_succ, List.map_append]; rfl
    rw [h3]
    exact hp.trans ((List.Perm.cons _ h2).trans (List.perm_append_singleton _ _).symm)
theorem rise_ge : ∀ (l : List Int) (b : Int) (i : Nat), riseB l = true → (∀ x ∈ l, b ≤ x) → i < l.length → b + i ≤ l.getD i 0 := by
  intro l
  induction l with
  | nil => intro b i _ _ h; simp at h
  | cons x l ih =>
    intro b i hr hb hi
    cases i with
    | zero => have := hb x List.mem_cons_self; simpa using this
    | succ i =>
      have hx := hb x List.mem_cons_self
      have h1 := ih (b + 1) i (riseB_tail hr) (fun y hy => by have := riseB_lt l x hr y hy; omega) (by simpa using hi)
      rw [List.getD_cons_succ]; omega
theorem rise_le : ∀ (l : List Int) (t : Int) (i : Nat), riseB l = true → (∀ x ∈ l, x ≤ t) → i < l.length → l.getD i 0 + (l.length - 1 - i : Nat) ≤ t := by
  intro l
  induction l with
  | nil => intro b i _ _ h; simp at h
  | cons x l ih =>
    intro t i hr ht hi
    cases i with
    | zero =>
      rw [List.getD_cons_zero, List.length_cons]
      cases l with
      | nil => have := ht x List.mem_cons_self; simp; exact this
      | cons y l =>
        have h1 := ih t 0 (riseB_tail hr) (fun z hz => ht z (List.mem_cons_of_mem _ hz)) (by simp)
        have h2 := riseB_lt (y :: l) x hr y List.mem_cons_self
        rw [List.getD_cons_zero] at h1
        simp only [List.length_cons] at h1 ⊢
        omega
    | succ i =>
      have h1 := ih t i (riseB_tail hr) (fun z hz => ht z (List.mem_cons_of_mem _ hz)) (by simpa using hi)
      rw [List.getD_cons_succ]
      simp only [List.length_cons] at hi ⊢
      omega
theorem rise_range (n : Nat) (l : List Int) (hl : l.length = n) (h : setB n l = true) : l = rangeI n := by
  unfold setB at h
  obtain ⟨h1, h2⟩ := Bool.and_eq_true _ _ ▸ h
  unfold inB at h1
  have hb : ∀ x ∈ l, 0 ≤ x ∧ x ≤ (n : Int) - 1 := fun x hx => of_decide_eq_true (List.all_eq_true.1 h1 x hx)
  apply List.ext_getElem
  · simp [rangeI, hl]
  · intro i i1 i2
    have a := rise_ge l 0 i h2 (fun x hx => (hb x hx).1) i1
    have b := rise_le l (n - 1) i h2 (fun x hx => (hb x hx).2) i1
    rw [List.getD_eq_getElem?_getD, List.getElem?_eq_getElem i1] at a b
    simp only [Option.getD_some] at a b
    simp only [rangeI, List.getElem_map, List.getElem_range]
    omega
theorem rangeI_rise : ∀ (n : Nat) (l : List Int), l.Pairwise (· < ·) → riseB l = true := by
  intro n l
  induction l with
  | nil => intro _; rfl
  | cons x l ih =>
    intro h
    obtain ⟨h1, h2⟩ := List.pairwise_cons.1 h
    cases l with
    | nil => rfl
    | cons y l => simp only [riseB, Bool.and_eq_true]; exact ⟨decide_eq_true (h1 y List.mem_cons_self), ih h2⟩
theorem sortI_perm (l : List Int) : (sortI l).Perm l := List.mergeSort_perm _ _
theorem sortI_sorted (l : List Int) : (sortI l).Pairwise (· ≤ ·) := by
  have := List.pairwise_mergeSort (le := fun x y : Int => decide (x ≤ y)) (fun a b c h1 h2 => by simp only [decide_eq_true_eq] at *; omega) (fun a b => by simp only [Bool.or_eq_true, decide_eq_true_eq]; omega) l
  exact this.imp (fun h => of_decide_eq_true h)
/-- Sorted, it has each number once just if it has all of them. -/
theorem order_iff (n : Nat) (l : List Int) (hl : l.length = n) : setB n (sortI l) = true ↔ ∀ i : Nat, i < n → (i : Int) ∈ l := by
  constructor
  · intro h i hi
    have e := rise_range n (sortI l) (by rw [sortI_len]; exact hl) h
    have hm : (i : Int) ∈ sortI l := by rw [e]; exact (rangeI_mem n _).2 (by omega)
    exact (sortI_perm l).mem_iff.1 hm
  · intro h
    have hp := (sortI_perm l).trans (perm_of_all n l hl h)
    unfold setB
    rw [Bool.and_eq_true]
    constructor
    · unfold inB
      rw [List.all_eq_true]
      intro x hx
      have := (rangeI_mem n x).1 (hp.mem_iff.1 hx)
      exact decide_eq_true (by omega)
    · refine rangeI_rise 0 _ ?_
      have hnd : (rangeI n).Nodup := by
        unfold rangeI
        rw [List.nodup_iff_pairwise_ne, List.pairwise_map]
        exact List.Pairwise.imp (fun h e => h (Int.ofNat.inj e)) (List.nodup_iff_pairwise_ne.1 List.nodup_range)
      have hnd2 : (sortI l).Nodup := hp.nodup_iff.2 hnd
      have h1 := sortI_sorted l
      have h2 := List.nodup_iff_pairwise_ne.1 hnd2
      exact (h1.and h2).imp (fun {a b} h => by have := h.1; have := h.2; omega)
def permB (n : Nat) (l : List Int) : Bool := decide (l.length = n) && (List.range n).all fun i : Nat => l.contains (i : Int)
theorem permB_iff (n : Nat) (l : List Int) : permB n l = true ↔ l.length = n ∧ ∀ i : Nat, i < n → (i : Int) ∈ l := by
  unfold permB
  rw [Bool.and_eq_true, decide_eq_true_eq, List.all_eq_true]
  constructor
  · rintro ⟨h1, h2⟩
    exact ⟨h1, fun i hi => List.contains_iff_mem.1 (h2 i (List.mem_range.2 hi))⟩
  · rintro ⟨h1, h2⟩
    exact ⟨h1, fun i hi => List.contains_iff_mem.2 (h2 i (List.mem_range.1 hi))⟩
theorem iOrder (l : List Int) (n : Nat) (hn : n ≤ 8) (hl : l.length ≤ 1048576) : Ev (fun k => impl_isOrder.f k l (n : Int)) (permB n l) := by
  unfold impl_isOrder.f
  rw [copied l (by omega)]; simp only [Option.bind_some]
  refine evp (by omega) ?_
  by_cases e : l.length = n
  · refine evp (by omega) ?_
    refine evr (isSet (sortI l) (n : Int) (by omega) (by rw [sortI_len]; omega)) ?_
    apply Bool.eq_iff_iff.2
    rw [order_iff n l e, permB_iff]
    exact ⟨fun h => ⟨e, h⟩, fun h => h.2⟩
  · refine evn (by omega) (evs ?_)
    unfold permB; rw [decide_eq_false e]; rfl

/-! ### spec_PivotalVoter impl_PivotalVoter impl_isOrder impl_isSet impl_copied impl_IsVote spec_l6Vote spec_l1Has -/
theorem pvHas_l0 (l : List Int) (x : Int) (hl : l.length ≤ 1048576) : ∀ (d i : Nat), i + d = l.length → Ev (fun k => spec_l1Has.l0 k l x (i : Int)) ((l.drop i).contains x) := by
  intro d
  induction d with
  | zero =>
    intro i hi
    refine Ev.step (fun k => spec_l1Has.l0.eq_2 ..) (evn (by omega) (evs ?_))
    rw [List.drop_of_length_le (by omega)]; rfl
  | succ d ih =>
    intro i hi
    refine Ev.step (fun k => spec_l1Has.l0.eq_2 ..) (evp (by omega) (evp (by omega) ?_))
    rw [rd_nat, List.drop_eq_getElem_cons (show i < l.length by omega), List.contains_cons, List.getD_eq_getElem?_getD, List.getElem?_eq_getElem (show i < l.length by omega), Option.getD_some]
    by_cases e : l[i]'(by omega) = x
    · refine evp e (evs ?_)
      rw [e]; simp
    · refine evn e ?_
      rw [w64s i (by omega)]
      refine evr (ih (i + 1) (by omega)) ?_
      rw [beq_eq_false_iff_ne.2 (fun h => e h.symm), Bool.false_or]
theorem pvHas (l : List Int) (x : Int) (hl : l.length ≤ 1048576) : Ev (fun k => spec_l1Has.f k l x) (l.contains x) := by
  unfold spec_l1Has.f
  exact pvHas_l0 l x hl l.length 0 (by omega)
def pivL (w : List Int) (q : Int) : List Int → Int → Int × Bool
  | [], _ => (0, false)
  | i :: r, s => if s + w.getD i.toNat 0 ≥ q then (i, true) else pivL w q r (s + w.getD i.toNat 0)
def wsumL (w : List Int) : List Int → Int
  | [] => 0
  | i :: r => w.getD i.toNat 0 + wsumL w r
theorem wsumL_perm (w : List Int) {l l' : List Int} (h : l.Perm l') : wsumL w l = wsumL w l' := by
  induction h with
  | nil => rfl
  | cons x _ ih => simp only [wsumL, ih]
  | swap x y l => simp only [wsumL]; omega
  | trans _ _ h1 h2 => exact h1.trans h2
theorem wsumL_app (w : List Int) (a b : List Int) : wsumL w (a ++ b) = wsumL w a + wsumL w b := by
  induction a with
  | nil => simp [wsumL]
  | cons x a ih => simp only [List.cons_append, wsumL, ih]; omega
theorem isum_app (a b : List Int) : isum (a ++ b) = isum a + isum b := by
  induction a with
  | nil => simp [isum]
  | cons x a ih => simp only [List.cons_append, isum, ih]; omega
theorem wsumL_range (w : List Int) : ∀ n, n ≤ w.length → wsumL w (rangeI n) = isum (w.take n) := by
  intro n
  induction n with
  | zero => intro _; rfl
  | succ n ih =>
    intro h
    have h3 : rangeI (n + 1) = rangeI n ++ [(n : Int)] := by unfold rangeI; rw [List.range_succ, List.map_append]; rfl
    rw [h3, wsumL_app, ih (by omega), List.take_succ_eq_append_getElem (show n < w.length by omega), isum_app]
    simp [wsumL, isum, List.getD_eq_getElem?_getD, List.getElem?_eq_getElem (show n < w.length by omega)]
def pivV (w : List Int) (q : Int) (l : List Int) : Int × Bool := if voteB w q = true ∧ permB w.length l = true then pivL w q l 0 else (0, false)
theorem iPiv_l0 (w : List Int) (q : Int) (hv : Vot w q) (l : List Int) (hl : ∀ x ∈ l, 0 ≤ x ∧ x < w.length) (hll : l.length ≤ 8) : ∀ (d j : Nat) (s : Int), j + d = l.length → 0 ≤ s → s ≤ 20 * (j : Int) →
    Ev (fun k => impl_PivotalVoter.l0 k s l (l.length : Int) (j : Int) w q) (pivL w q (l.drop j) s) := by
  intro d
  induction d with
  | zero =>
    intro j s hj _ _
    exact Ev.step (fun k => impl_PivotalVoter.l0.eq_2 ..) (evn (by omega) (evs (by rw [List.drop_of_length_le (by omega)]; rfl)))
  | succ d ih =>
    intro j s hj h0 h1
    have hjl : j < l.length := by omega
    have hx := hl (l.getD j 0) (by rw [List.getD_eq_getElem?_getD, List.getElem?_eq_getElem hjl]; exact List.getElem_mem _)
    have hw := hv.at_ (l.getD j 0).toNat
    have e : l.drop j = l.getD j 0 :: l.drop (j + 1) := by rw [List.drop_eq_getElem_cons hjl, List.getD_eq_getElem?_getD, List.getElem?_eq_getElem hjl]; rfl
    rw [e]
    simp only [pivL]
    refine Ev.step (fun k => impl_PivotalVoter.l0.eq_2 ..) (evp (by omega) (evp (by omega) (evp (by omega) ?_)))
    rw [rd_nat]
    obtain ⟨x, hxx⟩ := Int.eq_ofNat_of_zero_le hx.1
    rw [hxx] at hx hw ⊢
    rw [Int.toNat_natCast] at hw ⊢
    refine evp hx.1 (evp hx.2 ?_)
    rw [rd_nat, w64 (by omega) (by omega)]
    by_cases c : s + w.getD x 0 ≥ q
    · rw [if_pos c]; exact evp c (evs rfl)
    · rw [if_neg c]
      refine evn c ?_
      rw [w64s j (by omega)]
      exact ih (j + 1) _ (by omega) (by omega) (by omega)
theorem iPivotal (w : List Int) (q : Int) (l : List Int) (hw : w.length ≤ 1048576) (hl : l.length ≤ 1048576) : Ev (fun k => impl_PivotalVoter.f k w q l) (pivV w q l) := by
  unfold impl_PivotalVoter.f
  refine evb (iIsVote w q (by omega)) ?_
  by_cases hv : voteB w q = true
  · have hV := (voteB_iff w q).1 hv
    refine evp hv (evb (iOrder l w.length (by have := hV.1; omega) hl) (Ev.step (fun k => impl_PivotalVoter.j0.eq_2 ..) ?_))
    by_cases hp : permB w.length l = true
    · rw [show pivV w q l = pivL w q l 0 by unfold pivV; rw [if_pos ⟨hv, hp⟩], hp]
      obtain ⟨p1, p2⟩ := (permB_iff _ _).1 hp
      have hpm := perm_of_all _ l p1 p2
      refine evn (by decide) ?_
      have hV1 := hV.1
      exact iPiv_l0 w q hV l (fun x hx => (rangeI_mem _ x).1 (hpm.mem_iff.1 hx)) (by omega) l.length 0 0 (by omega) (by omega) (by omega)
    · rw [show pivV w q l = (0, false) by unfold pivV; rw [if_neg (fun h => hp h.2)], Bool.eq_false_iff.2 hp]
      exact evp rfl (evs rfl)
  · rw [show pivV w q l = (0, false) by unfold pivV; rw [if_neg (fun h => hv h.1)]]
    exact evn hv (Ev.step (fun k => impl_PivotalVoter.j0.eq_2 ..) (evp rfl (evs rfl)))
theorem sPiv_l1 (w : List Int) (q : Int) (hv : Vot w q) (l : List Int) (hl : ∀ x ∈ l, 0 ≤ x ∧ x < w.length) (hll : l.length ≤ 8) : ∀ (d j : Nat) (s : Int), j + d + 1 = l.length → 0 ≤ s → s ≤ 20 * ((j : Int) + 1) → s + wsumL w (l.drop (j + 1)) ≥ q →
    Ev (fun k => spec_PivotalVoter.l1 k l s (j : Int) w q) (if s ≥ q then (l.getD j 0, true) else pivL w q (l.drop (j + 1)) s) := by
  intro d
  induction d with
  | zero =>
    intro j s hj h0 h1 hq
    rw [List.drop_of_length_le (by omega)] at hq
    simp only [wsumL] at hq
    rw [if_pos (by omega)]
    refine Ev.step (fun k => spec_PivotalVoter.l1.eq_2 ..) (evn (by omega) (evp (by omega) (evp (by omega) (evs ?_))))
    rw [rd_nat]
  | succ d ih =>
    intro j s hj h0 h1 hq
    by_cases c : s ≥ q
    · rw [if_pos c]
      refine Ev.step (fun k => spec_PivotalVoter.l1.eq_2 ..) (evn (by omega) (evp (by omega) (evp (by omega) (evs ?_))))
      rw [rd_nat]
    · rw [if_neg c]
      have hjl : j + 1 < l.length := by omega
      have hx := hl (l.getD (j + 1) 0) (by rw [List.getD_eq_getElem?_getD, List.getElem?_eq_getElem hjl]; exact List.getElem_mem _)
      have hw := hv.at_ (l.getD (j + 1) 0).toNat
      have e : l.drop (j + 1) = l.getD (j + 1) 0 :: l.drop (j + 1 + 1) := by rw [List.drop_eq_getElem_cons hjl, List.getD_eq_getElem?_getD, List.getElem?_eq_getElem hjl]; rfl
      rw [e] at hq ⊢
      simp only [wsumL] at hq
      simp only [pivL]
      refine Ev.step (fun k => spec_PivotalVoter.l1.eq_2 ..) (evp (by omega) ?_)
      rw [w64s j (by omega)]
      refine evp (by omega) (evp (by omega) ?_)
      rw [rd_nat]
      have hnx := ih (j + 1) (s + w.getD (l.getD (j + 1) 0).toNat 0) (by omega) (by omega) (by omega) (by omega)
      obtain ⟨x, hxx⟩ := Int.eq_ofNat_of_zero_le hx.1
      rw [hxx] at hx hw hnx ⊢
      rw [Int.toNat_natCast] at hw hnx ⊢
      refine evp hx.1 (evp hx.2 ?_)
      rw [rd_nat, w64 (by omega) (by omega)]
      exact hnx
theorem sPiv_l0 (w : List Int) (q : Int) (l : List Int) (hw : w.length ≤ 8) (hl : l.length = w.length) : ∀ (d i : Nat), i + d = w.length → (∀ j : Nat, j < i → (j : Int) ∈ l) → (R : Int × Bool) → (permB w.length l = false → R = (0, false)) →
    (permB w.length l = true → Ev (fun k => (if 0 < (l.length : Int) then (if 0 ≤ (rd l 0) then (if (rd l 0) < (w.length : Int) then (spec_PivotalVoter.l1 k l (rd w (rd l 0)) 0 w q) else (none)) else (none)) else (none))) R) → Ev (fun k => spec_PivotalVoter.l0 k l (i : Int) w q) R := by
  intro d
  induction d with
  | zero =>
    intro i hi hh R _ h2
    exact Ev.step (fun k => spec_PivotalVoter.l0.eq_2 ..) (evn (by omega) (h2 ((permB_iff _ _).2 ⟨hl, fun j hj => hh j (by omega)⟩)))
  | succ d ih =>
    intro i hi hh R h1 h2
    refine Ev.step (fun k => spec_PivotalVoter.l0.eq_2 ..) (evp (by omega) (evb (pvHas l (i : Int) (by omega)) ?_))
    by_cases e : l.contains (i : Int) = true
    · refine evp e ?_
      rw [w64s i (by omega)]
      refine ih (i + 1) (by omega) (fun j hj => ?_) R h1 h2
      rcases Nat.lt_or_ge j i with h | h
      · exact hh j h
      · rw [show j = i by omega]; exact List.contains_iff_mem.1 e
    · refine evn e (evs ?_)
      refine (h1 (Bool.eq_false_iff.2 (fun h => e (List.contains_iff_mem.2 (((permB_iff _ _).1 h).2 i (by omega)))))).symm
theorem sPivotal (w : List Int) (q : Int) (l : List Int) (hw : w.length ≤ 1048576) (hl : l.length ≤ 1048576) : Ev (fun k => spec_PivotalVoter.f k w q l) (pivV w q l) := by
  unfold spec_PivotalVoter.f
  refine evb (l6Vote w q (by omega)) ?_
  by_cases hv : voteB w q = true
  · have hV := (voteB_iff w q).1 hv
    have hV1 := hV.1
    refine evp hv (Ev.step (fun k => spec_PivotalVoter.j0.eq_2 ..) ?_)
    by_cases hln : l.length = w.length
    · refine evn (by rw [hln]; simp) ?_
      refine sPiv_l0 w q l (by omega) hln w.length 0 (by omega) (fun j hj => by omega) _ (fun hp => by unfold pivV; rw [if_neg (fun h => by rw [hp] at h; exact absurd h.2 (by decide))]) (fun hp => ?_)
      obtain ⟨p1, p2⟩ := (permB_iff _ _).1 hp
      have hpm := perm_of_all _ l p1 p2
      have hmem : ∀ x ∈ l, 0 ≤ x ∧ x < w.length := fun x hx => (rangeI_mem _ x).1 (hpm.mem_iff.1 hx)
      have hsum : wsumL w l = isum w := by rw [wsumL_perm w hpm, wsumL_range w _ (Nat.le_refl _), List.take_length]
      rw [show pivV w q l = pivL w q l 0 by unfold pivV; rw [if_pos ⟨hv, hp⟩]]
      have hl0 : 0 < l.length := by omega
      have e : l = l.getD 0 0 :: l.drop 1 := by
        have := List.drop_eq_getElem_cons hl0
        rw [List.drop_zero] at this
        rw [List.getD_eq_getElem?_getD, List.getElem?_eq_getElem hl0]; exact this
      have hx := hmem (l.getD 0 0) (by rw [List.getD_eq_getElem?_getD, List.getElem?_eq_getElem hl0]; exact List.getElem_mem _)
      have hwx := hV.at_ (l.getD 0 0).toNat
      rw [show (0 : Int) = ((0 : Nat) : Int) from rfl, rd_nat]
      have hq : w.getD (l.getD 0 0).toNat 0 + wsumL w (l.drop (0 + 1)) ≥ q := by
        have h5 : wsumL w l = w.getD (l.getD 0 0).toNat 0 + wsumL w (l.drop 1) := by rw [congrArg (wsumL w) e]; rfl
        have := hV.2.2.2
        rw [Nat.zero_add]; omega
      have hmain := sPiv_l1 w q hV l hmem (by omega) (l.length - 1) 0 (w.getD (l.getD 0 0).toNat 0) (by omega) (by omega) (by omega) hq
      have e3 : pivL w q l ((0 : Nat) : Int) = if w.getD (l.getD 0 0).toNat 0 ≥ q then (l.getD 0 0, true) else pivL w q (l.drop (0 + 1)) (w.getD (l.getD 0 0).toNat 0) := by
        rw [congrArg (fun z => pivL w q z ((0 : Nat) : Int)) e]
        simp only [pivL]
        rw [show ((0 : Nat) : Int) + w.getD (l.getD 0 0).toNat 0 = w.getD (l.getD 0 0).toNat 0 by omega]
      rw [e3]
      obtain ⟨x, hxx⟩ := Int.eq_ofNat_of_zero_le hx.1
      rw [hxx] at hx hmain ⊢
      rw [Int.toNat_natCast] at hmain ⊢
      refine evp (by omega) (evp hx.1 (evp hx.2 ?_))
      rw [rd_nat]
      exact hmain
    · rw [show pivV w q l = (0, false) by unfold pivV; rw [if_neg (fun h => hln ((permB_iff _ _).1 h.2).1)]]
      exact evp (by simp; omega) (evs rfl)
  · rw [show pivV w q l = (0, false) by unfold pivV; rw [if_neg (fun h => hv h.1)]]
    exact evn hv (Ev.step (fun k => spec_PivotalVoter.j0.eq_2 ..) (evp rfl (evs rfl)))

/-! ### laws_FnExactPivotalVoter -/
theorem law (l : List Int) (q : Int) (o : List Int) (hl : l.length ≤ maxLen) : Ev (fun k => laws_FnExactPivotalVoter.f k l q o) true := by
  unfold laws_FnExactPivotalVoter.f
  by_cases ho : (o.length : Int) > 1048576
  · exact evp ho (evs rfl)
  refine evn ho ?_
  rw [szVote l q 1048576 (by omega) (by omega) hl]; simp only [Option.bind_some]
  by_cases h : (l.length : Int) ≤ 1048576
  · rw [if_pos h]
    have hs := sPivotal l q o (by omega) (by omega)
    have hi := iPivotal l q o (by omega) (by omega)
    generalize pivV l q o = R at *
    repeat (first
    | exact evs rfl
    | dsimp only
    | (with_reducible refine evb hs ?_)
    | (with_reducible refine evb hi ?_)
    | ((with_reducible refine evb (toIntS _ ?_) ?_); (focus (first | omega | assumption)))
    | ((with_reducible refine evb (eqIntS _ _ ?_) ?_); (focus (first | omega | assumption)))
    | ((with_reducible refine evb (toVote _ _ ?_) ?_); (focus (first | omega | assumption)))
    | ((with_reducible refine evb (eqVote _ _ _ _ ?_) ?_); (focus (first | omega | assumption)))
    | (refine evp ?_ ?_; focus (first | omega | (simp; done)))
    | (refine evn ?_ ?_; focus (first | omega | (simp; done)))
    | (with_reducible refine Ev.step (fun k => laws_FnExactPivotalVoter.j0.eq_2 ..) ?_)
    )
  · rw [if_neg h]; exact evp (by omega) (evs rfl)

end Go.Proofs.Ytoecohjjbgenbaa.LFnExactPivotalVoter
