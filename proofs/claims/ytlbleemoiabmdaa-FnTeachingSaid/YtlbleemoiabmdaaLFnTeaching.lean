-- Own text.
import Derived.Test.YtlbleemoiabmdaaMFnTeachingx13
import Derived.Test.YtlbleemoiabmdaaZFnTeachingBase
namespace Go.Proofs.Ytlbleemoiabmdaa.LFnTeaching
open Go Go.RowKit Go.Proofs.Ytlbleemoiabmdaa.Base Go.Proofs.Ytlbleemoiabmdaa.PFnTeaching Go.Proofs.YtlbleemoiabmdaaW.PrintWords Go.Proofs.YtlbleemoiabmdaaW.PrintLast Go.Proofs.YtlbleemoiabmdaaW.PrintMore
set_option linter.unusedVariables false
set_option linter.unusedSimpArgs false
set_option maxRecDepth 4000
theorem l1In (a b c : Int) : spec_l1In.f a b c = some (decide (b ≤ a ∧ a ≤ c)) := by
 unfold spec_l1In.f; split <;> simp_all <;> omega
theorem within (a b c : Int) : impl_within.f a b c = some (decide (b ≤ a ∧ a ≤ c)) := by
 unfold impl_within.f; split <;> simp_all <;> omega
theorem allWithin_l0 (lo up : Int) (l : List Int) (hx : l.length < 4611686018427387904) : ∀ (d i : Nat), i + d = l.length →
  Ev (fun k => impl_allWithin.l0 k lo up l (l.length : Int) (i : Int)) ((l.drop i).all fun x => decide (lo ≤ x ∧ x ≤ up)) := by
 intro d
 induction d with
 | zero =>
  intro i hi
  refine Ev.step (fun k => impl_allWithin.l0.eq_2 ..) (evn (by omega) (evs ?_))
  simp [List.drop_of_length_le (show l.length ≤ i by omega)]
 | succ d ih =>
  intro i hi
  refine Ev.step (fun k => impl_allWithin.l0.eq_2 ..) (evp (by omega) (evp (by omega) (evp (by omega) ?_)))
  rw [w64s i (by omega), rd_nat, within, List.drop_eq_getElem_cons (show i < l.length by omega)]
  simp only [List.getD_eq_getElem?_getD, List.getElem?_eq_getElem (show i < l.length by omega), Option.getD_some, Option.bind_some, List.all_cons]
  by_cases e : lo ≤ l[i] ∧ l[i] ≤ up
  ·
   refine evp (by simpa using e) (evr (ih (i + 1) (by omega)) (by simp [e]))
  ·
   refine evn (by simpa using e) (evs (by simp [e]))
theorem allWithin (l : List Int) (lo up : Int) (hx : l.length < 4611686018427387904) : Ev (fun k => impl_allWithin.f k l lo up) (l.all fun x => decide (lo ≤ x ∧ x ≤ up)) := by
 unfold impl_allWithin.f
 exact allWithin_l0 lo up l hx l.length 0 (by omega)
theorem l1Own (l : List Int) (h : l.length < 17592186044416) : spec_l1Own.f l = some l := by
 unfold spec_l1Own.f
 simp only [Option.bind_some]
 rw [if_pos (by simpa using h)]; rfl
theorem copied (l : List Int) (h : l.length < 17592186044416) : impl_copied.f l = some l := by
 unfold impl_copied.f
 simp only [Option.bind_some]
 rw [if_pos (by simpa using h)]; rfl
theorem l1Rising_l0 (l : List Int) (lo hi : Int) (hl : l.length < 4611686018427387904) : ∀ (d i : Nat), i + d = l.length →
  Ev (fun k => spec_l1Rising.l0 k l lo hi (i : Int)) (inB lo hi (l.drop i) && riseB (l.drop (i - 1))) := by
 intro d
 induction d with
 | zero =>
  intro i hi'
  refine Ev.step (fun k => spec_l1Rising.l0.eq_2 ..) (evn (by omega) (evs ?_))
  rw [riseB_end l (i - 1) (by omega), List.drop_of_length_le (show l.length ≤ i by omega)]; rfl
 | succ d ih =>
  intro i hi'
  refine Ev.step (fun k => spec_l1Rising.l0.eq_2 ..) (evp (by omega) (evp (by omega) ?_))
  rw [rd_nat, l1In, w64s i (by omega)]; simp only [Option.bind_some]
  have hd := List.drop_eq_getElem_cons (show i < l.length by omega)
  have hg : l.getD i 0 = l[i] := by simp [List.getD_eq_getElem?_getD, List.getElem?_eq_getElem (show i < l.length by omega)]
  by_cases e : lo ≤ l.getD i 0 ∧ l.getD i 0 ≤ hi
  ·
   refine evp (by simpa using e) ?_
   have hin : inB lo hi (l.drop i) = inB lo hi (l.drop (i + 1)) := by rw [hd]; simp only [inB, List.all_cons]; rw [← hg, decide_eq_true e, Bool.true_and]
   by_cases e0 : 0 < i
   ·
    refine evp (by omega) ?_
    rw [w64 (x := (i : Int) - 1) (by omega) (by omega), show (i : Int) - 1 = ((i - 1 : Nat) : Int) by omega, rd_nat]
    refine evp (by omega) (evp (by omega) ?_)
    have hs := riseB_step l (i - 1) (by omega)
    rw [show i - 1 + 1 = i by omega] at hs
    by_cases e1 : l.getD (i - 1) 0 ≥ l.getD i 0
    ·
     refine evp e1 (evs ?_)
     rw [hs, decide_eq_false (by omega)]; simp
    ·
     refine evn e1 (evr (ih (i + 1) (by omega)) ?_)
     rw [hin, hs, decide_eq_true (show l.getD (i - 1) 0 < l.getD i 0 by omega)]; simp
   ·
    refine evn (by omega) (evr (ih (i + 1) (by omega)) ?_)
    obtain rfl : i = 0 := by omega
    rw [hin]
  ·
   refine evn (by simpa using e) (evs ?_)
   rw [hd]; simp only [inB, List.all_cons]; rw [← hg, decide_eq_false e]; simp
theorem l1Rising (l : List Int) (lo hi : Int) (hl : l.length < 4611686018427387904) : Ev (fun k => spec_l1Rising.f k l lo hi) (inB lo hi l && riseB l) := by
 unfold spec_l1Rising.f
 exact evr (l1Rising_l0 l lo hi hl l.length 0 (by omega)) (by simp)
theorem rising_l0 (l : List Int) (hl : l.length < 4611686018427387904) : ∀ (d i : Nat), i + d = l.length → 1 ≤ i →
  Ev (fun k => impl_rising.l0 k l (i : Int)) (riseB (l.drop (i - 1))) := by
 intro d
 induction d with
 | zero =>
  intro i hi' h1
  refine Ev.step (fun k => impl_rising.l0.eq_2 ..) (evn (by omega) (evs ?_))
  rw [riseB_end l (i - 1) (by omega)]
 | succ d ih =>
  intro i hi' h1
  refine Ev.step (fun k => impl_rising.l0.eq_2 ..) (evp (by omega) ?_)
  rw [rd_nat, w64s i (by omega), w64 (x := (i : Int) - 1) (by omega) (by omega), show (i : Int) - 1 = ((i - 1 : Nat) : Int) by omega, rd_nat]
  refine evp (by omega) (evp (by omega) (evp (by omega) ?_))
  have hs := riseB_step l (i - 1) (by omega)
  rw [show i - 1 + 1 = i by omega] at hs
  by_cases e1 : l.getD (i - 1) 0 ≥ l.getD i 0
  ·
   refine evp e1 (evs ?_)
   rw [hs, decide_eq_false (by omega)]; simp
  ·
   refine evn e1 (evr (ih (i + 1) (by omega) (by omega)) ?_)
   rw [hs, decide_eq_true (show l.getD (i - 1) 0 < l.getD i 0 by omega)]; simp
theorem rising (l : List Int) (hl : l.length < 4611686018427387904) : Ev (fun k => impl_rising.f k l) (riseB l) := by
 unfold impl_rising.f
 by_cases h : l.length = 0
 ·
  refine Ev.step (fun k => impl_rising.l0.eq_2 ..) (evn (by omega) (evs ?_))
  rw [List.eq_nil_of_length_eq_zero h]; rfl
 ·
  exact evr (rising_l0 l hl (l.length - 1) 1 (by omega) (by omega)) (by simp)
theorem isSet (l : List Int) (n : Int) (hn : 0 ≤ n ∧ n ≤ 1000000) (hl : l.length < 4611686018427387904) : Ev (fun k => impl_isSet.f k l n) (setB n l) := by
 unfold impl_isSet.f setB
 refine evb (rising l hl) ?_
 rw [w64 (x := n - 1) (by omega) (by omega)]
 by_cases e : riseB l = true
 ·
  refine evp e (evb (allWithin l 0 (n - 1) hl) (evs ?_))
  rw [e, Bool.and_true]; rfl
 ·
  exact evn e (evs (by simp [e]))
theorem l2Labels_l0 (l : List Int) (hx : l.length < 4611686018427387904) : ∀ (d i : Nat), i + d = l.length →
  Ev (fun k => spec_l2Labels.l0 k l (i : Int)) (labB (l.drop i)) := by
 intro d
 induction d with
 | zero =>
  intro i hi
  exact Ev.step (fun k => spec_l2Labels.l0.eq_2 ..) (evn (by omega) (evs (by rw [List.drop_of_length_le (show l.length ≤ i by omega)]; rfl)))
 | succ d ih =>
  intro i hi
  refine Ev.step (fun k => spec_l2Labels.l0.eq_2 ..) (evp (by omega) (evp (by omega) ?_))
  rw [w64s i (by omega), rd_nat, List.drop_eq_getElem_cons (show i < l.length by omega)]
  simp only [List.getD_eq_getElem?_getD, List.getElem?_eq_getElem (show i < l.length by omega), Option.getD_some, labB, List.all_cons]
  by_cases e : l[i] = 1
  ·
   exact evp e (evr (ih (i + 1) (by omega)) (by rw [decide_eq_true (.inl e)]; rfl))
  ·
   refine evn e ?_
   by_cases e' : l[i] = -1
   ·
    exact evp e' (evr (ih (i + 1) (by omega)) (by rw [decide_eq_true (.inr e')]; rfl))
   ·
    exact evn e' (evs (by rw [decide_eq_false (fun h => h.elim e e')]; rfl))
theorem l2Labels (l : List Int) (hx : l.length < 4611686018427387904) : Ev (fun k => spec_l2Labels.f k l) (labB l) := by
 unfold spec_l2Labels.f
 exact l2Labels_l0 l hx l.length 0 (by omega)
theorem isLabel (x : Int) : impl_isLabel.f x = some (decide (x = 1 ∨ x = -1)) := by
 unfold impl_isLabel.f
 by_cases e : x = 1
 ·
  rw [if_pos e, decide_eq_true (.inl e)]
 ·
  rw [if_neg e]; congr 1; rw [Bool.eq_iff_iff]; simp [e]
theorem areLabels_l0 (l : List Int) (hx : l.length < 4611686018427387904) : ∀ (d i : Nat), i + d = l.length →
  Ev (fun k => impl_areLabels.l0 k l (l.length : Int) (i : Int)) (labB (l.drop i)) := by
 intro d
 induction d with
 | zero =>
  intro i hi
  exact Ev.step (fun k => impl_areLabels.l0.eq_2 ..) (evn (by omega) (evs (by rw [List.drop_of_length_le (show l.length ≤ i by omega)]; rfl)))
 | succ d ih =>
  intro i hi
  refine Ev.step (fun k => impl_areLabels.l0.eq_2 ..) (evp (by omega) (evp (by omega) (evp (by omega) ?_)))
  rw [w64s i (by omega), rd_nat, isLabel, List.drop_eq_getElem_cons (show i < l.length by omega)]
  simp only [List.getD_eq_getElem?_getD, List.getElem?_eq_getElem (show i < l.length by omega), Option.getD_some, Option.bind_some, labB, List.all_cons]
  by_cases e : l[i] = 1 ∨ l[i] = -1
  ·
   exact evp (by simpa using e) (evr (ih (i + 1) (by omega)) (by rw [decide_eq_true e]; rfl))
  ·
   exact evn (by simpa using e) (evs (by rw [decide_eq_false e]; rfl))
theorem areLabels (l : List Int) (hx : l.length < 4611686018427387904) : Ev (fun k => impl_areLabels.f k l) (labB l) := by
 unfold impl_areLabels.f
 exact areLabels_l0 l hx l.length 0 (by omega)
theorem l7Before_l0 (a b : List Int) (hl : a.length = b.length) (hx : a.length < 4611686018427387904) : ∀ (d i : Nat), i + d = a.length →
  Ev (fun k => spec_l7Before.l0 k a b (i : Int)) (lexB (a.drop i) (b.drop i)) := by
 intro d
 induction d with
 | zero =>
  intro i hi
  exact Ev.step (fun k => spec_l7Before.l0.eq_2 ..) (evn (by omega) (evs (by rw [List.drop_of_length_le (show a.length ≤ i by omega)]; rfl)))
 | succ d ih =>
  intro i hi
  refine Ev.step (fun k => spec_l7Before.l0.eq_2 ..) (evp (by omega) (evp (by omega) (evp (by omega) ?_)))
  rw [w64s i (by omega), rd_nat, rd_nat, List.drop_eq_getElem_cons (show i < a.length by omega), List.drop_eq_getElem_cons (show i < b.length by omega)]
  simp only [List.getD_eq_getElem?_getD, List.getElem?_eq_getElem (show i < a.length by omega), List.getElem?_eq_getElem (show i < b.length by omega), Option.getD_some, lexB]
  by_cases e : a[i] = b[i]
  ·
   exact evp e (evr (ih (i + 1) (by omega)) (by rw [if_pos e]))
  ·
   exact evn e (evs (by rw [if_neg e]))
theorem l7Before (a b : List Int) (hl : a.length = b.length) (hx : a.length < 4611686018427387904) : Ev (fun k => spec_l7Before.f k a b) (lexB a b) := by
 unfold spec_l7Before.f
 exact l7Before_l0 a b hl hx a.length 0 (by omega)
theorem compareInt (a b : Int) : cmp_Compare_int.f a b = some (if a < b then -1 else if a > b then 1 else 0) := by
 unfold cmp_Compare_int.f cmp_isNaN_int.f
 simp only [bne_self_eq_false, Option.bind_some, Bool.false_eq_true, if_false]
 split
 ·
  rfl
 ·
  split <;> rfl
theorem compareL_l0 (a b : List Int) (hx : a.length < 4611686018427387904) : ∀ (d i : Nat), i + d = a.length → i ≤ b.length →
  Ev (fun k => slices_Compare_int_int.l0 k a b a (a.length : Int) (i : Int)) (cmpv (a.drop i) (b.drop i)) := by
 intro d
 induction d with
 | zero =>
  intro i hi hb
  refine Ev.step (fun k => slices_Compare_int_int.l0.eq_2 ..) (evn (by omega) ?_)
  rw [List.drop_of_length_le (show a.length ≤ i by omega)]
  by_cases e : a.length < b.length
  ·
   refine evp (by omega) (evs ?_)
   rw [List.drop_eq_getElem_cons (show i < b.length by omega)]; rfl
  ·
   refine evn (by omega) (evs ?_)
   rw [List.drop_of_length_le (show b.length ≤ i by omega)]; rfl
 | succ d ih =>
  intro i hi hb
  refine Ev.step (fun k => slices_Compare_int_int.l0.eq_2 ..) (evp (by omega) (evp (by omega) (evp (by omega) ?_)))
  rw [List.drop_eq_getElem_cons (show i < a.length by omega)]
  by_cases e : i ≥ b.length
  ·
   refine evp (by omega) (evs ?_)
   rw [List.drop_of_length_le (show b.length ≤ i by omega)]; rfl
  ·
   refine evn (by omega) (evp (by omega) ?_)
   rw [rd_nat, rd_nat, compareInt, w64s i (by omega), List.drop_eq_getElem_cons (show i < b.length by omega)]
   simp only [List.getD_eq_getElem?_getD, List.getElem?_eq_getElem (show i < a.length by omega), List.getElem?_eq_getElem (show i < b.length by omega), Option.getD_some, Option.bind_some, cmpv]
   by_cases e1 : a[i] < b[i]
   ·
    rw [if_pos e1]; exact evn (by decide) (evs (by rw [if_pos e1]))
   ·
    rw [if_neg e1]
    by_cases e2 : a[i] > b[i]
    ·
     rw [if_pos e2]; exact evn (by decide) (evs (by rw [if_neg e1, if_pos e2]))
    ·
     rw [if_neg e2]; exact evp rfl (evr (ih (i + 1) (by omega) (by omega)) (by rw [if_neg e1, if_neg e2]))
theorem compareL (a b : List Int) (hx : a.length < 4611686018427387904) : Ev (fun k => slices_Compare_int_int.f k a b) (cmpv a b) := by
 unfold slices_Compare_int_int.f
 exact compareL_l0 a b hx a.length 0 (by omega) (by omega)
theorem rdL_nat' (l : List (List Int)) (i : Nat) : rd_L2 l (i : Int) = rdl l i := by simp [rd_L2, rdl]
theorem l7Class_l0 (l : List (List Int)) (hx : l.length ≤ 1048576) (hr : ∀ r ∈ l, (r.length : Int) ≤ 1048576) : ∀ (d i : Nat), i + d = l.length → (0 < i → (rdl l (i - 1)).length = (rdl l 0).length) →
  Ev (fun k => spec_l7Class.l0 k l (i : Int)) ((List.range' i d).all (rowok l) && decide (1 ≤ l.length ∧ l.length ≤ 256)) := by
 intro d
 induction d with
 | zero =>
  intro i hi _
  refine Ev.step (fun k => spec_l7Class.l0.eq_2 ..) (evn (by omega) (evb (evc (l1In ..)) (evs ?_)))
  rw [show (List.range' i 0).all (rowok l) = true by simp, Bool.true_and]
  exact decide_eq_decide.2 (by omega)
 | succ d ih =>
  intro i hi hp
  have hri := hr _ (rdl_mem l i (by omega))
  have no : rowok l i = false → ((List.range' i (d + 1)).all (rowok l) && decide (1 ≤ l.length ∧ l.length ≤ 256)) = false := by
   intro e; rw [List.range'_succ, List.all_cons, e]; rfl
  refine Ev.step (fun k => spec_l7Class.l0.eq_2 ..) (evp (by omega) (evp (by omega) ?_))
  rw [rdL_nat', show rd_L2 l 0 = rdl l 0 from rdL_nat' l 0]
  by_cases e1 : (rdl l i).length ≤ 8
  ·
   refine evn (by omega) (evp (by omega) ?_)
   by_cases e2 : (rdl l i).length = (rdl l 0).length
   ·
    refine evp (by omega) (evb (l2Labels _ (by omega)) (Ev.step (fun k => spec_l7Class.j1.eq_2 ..) ?_))
    by_cases e3 : labB (rdl l i) = true
    ·
     refine evn (by simp [e3]) ?_
     rw [w64s i (by omega)]
     by_cases e0 : 0 < i
     ·
      refine evp (by omega) ?_
      have hpi := hp e0
      have hrp := hr _ (rdl_mem l (i - 1) (by omega))
      rw [w64 (x := (i : Int) - 1) (by omega) (by omega), show (i : Int) - 1 = ((i - 1 : Nat) : Int) by omega, rdL_nat', rdL_nat']
      refine evp (by omega) (evp (by omega) (evp (by omega) (evp (by omega) (evb (l7Before _ _ (by omega) (by omega)) ?_))))
      by_cases e4 : lexB (rdl l (i - 1)) (rdl l i) = true
      ·
       refine evp e4 (evr (ih (i + 1) (by omega) (fun _ => e2)) ?_)
       rw [List.range'_succ, List.all_cons, show rowok l i = true by unfold rowok; rw [decide_eq_true e1, decide_eq_true e2, e3, e4]; simp]; rfl
      ·
       refine evn e4 (evs (no ?_).symm)
       unfold rowok; rw [Bool.eq_false_iff.2 e4, decide_eq_false (show ¬ i = 0 by omega)]; simp
     ·
      obtain rfl : i = 0 := by omega
      refine evn (by omega) (evr (ih 1 (by omega) (fun _ => rfl)) ?_)
      rw [List.range'_succ, List.all_cons, show rowok l 0 = true by unfold rowok; rw [decide_eq_true e1, decide_eq_true e2, e3]; simp]; rfl
    ·
     refine evp (by simp [e3]) (evs (no ?_).symm)
     unfold rowok; rw [Bool.eq_false_iff.2 e3]; simp
   ·
    refine evn (by omega) (Ev.step (fun k => spec_l7Class.j1.eq_2 ..) (evp rfl (evs (no ?_).symm)))
    unfold rowok; rw [decide_eq_false e2]; simp
  ·
   refine evp (by omega) (Ev.step (fun k => spec_l7Class.j1.eq_2 ..) (evp rfl (evs (no ?_).symm)))
   unfold rowok; rw [decide_eq_false e1]; simp
theorem l7Class (l : List (List Int)) (hx : l.length ≤ 1048576) (hr : ∀ r ∈ l, (r.length : Int) ≤ 1048576) : Ev (fun k => spec_l7Class.f k l) (classB l) := by
 unfold spec_l7Class.f classB
 refine evr (l7Class_l0 l hx hr l.length 0 (by omega) (fun h => by omega)) ?_
 rw [List.range_eq_range', Bool.and_comm]
theorem rdL_nat'' (l : List (List Int)) (i : Nat) : rd_L2 l (i : Int) = rdl l i := by simp [rd_L2, rdl]
theorem iClass_l0 (l : List (List Int)) (hx : l.length ≤ 256) (hr : ∀ r ∈ l, (r.length : Int) ≤ 1048576) (h8 : (rdl l 0).length ≤ 8) : ∀ (d i : Nat), i + d = l.length → (0 < i → (rdl l (i - 1)).length = (rdl l 0).length) →
  Ev (fun k => impl_IsClass.l0 k l l (l.length : Int) (i : Int)) ((List.range' i d).all (rowok l)) := by
 intro d
 induction d with
 | zero =>
  intro i hi _
  exact Ev.step (fun k => impl_IsClass.l0.eq_2 ..) (evn (by omega) (evs (by simp)))
 | succ d ih =>
  intro i hi hp
  have hri := hr _ (rdl_mem l i (by omega))
  have no : rowok l i = false → (List.range' i (d + 1)).all (rowok l) = false := by
   intro e; rw [List.range'_succ, List.all_cons, e]; rfl
  refine Ev.step (fun k => impl_IsClass.l0.eq_2 ..) (evp (by omega) (evp (by omega) (evp (by omega) (evp (by omega) ?_))))
  rw [rdL_nat'', show rd_L2 l 0 = rdl l 0 from rdL_nat'' l 0]
  by_cases e2 : (rdl l i).length = (rdl l 0).length
  ·
   refine evp (by omega) (evb (areLabels _ (by omega)) ?_)
   by_cases e3 : labB (rdl l i) = true
   ·
    refine evp e3 ?_
    rw [w64s i (by omega)]
    by_cases e0 : 0 < i
    ·
     refine evp (by omega) ?_
     have hpi := hp e0
     have hrp := hr _ (rdl_mem l (i - 1) (by omega))
     rw [w64 (x := (i : Int) - 1) (by omega) (by omega), show (i : Int) - 1 = ((i - 1 : Nat) : Int) by omega, rdL_nat'']
     refine evp (by omega) (evp (by omega) (evb (compareL _ _ (by omega)) ?_))
     have hc := cmp_lex (rdl l (i - 1)) (rdl l i) (by omega)
     by_cases e4 : lexB (rdl l (i - 1)) (rdl l i) = true
     ·
      refine evn (fun h => by rw [hc.1 h] at e4; cases e4) (evr (ih (i + 1) (by omega) (fun _ => e2)) ?_)
      rw [List.range'_succ, List.all_cons, show rowok l i = true by unfold rowok; rw [decide_eq_true (show (rdl l i).length ≤ 8 by omega), decide_eq_true e2, e3, e4]; simp]; rfl
     ·
      refine evp (hc.2 (Bool.eq_false_iff.2 e4)) (evs (no ?_).symm)
      unfold rowok; rw [Bool.eq_false_iff.2 e4, decide_eq_false (show ¬ i = 0 by omega)]; simp
    ·
     obtain rfl : i = 0 := by omega
     refine evn (by omega) (evr (ih 1 (by omega) (fun _ => rfl)) ?_)
     rw [List.range'_succ, List.all_cons, show rowok l 0 = true by unfold rowok; rw [decide_eq_true h8, decide_eq_true e2, e3]; simp]; rfl
   ·
    refine evn e3 (evs (no ?_).symm)
    unfold rowok; rw [Bool.eq_false_iff.2 e3]; simp
  ·
   refine evn (by omega) (evs (no ?_).symm)
   unfold rowok; rw [decide_eq_false e2]; simp
theorem iIsClass (l : List (List Int)) (hx : l.length ≤ 1048576) (hr : ∀ r ∈ l, (r.length : Int) ≤ 1048576) : Ev (fun k => impl_IsClass.f k l) (classB l) := by
 unfold impl_IsClass.f classB
 rw [within]; simp only [Option.bind_some]
 by_cases e : 1 ≤ l.length ∧ l.length ≤ 256
 ·
  refine evp (by simp; omega) (evp (by omega) (Ev.step (fun k => impl_IsClass.j0.eq_2 ..) ?_))
  rw [show rd_L2 l 0 = rdl l 0 from rdL_nat'' l 0, decide_eq_true e, Bool.true_and]
  by_cases h8 : (rdl l 0).length ≤ 8
  ·
   refine evn (by simp; omega) (evr (iClass_l0 l e.2 hr h8 l.length 0 (by omega) (fun h => by omega)) ?_)
   rw [List.range_eq_range']
  ·
   refine evp (by simp; omega) (evs ?_)
   obtain ⟨n, hn⟩ : ∃ n, l.length = n + 1 := ⟨l.length - 1, by omega⟩
   rw [hn, List.range_eq_range', List.range'_succ, List.all_cons, show rowok l 0 = false by unfold rowok; rw [decide_eq_false h8]; rfl]; rfl
 ·
  exact evn (by simp; omega) (Ev.step (fun k => impl_IsClass.j0.eq_2 ..) (evp rfl (evs (by rw [decide_eq_false e]; rfl))))
def atV (h s : List Int) : List Int := s.map fun i => h.getD i.toNat 0
theorem l7At_l0 (h s : List Int) (hs : s.length ≤ 1048576) (hb : ∀ x ∈ s, 0 ≤ x ∧ x < h.length) : ∀ (d i : Nat) (out : List Int), i + d = s.length → out.length = i → Ev (fun k => spec_l7At.l0 k h s out (i : Int)) (out ++ atV h (s.drop i)) := by
 intro d
 induction d with
 | zero =>
  intro i out hi ho
  refine Ev.step (fun k => spec_l7At.l0.eq_2 ..) (evn (by omega) (evs ?_))
  rw [List.drop_of_length_le (by omega)]; simp [atV]
 | succ d ih =>
  intro i out hi ho
  have e : s.drop i = s.getD i 0 :: s.drop (i + 1) := by
   rw [List.drop_eq_getElem_cons (by omega)]; simp [List.getD_eq_getElem?_getD, List.getElem?_eq_getElem (show i < s.length by omega)]
  have hx := hb (s.getD i 0) (by rw [List.getD_eq_getElem?_getD, List.getElem?_eq_getElem (by omega)]; exact List.getElem_mem _)
  refine Ev.step (fun k => spec_l7At.l0.eq_2 ..) (evp (by omega) (evp (by omega) ?_))
  rw [rd_nat s i, w64s i (by omega)]
  refine evp hx.1 (evp hx.2 (evp (by omega) (evr (ih (i + 1) _ (by omega) (by simp; omega)) ?_)))
  rw [e]; simp [atV, rd]
theorem l7At (h s : List Int) (hs : s.length ≤ 1048576) (hb : ∀ x ∈ s, 0 ≤ x ∧ x < h.length) : Ev (fun k => spec_l7At.f k h s) (atV h s) := by
 unfold spec_l7At.f
 exact l7At_l0 h s hs hb s.length 0 [] (by omega) rfl
theorem atV_len (h s : List Int) : (atV h s).length = s.length := by simp [atV]
theorem iAt_l0 (h s : List Int) (hs : s.length ≤ 1048576) (hb : ∀ x ∈ s, 0 ≤ x ∧ x < h.length) : ∀ (d i : Nat) (out : List Int), i + d = s.length → out.length = i → Ev (fun k => impl_at.l0 k h out s (s.length : Int) (i : Int)) (out ++ atV h (s.drop i)) := by
 intro d
 induction d with
 | zero =>
  intro i out hi ho
  refine Ev.step (fun k => impl_at.l0.eq_2 ..) (evn (by omega) (evs ?_))
  rw [List.drop_of_length_le (by omega)]; simp [atV]
 | succ d ih =>
  intro i out hi ho
  have e : s.drop i = s.getD i 0 :: s.drop (i + 1) := by
   rw [List.drop_eq_getElem_cons (by omega)]; simp [List.getD_eq_getElem?_getD, List.getElem?_eq_getElem (show i < s.length by omega)]
  have hx := hb (s.getD i 0) (by rw [List.getD_eq_getElem?_getD, List.getElem?_eq_getElem (by omega)]; exact List.getElem_mem _)
  refine Ev.step (fun k => impl_at.l0.eq_2 ..) (evp (by omega) (evp (by omega) (evp (by omega) ?_)))
  rw [rd_nat s i, w64s i (by omega)]
  refine evp hx.1 (evp hx.2 (evp (by omega) (evr (ih (i + 1) _ (by omega) (by simp; omega)) ?_)))
  rw [e]; simp [atV, rd]
theorem iAt (h s : List Int) (hs : s.length ≤ 1048576) (hb : ∀ x ∈ s, 0 ≤ x ∧ x < h.length) : Ev (fun k => impl_at.f k h s) (atV h s) := by
 unfold impl_at.f
 exact iAt_l0 h s hs hb s.length 0 [] (by omega) rfl
theorem l1Same_l0 (a b : List Int) (hl : a.length = b.length) (hx : a.length ≤ 1048576) : ∀ (d i : Nat), i + d = a.length → Ev (fun k => spec_l1Same.l0 k a b (i : Int)) (decide (a.drop i = b.drop i)) := by
 intro d
 induction d with
 | zero =>
  intro i hi
  refine Ev.step (fun k => spec_l1Same.l0.eq_2 ..) (evn (by omega) (evs ?_))
  rw [List.drop_of_length_le (by omega), List.drop_of_length_le (by omega)]; simp
 | succ d ih =>
  intro i hi
  have e1 : a.drop i = a.getD i 0 :: a.drop (i + 1) := by
   rw [List.drop_eq_getElem_cons (by omega)]; simp [List.getD_eq_getElem?_getD, List.getElem?_eq_getElem (show i < a.length by omega)]
  have e2 : b.drop i = b.getD i 0 :: b.drop (i + 1) := by
   rw [List.drop_eq_getElem_cons (by omega)]; simp [List.getD_eq_getElem?_getD, List.getElem?_eq_getElem (show i < b.length by omega)]
  refine Ev.step (fun k => spec_l1Same.l0.eq_2 ..) (evp (by omega) (evp (by omega) (evp (by omega) ?_)))
  rw [rd_nat, rd_nat, w64s i (by omega), e1, e2]
  by_cases c : a.getD i 0 = b.getD i 0
  ·
   refine evp c (evr (ih (i + 1) (by omega)) ?_)
   rw [c]; simp only [List.cons.injEq, true_and]
  ·
   exact evn c (evs (by simp only [List.cons.injEq, c, false_and, decide_false]))
theorem l1Same (a b : List Int) (hx : a.length ≤ 1048576) : Ev (fun k => spec_l1Same.f k a b) (decide (a = b)) := by
 unfold spec_l1Same.f
 by_cases h : a.length = b.length
 ·
  exact evp (by omega) (evr (l1Same_l0 a b h hx a.length 0 (by omega)) (by simp))
 ·
  exact evn (by omega) (evs (decide_eq_false (fun e => h (by rw [e]))).symm)
theorem sEqual_l0 (a b : List Int) (hl : a.length = b.length) (hx : a.length ≤ 1048576) : ∀ (d i : Nat), i + d = a.length → Ev (fun k => slices_Equal_int_int.l0 k a b (a.length : Int) (i : Int)) (decide (a.drop i = b.drop i)) := by
 intro d
 induction d with
 | zero =>
  intro i hi
  refine Ev.step (fun k => slices_Equal_int_int.l0.eq_2 ..) (evn (by omega) (evs ?_))
  rw [List.drop_of_length_le (by omega), List.drop_of_length_le (by omega)]; simp
 | succ d ih =>
  intro i hi
  have e1 : a.drop i = a.getD i 0 :: a.drop (i + 1) := by
   rw [List.drop_eq_getElem_cons (by omega)]; simp [List.getD_eq_getElem?_getD, List.getElem?_eq_getElem (show i < a.length by omega)]
  have e2 : b.drop i = b.getD i 0 :: b.drop (i + 1) := by
   rw [List.drop_eq_getElem_cons (by omega)]; simp [List.getD_eq_getElem?_getD, List.getElem?_eq_getElem (show i < b.length by omega)]
  refine Ev.step (fun k => slices_Equal_int_int.l0.eq_2 ..) (evp (by omega) (evp (by omega) (evp (by omega) (evp (by omega) ?_))))
  rw [rd_nat, rd_nat, w64s i (by omega), e1, e2]
  by_cases c : a.getD i 0 = b.getD i 0
  ·
   refine evp c (evr (ih (i + 1) (by omega)) ?_)
   rw [c]; simp only [List.cons.injEq, true_and]
  ·
   exact evn c (evs (by simp only [List.cons.injEq, c, false_and, decide_false]))
theorem sEqual (a b : List Int) (hx : a.length ≤ 1048576) : Ev (fun k => slices_Equal_int_int.f k a b) (decide (a = b)) := by
 unfold slices_Equal_int_int.f
 by_cases h : a.length = b.length
 ·
  exact evp (by omega) (evr (sEqual_l0 a b h hx a.length 0 (by omega)) (by simp))
 ·
  exact evn (by omega) (evs (decide_eq_false (fun e => h (by rw [e]))).symm)
def vers1 (c : List (List Int)) (s y : List Int) (i : Nat) : Bool := decide (atV (rdl c i) s = y)
def versV (c : List (List Int)) (s y : List Int) (n : Nat) : List Int := ((List.range n).filter (vers1 c s y)).map fun i : Nat => (i : Int)
theorem versV_len (c : List (List Int)) (s y : List Int) (n : Nat) : (versV c s y n).length ≤ n := by
 unfold versV; rw [List.length_map]; exact Nat.le_trans (List.length_filter_le _ _) (by simp)
theorem versV_succ (c : List (List Int)) (s y : List Int) (n : Nat) : versV c s y (n + 1) = if vers1 c s y n = true then versV c s y n ++ [(n : Int)] else versV c s y n := by
 unfold versV
 rw [List.range_succ, List.filter_append, List.map_append]
 by_cases e : vers1 c s y n = true
 ·
  rw [if_pos e]; simp [e]
 ·
  rw [if_neg e]; simp [e]
theorem l7Version_l0 (c : List (List Int)) (s y : List Int) (hc : c.length ≤ 1048576) (hs : s.length ≤ 1048576) (hb : ∀ i, i < c.length → ∀ x ∈ s, 0 ≤ x ∧ x < (rdl c i).length) : ∀ (d i : Nat), i + d = c.length → Ev (fun k => spec_l7Version.l0 k c s y (versV c s y i) (i : Int)) (versV c s y c.length) := by
 intro d
 induction d with
 | zero =>
  intro i hi
  refine Ev.step (fun k => spec_l7Version.l0.eq_2 ..) (evn (by omega) (evs ?_))
  rw [show i = c.length by omega]
 | succ d ih =>
  intro i hi
  have hlen := versV_len c s y i
  have h := ih (i + 1) (by omega)
  rw [versV_succ] at h
  refine Ev.step (fun k => spec_l7Version.l0.eq_2 ..) (evp (by omega) (evp (by omega) ?_))
  rw [rdL_nat', w64s i (by omega)]
  refine evb (l7At _ s hs (hb i (by omega))) (evb (l1Same _ y (by rw [atV_len]; exact hs)) ?_)
  by_cases e : vers1 c s y i = true
  ·
   rw [if_pos e] at h
   exact evp e (evp (by omega) h)
  ·
   rw [if_neg e] at h
   exact evn e h
theorem l7Version (c : List (List Int)) (s y : List Int) (hc : c.length ≤ 1048576) (hs : s.length ≤ 1048576) (hb : ∀ i, i < c.length → ∀ x ∈ s, 0 ≤ x ∧ x < (rdl c i).length) : Ev (fun k => spec_l7Version.f k c s y) (versV c s y c.length) := by
 unfold spec_l7Version.f
 exact l7Version_l0 c s y hc hs hb c.length 0 (by omega)
theorem classB_at {c : List (List Int)} (h : classB c = true) : (1 ≤ c.length ∧ c.length ≤ 256) ∧ ∀ i, i < c.length → (rdl c i).length = (rdl c 0).length ∧ (rdl c i).length ≤ 8 := by
 unfold classB at h
 simp only [Bool.and_eq_true, decide_eq_true_eq, List.all_eq_true, List.mem_range] at h
 refine ⟨h.1, fun i hi => ?_⟩
 have := h.2 i hi
 unfold rowok at this
 simp only [Bool.and_eq_true, decide_eq_true_eq] at this
 exact ⟨this.2.1, this.1⟩
theorem setB_in {n : Int} {s : List Int} (h : setB n s = true) : ∀ x ∈ s, 0 ≤ x ∧ x < n := by
 unfold setB inB at h
 simp only [Bool.and_eq_true, List.all_eq_true, decide_eq_true_eq] at h
 intro x hx
 have := h.1 x hx
 omega
theorem iVersion_l0 (c : List (List Int)) (s y : List Int) (hc : c.length ≤ 1048576) (hs : s.length ≤ 1048576) (hb : ∀ i, i < c.length → ∀ x ∈ s, 0 ≤ x ∧ x < (rdl c i).length) : ∀ (d i : Nat), i + d = c.length → Ev (fun k => impl_version.l0 k s y (versV c s y i) c (c.length : Int) (i : Int)) (versV c s y c.length) := by
 intro d
 induction d with
 | zero =>
  intro i hi
  refine Ev.step (fun k => impl_version.l0.eq_2 ..) (evn (by omega) (evs ?_))
  rw [show i = c.length by omega]
 | succ d ih =>
  intro i hi
  have hlen := versV_len c s y i
  have h := ih (i + 1) (by omega)
  rw [versV_succ] at h
  refine Ev.step (fun k => impl_version.l0.eq_2 ..) (evp (by omega) (evp (by omega) (evp (by omega) ?_)))
  rw [rdL_nat', w64s i (by omega)]
  refine evb (iAt _ s hs (hb i (by omega))) (evb (sEqual _ y (by rw [atV_len]; exact hs)) ?_)
  by_cases e : vers1 c s y i = true
  ·
   rw [if_pos e] at h
   exact evp e (evp (by omega) h)
  ·
   rw [if_neg e] at h
   exact evn e h
theorem iVersion (c : List (List Int)) (s y : List Int) (hc : c.length ≤ 1048576) (hs : s.length ≤ 1048576) (hb : ∀ i, i < c.length → ∀ x ∈ s, 0 ≤ x ∧ x < (rdl c i).length) : Ev (fun k => impl_version.f k c s y) (versV c s y c.length) := by
 unfold impl_version.f
 exact iVersion_l0 c s y hc hs hb c.length 0 (by omega)
def csetB (c : List (List Int)) (s : List Int) : Bool := classB c && setB (rdl c 0).length s
theorem l7Set (c : List (List Int)) (s : List Int) (hx : c.length ≤ 1048576) (hr : ∀ r ∈ c, (r.length : Int) ≤ 1048576) (hs : s.length ≤ 1048576) : Ev (fun k => spec_l7Set.f k c s) (csetB c s) := by
 unfold spec_l7Set.f csetB setB
 refine evb (l7Class c hx hr) ?_
 by_cases e : classB c = true
 ·
  have h := classB_at e
  have := h.2 0 (by omega)
  refine evp e (evp (by omega) ?_)
  rw [show rd_L2 c 0 = rdl c 0 from rdL_nat' c 0, w64 (by omega) (by omega), e, Bool.true_and]
  exact evb (l1Rising s _ _ (by omega)) (evs rfl)
 ·
  exact evn e (evs (by rw [Bool.eq_false_iff.2 e]; rfl))
theorem isClassSet (c : List (List Int)) (s : List Int) (hx : c.length ≤ 1048576) (hr : ∀ r ∈ c, (r.length : Int) ≤ 1048576) (hs : s.length ≤ 1048576) : Ev (fun k => impl_isClassSet.f k c s) (csetB c s) := by
 unfold impl_isClassSet.f csetB
 refine evb (iIsClass c hx hr) ?_
 by_cases e : classB c = true
 ·
  have h := classB_at e
  have := h.2 0 (by omega)
  refine evp e (evp (by omega) ?_)
  rw [show rd_L2 c 0 = rdl c 0 from rdL_nat' c 0, e, Bool.true_and]
  exact evb (isSet s _ (by omega) (by omega)) (evs rfl)
 ·
  exact evn e (evs (by rw [Bool.eq_false_iff.2 e]; rfl))
def versionV (c : List (List Int)) (s y : List Int) : List Int × Bool := if csetB c s = true ∧ y.length = s.length ∧ labB y = true then (versV c s y c.length, true) else ([], false)
theorem versionV_len (c : List (List Int)) (s y : List Int) : (versionV c s y).1.length ≤ 256 := by
 unfold versionV
 split
 ·
  rename_i e
  have h := e.1
  unfold csetB at h
  rw [Bool.and_eq_true] at h
  have := (classB_at h.1).1
  have := versV_len c s y c.length
  simp only; omega
 ·
  simp
theorem csetB_in {c : List (List Int)} {s : List Int} (h : csetB c s = true) : c.length ≤ 256 ∧ ∀ i, i < c.length → ∀ x ∈ s, 0 ≤ x ∧ x < (rdl c i).length := by
 unfold csetB at h
 rw [Bool.and_eq_true] at h
 have h1 := classB_at h.1
 refine ⟨h1.1.2, fun i hi x hx => ?_⟩
 have := setB_in h.2 x hx
 rw [(h1.2 i hi).1]; exact this
theorem sVersion (c : List (List Int)) (s y : List Int) (hx : c.length ≤ 1048576) (hr : ∀ r ∈ c, (r.length : Int) ≤ 1048576) (hs : s.length ≤ 1048576) (hy : y.length ≤ 1048576) : Ev (fun k => spec_VersionOf.f k c s y) (versionV c s y) := by
 unfold spec_VersionOf.f versionV
 refine evb (l7Set c s hx hr hs) ?_
 by_cases e : csetB c s = true
 ·
  refine evp e ?_
  by_cases e2 : y.length = s.length
  ·
   refine evp (by omega) (evb (l2Labels y (by omega)) ?_)
   by_cases e3 : labB y = true
   ·
    exact evp e3 (evb (l7Version c s y hx hs (csetB_in e).2) (evs (by rw [if_pos ⟨e, e2, e3⟩])))
   ·
    exact evn e3 (evs (by rw [if_neg (fun h => e3 h.2.2)]))
  ·
   exact evn (by omega) (evs (by rw [if_neg (fun h => e2 h.2.1)]))
 ·
  exact evn e (evs (by rw [if_neg (fun h => e h.1)]))
theorem iVersionOf (c : List (List Int)) (s y : List Int) (hx : c.length ≤ 1048576) (hr : ∀ r ∈ c, (r.length : Int) ≤ 1048576) (hs : s.length ≤ 1048576) (hy : y.length ≤ 1048576) : Ev (fun k => impl_VersionOf.f k c s y) (versionV c s y) := by
 unfold impl_VersionOf.f versionV
 refine evb (isClassSet c s hx hr hs) ?_
 by_cases e : csetB c s = true
 ·
  refine evp e ?_
  by_cases e2 : y.length = s.length
  ·
   refine evp (by omega) (evb (areLabels y (by omega)) ?_)
   by_cases e3 : labB y = true
   ·
    exact evp e3 (evb (iVersion c s y hx hs (csetB_in e).2) (evs (by rw [if_pos ⟨e, e2, e3⟩])))
   ·
    exact evn e3 (evs (by rw [if_neg (fun h => e3 h.2.2)]))
  ·
   exact evn (by omega) (evs (by rw [if_neg (fun h => e2 h.2.1)]))
 ·
  exact evn e (evs (by rw [if_neg (fun h => e h.1)]))
def csetd (m c : Nat) : Nat → List Int
 | 0 => []
 | d + 1 => if bit c d = 0 then ((m - 1 - d : Nat) : Int) :: csetd m c d else csetd m c d
theorem csetd_len (m c : Nat) : ∀ d, (csetd m c d).length ≤ d := by
 intro d
 induction d with
 | zero => simp [csetd]
 | succ d ih =>
  simp only [csetd]
  split
  ·
   rw [List.length_cons]; omega
  ·
   omega
def allS (m : Nat) : Nat → List (List Int)
 | 0 => [[]]
 | d + 1 => (allS m d).map (fun s => ((m - 1 - d : Nat) : Int) :: s) ++ allS m d
theorem bit_low (c d j : Nat) (h : j < d) : bit (2 ^ d + c) j = bit c j := by
 unfold bit
 have e : 2 ^ d = 2 ^ j * (2 * 2 ^ (d - j - 1)) := by
  rw [← Nat.pow_succ', ← Nat.pow_add]; congr 1; omega
 rw [e, Nat.mul_add_div (Nat.pow_pos (by decide))]
 omega
theorem csetd_low (m c d : Nat) : ∀ e, e ≤ d → csetd m (2 ^ d + c) e = csetd m c e := by
 intro e
 induction e with
 | zero => intro _; rfl
 | succ e ih =>
  intro h
  simp only [csetd]
  rw [bit_low c d e (by omega), ih (by omega)]
theorem codes_all (m : Nat) : ∀ d, (List.range (2 ^ d)).map (fun c => csetd m c d) = allS m d := by
 intro d
 induction d with
 | zero => simp [csetd, allS]
 | succ d ih =>
  rw [show 2 ^ (d + 1) = 2 ^ d + 2 ^ d by rw [Nat.pow_succ]; omega, List.range_add, List.map_append, List.map_map]
  simp only [allS]
  rw [← ih, List.map_map]
  congr 1
  ·
   refine List.map_congr_left fun c hc => ?_
   have hc := List.mem_range.1 hc
   simp only [csetd, Function.comp]
   rw [if_pos (by unfold bit; rw [Nat.div_eq_of_lt hc])]
  ·
   refine List.map_congr_left fun c hc => ?_
   have hc := List.mem_range.1 hc
   simp only [csetd, Function.comp]
   rw [if_neg, csetd_low m c d d (Nat.le_refl _)]
   unfold bit
   rw [show 2 ^ d + c = 2 ^ d * 1 + c by omega, Nat.mul_add_div (Nat.pow_pos (by decide)), Nat.div_eq_of_lt hc]
   decide
theorem all_cmbs (m : Nat) : ∀ d, d ≤ m → ∀ r, (allS m d).filter (fun s => decide (s.length = r)) = cmbs m r (m - d) := by
 intro d
 induction d with
 | zero =>
  intro _ r
  cases r with
  | zero => rfl
  | succ r => rw [cmbs_end m r (m - 0) (by omega)]; rfl
 | succ d ih =>
  intro h r
  simp only [allS]
  rw [List.filter_append, List.filter_map, ih (by omega)]
  cases r with
  | zero =>
   have e : (allS m d).filter ((fun s : List Int => decide (s.length = 0)) ∘ fun s => ((m - 1 - d : Nat) : Int) :: s) = [] := by
    rw [List.filter_eq_nil_iff]; intro s _; simp
   rw [e]; rfl
  | succ r =>
   have e : (allS m d).filter ((fun s : List Int => decide (s.length = r + 1)) ∘ fun s => ((m - 1 - d : Nat) : Int) :: s) = (allS m d).filter (fun s => decide (s.length = r)) := by
    congr 1; funext s; simp
   rw [e, ih (by omega), cmbs_step m r (m - (d + 1)) (by omega), show m - (d + 1) + 1 = m - d by omega, show m - 1 - d = m - (d + 1) by omega]
theorem codes_cmbs (m r : Nat) : ((List.range (2 ^ m)).map (fun c => csetd m c m)).filter (fun s => decide (s.length = r)) = cmbs m r 0 := by
 rw [codes_all, all_cmbs m m (Nat.le_refl _), Nat.sub_self]
theorem l7Sets_l2 (m c r : Nat) (hm : m ≤ 8) (hc : c < 2 ^ m) (x3 : List (List Int)) (hx : x3.length ≤ 1000000) (R : List (List Int)) (h1 : (csetd m c m).length = r → Ev (fun k => spec_l7Sets.l1 k (m : Int) (x3 ++ [csetd m c m]) (r : Int) ((c + 1 : Nat) : Int)) R)
  (h2 : (csetd m c m).length ≠ r → Ev (fun k => spec_l7Sets.l1 k (m : Int) x3 (r : Int) ((c + 1 : Nat) : Int)) R) :
  ∀ (d : Nat) (out : List Int), d ≤ m → out.length ≤ 100 → out ++ csetd m c d = csetd m c m → Ev (fun k => spec_l7Sets.l2 k (m : Int) x3 (r : Int) (c : Int) out ((m - d : Nat) : Int)) R := by
 have h256 : (2 : Nat) ^ m ≤ 2 ^ 8 := Nat.pow_le_pow_right (by decide) hm
 intro d
 induction d with
 | zero =>
  intro out _ _ e
  rw [show csetd m c 0 = [] from rfl, List.append_nil] at e
  subst e
  refine Ev.step (fun k => spec_l7Sets.l2.eq_2 ..) (evn (by omega) ?_)
  rw [w64s c (by omega)]
  by_cases g : (csetd m c m).length = r
  ·
   exact evp (by omega) (evp (by omega) (h1 g))
  ·
   exact evn (by omega) (h2 g)
 | succ d ih =>
  intro out hd ho e
  have hlen := csetd_len m c m
  have hlen2 : out.length + (csetd m c (d + 1)).length ≤ 8 := by rw [← List.length_append, e]; omega
  refine Ev.step (fun k => spec_l7Sets.l2.eq_2 ..) (evp (by omega) ?_)
  rw [show wrap64 (wrap64 ((m : Int) - 1) - ((m - (d + 1) : Nat) : Int)) = (d : Int) by unfold wrap64; omega, digit c d (by omega) (by omega), w64s _ (by omega), show m - (d + 1) + 1 = m - d by omega]
  refine evp (by omega) ?_
  simp only [csetd] at e hlen2
  by_cases g : bit c d = 0
  ·
   rw [if_pos g] at e
   refine evp (by omega) (evp (by omega) (ih _ (by omega) (by simp; omega) ?_))
   rw [← e, show m - (d + 1) = m - 1 - d by omega]; simp
  ·
   rw [if_neg g] at e
   exact evn (by omega) (ih _ (by omega) ho e)
theorem l7Sets_l1 (m r : Nat) (hm : m ≤ 8) (R : List (List Int)) : ∀ (e c : Nat) (x3 : List (List Int)), c + e = 2 ^ m → x3.length + e ≤ 1000000 →
  Ev (fun k => spec_l7Sets.l0 k (m : Int) (x3 ++ ((List.range' c e).map (fun c => csetd m c m)).filter (fun s => decide (s.length = r))) ((r + 1 : Nat) : Int)) R → r ≤ 8 → Ev (fun k => spec_l7Sets.l1 k (m : Int) x3 (r : Int) (c : Int)) R := by
 have h256 : (2 : Nat) ^ m ≤ 2 ^ 8 := Nat.pow_le_pow_right (by decide) hm
 intro e
 induction e with
 | zero =>
  intro c x3 hc hx h hr
  refine Ev.step (fun k => spec_l7Sets.l1.eq_2 ..) (evp (by omega) ?_)
  rw [shl1 m (by omega), w64s r (by omega)]
  refine evn (by omega) ?_
  simpa using h
 | succ e ih =>
  intro c x3 hc hx h hr
  refine Ev.step (fun k => spec_l7Sets.l1.eq_2 ..) (evp (by omega) ?_)
  rw [shl1 m (by omega)]
  refine evp (by omega) ?_
  rw [List.range'_succ, List.map_cons, List.filter_cons] at h
  refine evr (l7Sets_l2 m c r hm (by omega) x3 (by omega) R (fun g => ?_) (fun g => ?_) m [] (Nat.le_refl _) (by simp) rfl |> fun z => by rw [Nat.sub_self] at z; exact z) rfl
  ·
   rw [if_pos (decide_eq_true g)] at h
   refine ih (c + 1) _ (by omega) (by simp; omega) ?_ hr
   rw [List.append_assoc]; exact h
  ·
   rw [if_neg (by simpa using g)] at h
   exact ih (c + 1) _ (by omega) (by omega) h hr
theorem cmbs_count (m r : Nat) : (cmbs m r 0).length ≤ 2 ^ m := by
 rw [← codes_cmbs]
 exact Nat.le_trans (List.length_filter_le _ _) (by simp)
theorem l7Sets_l0 (m : Nat) (hm : m ≤ 8) : ∀ (f r : Nat) (x3 : List (List Int)), r + f = m + 1 → x3.length + f * 256 ≤ 100000 →
  Ev (fun k => spec_l7Sets.l0 k (m : Int) x3 (r : Int)) (x3 ++ (List.range' r f).flatMap fun r => cmbs m r 0) := by
 have h256 : (2 : Nat) ^ m ≤ 2 ^ 8 := Nat.pow_le_pow_right (by decide) hm
 intro f
 induction f with
 | zero =>
  intro r x3 hr hx
  refine Ev.step (fun k => spec_l7Sets.l0.eq_2 ..) (evn (by omega) (evs ?_))
  simp
 | succ f ih =>
  intro r x3 hr hx
  refine Ev.step (fun k => spec_l7Sets.l0.eq_2 ..) (evp (by omega) ?_)
  have hc := cmbs_count m r
  refine l7Sets_l1 m r hm _ (2 ^ m) 0 x3 (by omega) (by omega) ?_ (by omega)
  rw [← List.range_eq_range', codes_cmbs]
  refine evr (ih (r + 1) _ (by omega) (by simp; omega)) ?_
  rw [List.range'_succ, List.flatMap_cons, List.append_assoc]
theorem l7Sets (m : Nat) (hm : m ≤ 8) : Ev (fun k => spec_l7Sets.f k (m : Int)) (impl_teaching.sets m) := by
 unfold spec_l7Sets.f
 refine evr (l7Sets_l0 m hm (m + 1) 0 [] (by omega) (by simp; omega)) ?_
 rw [List.nil_append, ← List.range_eq_range']; rfl
def tver (c : List (List Int)) (i : Nat) (s : List Int) : List Int := versV c s (atV (rdl c i) s) c.length
def tok (c : List (List Int)) (i : Nat) (s : List Int) : Bool := decide ((tver c i s).length = 1)
theorem lex_trans : ∀ a b c : List Int, lexB a b = true → lexB b c = true → lexB a c = true := by
 intro a
 induction a with
 | nil => intro b c h; cases b <;> simp [lexB] at h
 | cons x a ih =>
  intro b c h1 h2
  cases b with
  | nil => simp [lexB] at h1
  | cons y b =>
   cases c with
   | nil => simp [lexB] at h2
   | cons z c =>
    simp only [lexB] at h1 h2 ⊢
    by_cases e1 : x = y
    ·
     rw [if_pos e1] at h1
     by_cases e2 : y = z
     ·
      rw [if_pos e2] at h2
      rw [if_pos (by omega)]; exact ih b c h1 h2
     ·
      rw [if_neg e2] at h2
      have := of_decide_eq_true h2
      rw [if_neg (by omega)]; exact decide_eq_true (by omega)
    ·
     rw [if_neg e1] at h1
     have h3 := of_decide_eq_true h1
     by_cases e2 : y = z
     ·
      rw [if_neg (by omega)]; exact decide_eq_true (by omega)
     ·
      rw [if_neg e2] at h2
      have := of_decide_eq_true h2
      rw [if_neg (by omega)]; exact decide_eq_true (by omega)
theorem lex_irr : ∀ a : List Int, lexB a a = false := by
 intro a
 induction a with
 | nil => rfl
 | cons x a ih => simp [lexB, ih]
theorem classB_rise {c : List (List Int)} (h : classB c = true) : ∀ d i, i + d + 1 < c.length → lexB (rdl c i) (rdl c (i + d + 1)) = true := by
 unfold classB at h
 simp only [Bool.and_eq_true, List.all_eq_true, List.mem_range] at h
 have h1 : ∀ j, j + 1 < c.length → lexB (rdl c j) (rdl c (j + 1)) = true := fun j hj => by
  have h2 := h.2 (j + 1) hj
  unfold rowok at h2
  simp only [Bool.and_eq_true, Bool.or_eq_true, decide_eq_true_eq] at h2
  rcases h2.2.2.2 with h3 | h3
  ·
   omega
  ·
   exact h3
 intro d
 induction d with
 | zero => intro i hi; exact h1 i (by omega)
 | succ d ih => intro i hi; exact lex_trans _ _ _ (ih i (by omega)) (h1 (i + d + 1) (by omega))
theorem classB_inj {c : List (List Int)} (h : classB c = true) {i j : Nat} (hi : i < c.length) (hj : j < c.length) (e : rdl c i = rdl c j) : i = j := by
 rcases Nat.lt_trichotomy i j with g | g | g
 ·
  have := classB_rise h (j - i - 1) i (by omega)
  rw [show i + (j - i - 1) + 1 = j by omega, e, lex_irr] at this
  cases this
 ·
  exact g
 ·
  have := classB_rise h (i - j - 1) j (by omega)
  rw [show j + (i - j - 1) + 1 = i by omega, e, lex_irr] at this
  cases this
theorem cmbs_in (n : Nat) : ∀ r i, ∀ s ∈ cmbs n r i, ∀ x ∈ s, 0 ≤ x ∧ x < n := by
 intro r
 induction r with
 | zero => intro i s hs x hx; simp [cmbs] at hs; subst hs; simp at hx
 | succ r ih =>
  intro i s hs x hx
  simp only [cmbs, List.mem_flatMap, List.mem_map, List.mem_range'_1] at hs
  obtain ⟨j, hj, d, hd, rfl⟩ := hs
  rcases List.mem_cons.1 hx with rfl | hx
  ·
   omega
  ·
   exact ih _ d hd x hx
theorem sets_in {m : Nat} {s : List Int} (h : s ∈ impl_teaching.sets m) : s.length ≤ m ∧ ∀ x ∈ s, 0 ≤ x ∧ x < m := by
 obtain ⟨r, hr, hs⟩ := List.mem_flatMap.1 h
 have h1 := cmbs_len m r 0 s hs
 have := List.mem_range.1 hr
 exact ⟨by omega, cmbs_in m r 0 s hs⟩
theorem cmbs_full (n : Nat) : ∀ d, d ≤ n → ((List.range' (n - d) d).map fun j : Nat => (j : Int)) ∈ cmbs n d (n - d) := by
 intro d
 induction d with
 | zero => intro _; simp [cmbs]
 | succ d ih =>
  intro h
  rw [cmbs_step n d (n - (d + 1)) (by omega), List.range'_succ, List.map_cons, show n - (d + 1) + 1 = n - d by omega]
  exact List.mem_append_left _ (List.mem_map.2 ⟨_, ih (by omega), rfl⟩)
theorem atV_full (h : List Int) : atV h ((List.range' 0 h.length).map fun j : Nat => (j : Int)) = h := by
 unfold atV
 rw [List.map_map]
 apply List.ext_getElem
 ·
  simp
 ·
  intro j h1 h2
  simp [List.getD_eq_getElem?_getD, List.getElem?_eq_getElem h2]
theorem ver_mem (c : List (List Int)) (i : Nat) (s : List Int) (hi : i < c.length) : (i : Int) ∈ tver c i s := by
 unfold tver versV
 exact List.mem_map.2 ⟨i, List.mem_filter.2 ⟨List.mem_range.2 hi, by simp [vers1]⟩, rfl⟩
theorem ver_pos (c : List (List Int)) (i : Nat) (s : List Int) (hi : i < c.length) : 1 ≤ (tver c i s).length := List.length_pos_of_mem (ver_mem c i s hi)
theorem full_ok {c : List (List Int)} (h : classB c = true) (i : Nat) (hi : i < c.length) : ∃ s ∈ impl_teaching.sets (rdl c 0).length, tok c i s = true := by
 have h1 := classB_at h
 refine ⟨(List.range' 0 (rdl c 0).length).map fun j : Nat => (j : Int), List.mem_flatMap.2 ⟨(rdl c 0).length, List.mem_range.2 (by omega), by simpa using cmbs_full (rdl c 0).length (rdl c 0).length (Nat.le_refl _)⟩, ?_⟩
 have e : ∀ j, j < c.length → atV (rdl c j) ((List.range' 0 (rdl c 0).length).map fun j : Nat => (j : Int)) = rdl c j := fun j hj => by
  rw [← (h1.2 j hj).1]; exact atV_full _
 unfold tok tver versV
 rw [List.length_map, e i hi]
 have e2 : (List.range c.length).filter (vers1 c ((List.range' 0 (rdl c 0).length).map fun j : Nat => (j : Int)) (rdl c i)) = (List.range c.length).filter (fun j => j == i) := by
  refine List.filter_congr fun j hj => ?_
  have hj := List.mem_range.1 hj
  unfold vers1
  rw [e j hj]
  by_cases g : j = i
  ·
   subst g; simp
  ·
   rw [decide_eq_false (fun e3 => g (classB_inj h hj hi e3))]
   exact (beq_eq_false_iff_ne.2 g).symm
 rw [e2, ← List.countP_eq_length_filter]
 have h3 : (List.range c.length).countP (fun j => j == i) = 1 := by
  show (List.range c.length).count i = 1
  rw [List.count_range, if_pos hi]
 rw [h3]; rfl
def teachV (c : List (List Int)) (i : Nat) : List Int := ((impl_teaching.sets (rdl c 0).length).find? (tok c i)).getD []
theorem teach_in {c : List (List Int)} (h : classB c = true) (i : Nat) (hi : i < c.length) : teachV c i ∈ impl_teaching.sets (rdl c 0).length := by
 obtain ⟨s, hs, ht⟩ := full_ok h i hi
 unfold teachV
 cases e : (impl_teaching.sets (rdl c 0).length).find? (tok c i) with
 | none => exact absurd (List.find?_eq_none.1 e s hs) (by simp [ht])
 | some z => exact List.mem_of_find?_eq_some e
theorem teach_len {c : List (List Int)} (h : classB c = true) (i : Nat) (hi : i < c.length) : (teachV c i).length ≤ 8 := by
 have h1 := sets_in (teach_in h i hi)
 have h2 := (classB_at h).2 0 (by omega)
 omega
theorem l7Teach_l0 {c : List (List Int)} (hB : classB c = true) (i : Nat) (hi : i < c.length) : ∀ (L P : List (List Int)), impl_teaching.sets (rdl c 0).length = P ++ L → L.any (tok c i) = true → (impl_teaching.sets (rdl c 0).length).length ≤ 100000 →
  Ev (fun k => spec_l7Teach.l0 k c (i : Int) (impl_teaching.sets (rdl c 0).length) (P.length : Int)) ((L.find? (tok c i)).getD []) := by
 have h1 := classB_at hB
 intro L
 induction L with
 | nil => intro P _ h; simp at h
 | cons s L ih =>
  intro P e h hl
  have hle : P.length + (L.length + 1) ≤ 100000 := by rw [e] at hl; simpa using hl
  have hlen : (impl_teaching.sets (rdl c 0).length).length = P.length + (L.length + 1) := by rw [e]; simp
  have hs := sets_in (show s ∈ impl_teaching.sets (rdl c 0).length by rw [e]; simp)
  have hrd : rdl (impl_teaching.sets (rdl c 0).length) P.length = s := by rw [e]; simp [rdl]
  have hin : ∀ j, j < c.length → ∀ x ∈ s, 0 ≤ x ∧ x < (rdl c j).length := fun j hj x hx => by rw [(h1.2 j hj).1]; exact hs.2 x hx
  have hm := (h1.2 0 (by omega)).2
  refine Ev.step (fun k => spec_l7Teach.l0.eq_2 ..) (evp (by omega) (evp (by omega) (evp (by omega) (evp (by omega) ?_))))
  rw [rdL_nat', rdL_nat', hrd, w64s _ (by omega)]
  refine evb (l7At _ s (by omega) (hin i hi)) (evb (l7Version c s _ (by omega) (by omega) hin) ?_)
  have hp := ver_pos c i s hi
  have hx : versV c s (atV (rdl c i) s) c.length = tver c i s := rfl
  rw [hx]
  by_cases g : (tver c i s).length = 1
  ·
   have gt : tok c i s = true := decide_eq_true g
   refine evn (by omega) (evs ?_)
   rw [List.find?_cons_of_pos (by exact gt)]; rfl
  ·
   have gf : tok c i s = false := decide_eq_false g
   refine evp (by omega) ?_
   rw [List.find?_cons_of_neg (by rw [gf]; decide)]
   have h2 := ih (P ++ [s]) (by rw [e]; simp) (by simpa [gf] using h) hl
   rw [List.length_append] at h2
   exact h2
theorem sets_count (m : Nat) (hm : m ≤ 8) : (impl_teaching.sets m).length ≤ 100000 := by
 have h256 : (2 : Nat) ^ m ≤ 2 ^ 8 := Nat.pow_le_pow_right (by decide) hm
 have : ∀ n, n ≤ 9 → ((List.range n).flatMap fun r => cmbs m r 0).length ≤ n * 256 := by
  intro n
  induction n with
  | zero => intro _; simp
  | succ n ih =>
   intro hn
   have h1 := ih (by omega)
   have h2 := cmbs_count m n
   rw [List.range_succ, List.flatMap_append, List.length_append]
   simp only [List.flatMap_cons, List.flatMap_nil, List.append_nil]
   omega
 have := this (m + 1) (by omega)
 unfold impl_teaching.sets
 omega
theorem l7Teach {c : List (List Int)} (hB : classB c = true) (i : Nat) (hi : i < c.length) : Ev (fun k => spec_l7Teach.f k c (i : Int)) (teachV c i) := by
 have h1 := classB_at hB
 have hm := (h1.2 0 (by omega)).2
 unfold spec_l7Teach.f
 refine evp (by omega) ?_
 rw [show rd_L2 c 0 = rdl c 0 from rdL_nat' c 0]
 refine evb (l7Sets _ hm) ?_
 obtain ⟨s, hs, ht⟩ := full_ok hB i hi
 exact l7Teach_l0 hB i hi (impl_teaching.sets (rdl c 0).length) [] rfl (List.any_eq_true.2 ⟨s, hs, ht⟩) (sets_count _ hm)
theorem iCopied (l : List Int) (h : l.length ≤ 1048576) : impl_copied.f l = some l := by
 unfold impl_copied.f
 simp only [Option.bind_some, List.nil_append, List.length_nil]
 rw [if_pos (by omega)]
theorem iOne {c : List (List Int)} (hB : classB c = true) (i : Nat) (hi : i < c.length) (s : List Int) (hs : s ∈ impl_teaching.sets (rdl c 0).length) : Ev (fun k => impl_teaching.one k c (i : Int) s) (s, tver c i s) := by
 have h1 := classB_at hB
 have h2 := sets_in hs
 have hm := (h1.2 0 (by omega)).2
 have hin : ∀ j, j < c.length → ∀ x ∈ s, 0 ≤ x ∧ x < (rdl c j).length := fun j hj x hx => by rw [(h1.2 j hj).1]; exact h2.2 x hx
 unfold impl_teaching.one
 rw [rdL_nat']
 refine evb (evc (iCopied s (by omega))) (evb (iAt _ s (by omega) (hin i hi)) (evb (iVersion c s _ (by omega) (by omega) hin) (evs rfl)))
theorem ev_all {α β : Type} (f : Nat → α → Option β) (g : α → β) : ∀ L : List α, (∀ s ∈ L, Ev (fun k => f k s) (g s)) → ∃ K, ∀ k, K ≤ k → ∀ s ∈ L, f k s = some (g s) := by
 intro L
 induction L with
 | nil => intro _; exact ⟨0, fun _ _ s hs => by simp at hs⟩
 | cons x L ih =>
  intro h
  obtain ⟨K1, h1⟩ := ih fun s hs => h s (by simp [hs])
  obtain ⟨K2, h2⟩ := h x (by simp)
  refine ⟨max K1 K2, fun k hk s hs => ?_⟩
  rcases List.mem_cons.1 hs with rfl | hs
  ·
   exact h2 k (by omega)
  ·
   exact h1 k (by omega) s hs
theorem upto_find (p : List Int → Bool) : ∀ L : List (List Int), L.any p = true → (uptoT p L).getLast? = L.find? p := by
 intro L
 induction L with
 | nil => intro h; simp at h
 | cons x L ih =>
  intro h
  simp only [uptoT]
  by_cases g : p x = true
  ·
   rw [if_pos g, List.find?_cons_of_pos (by exact g)]; rfl
  ·
   rw [if_neg g, List.find?_cons_of_neg (by exact g), ← ih (by simpa [g] using h)]
   have : uptoT p L ≠ [] := by
    intro e
    have h2 := ih (by simpa [g] using h)
    rw [e] at h2
    have h3 : L.any p = true := by simpa [g] using h
    obtain ⟨y, hy, hp⟩ := List.any_eq_true.1 h3
    exact absurd (List.find?_eq_none.1 h2.symm y hy) (by simp [hp])
   rw [List.getLast?_cons, List.getLast?_eq_some_getLast this]; rfl
theorem iTeach {c : List (List Int)} (hB : classB c = true) (i : Nat) (hi : i < c.length) : Ev (fun k => impl_teaching.f k c (i : Int)) (teachV c i) := by
 have h1 := classB_at hB
 have hm := (h1.2 0 (by omega)).2
 obtain ⟨K, hK⟩ := ev_all (fun k s => impl_teaching.one k c (i : Int) s) (fun s => (s, tver c i s)) (impl_teaching.sets (rdl c 0).length) fun s hs => iOne hB i hi s hs
 refine ⟨K, fun k hk => ?_⟩
 have hk := hK k hk
 unfold impl_teaching.f
 dsimp only
 rw [show rd_L2 c 0 = rdl c 0 from rdL_nat' c 0, if_pos ⟨by omega, by omega, by omega, fun s hs => by rw [hk s hs]; rfl⟩]
 have e1 : uptoT (impl_teaching.p k c (i : Int)) (impl_teaching.sets (rdl c 0).length) = uptoT (tok c i) (impl_teaching.sets (rdl c 0).length) := uptoT_congr _ _ _ fun s hs => by
  unfold impl_teaching.p tok
  rw [hk s hs]
  simp only [Option.map_some, Option.getD_some]
  by_cases g : (tver c i s).length = 1
  ·
   rw [g]; rfl
  ·
   rw [decide_eq_false g, beq_eq_false_iff_ne]; omega
 rw [e1]
 obtain ⟨s, hs, ht⟩ := full_ok hB i hi
 unfold impl_teaching.out
 rw [upto_find _ _ (List.any_eq_true.2 ⟨s, hs, ht⟩)]
 unfold teachV
 cases e : (impl_teaching.sets (rdl c 0).length).find? (tok c i) with
 | none => rfl
 | some z => rw [Option.bind_some, hk z (List.mem_of_find?_eq_some e)]; rfl
def teachSet (c : List (List Int)) (i : Int) : List Int × Bool := if classB c = true ∧ 0 ≤ i ∧ i < c.length then (teachV c i.toNat, true) else ([], false)
theorem teachSet_len (c : List (List Int)) (i : Int) : (teachSet c i).1.length ≤ 8 := by
 unfold teachSet
 split
 ·
  rename_i e; exact teach_len e.1 _ (by omega)
 ·
  simp
theorem sTeachSet (c : List (List Int)) (i : Int) (hx : c.length ≤ 1048576) (hr : ∀ r ∈ c, (r.length : Int) ≤ 1048576) : Ev (fun k => spec_TeachingSet.f k c i) (teachSet c i) := by
 unfold spec_TeachingSet.f teachSet
 refine evb (l7Class c hx hr) ?_
 by_cases e : classB c = true
 ·
  refine evp e ?_
  have h1 := classB_at e
  rw [w64 (x := (c.length : Int) - 1) (by omega) (by omega)]
  refine evb (evc (l1In i 0 _)) ?_
  by_cases g : 0 ≤ i ∧ i < c.length
  ·
   obtain ⟨n, rfl⟩ := Int.eq_ofNat_of_zero_le g.1
   refine evp (by rw [decide_eq_true_eq]; omega) (evb (l7Teach e n (by omega)) (evs ?_))
   rw [if_pos ⟨e, by omega, by omega⟩]; rfl
  ·
   refine evn (by rw [decide_eq_true_eq]; omega) (evs ?_)
   rw [if_neg (fun h => g h.2)]
 ·
  exact evn e (evs (by rw [if_neg (fun h => e h.1)]))
theorem iTeachSet (c : List (List Int)) (i : Int) (hx : c.length ≤ 1048576) (hr : ∀ r ∈ c, (r.length : Int) ≤ 1048576) : Ev (fun k => impl_TeachingSet.f k c i) (teachSet c i) := by
 unfold impl_TeachingSet.f teachSet
 refine evb (iIsClass c hx hr) ?_
 by_cases e : classB c = true
 ·
  refine evp e ?_
  have h1 := classB_at e
  rw [w64 (x := (c.length : Int) - 1) (by omega) (by omega)]
  refine evb (evc (within i 0 _)) ?_
  by_cases g : 0 ≤ i ∧ i < c.length
  ·
   obtain ⟨n, rfl⟩ := Int.eq_ofNat_of_zero_le g.1
   refine evp (by rw [decide_eq_true_eq]; omega) (evb (iTeach e n (by omega)) (evs ?_))
   rw [if_pos ⟨e, by omega, by omega⟩]; rfl
  ·
   refine evn (by rw [decide_eq_true_eq]; omega) (evs ?_)
   rw [if_neg (fun h => g h.2)]
 ·
  exact evn e (evs (by rw [if_neg (fun h => e h.1)]))
def teachN (c : List (List Int)) : Nat → Int
 | 0 => 0
 | i + 1 => if teachN c i > ((teachV c i).length : Int) then teachN c i else ((teachV c i).length : Int)
def teachNum (c : List (List Int)) : Int × Bool := if classB c = true then (teachN c c.length, true) else (0, false)
theorem sTeachNum_l0 {c : List (List Int)} (hB : classB c = true) : ∀ (d i : Nat), i + d = c.length → Ev (fun k => spec_TeachingNumber.l0 k c (teachN c i) (i : Int)) (teachN c c.length, true) := by
 have h1 := classB_at hB
 intro d
 induction d with
 | zero =>
  intro i hi
  refine Ev.step (fun k => spec_TeachingNumber.l0.eq_2 ..) (evn (by omega) (evs ?_))
  rw [show i = c.length by omega]
 | succ d ih =>
  intro i hi
  refine Ev.step (fun k => spec_TeachingNumber.l0.eq_2 ..) (evp (by omega) (evb (l7Teach hB i (by omega)) ?_))
  rw [w64s i (by omega)]
  have h2 := ih (i + 1) (by omega)
  simp only [teachN] at h2
  refine evb (evc (show spec_l1Most.f _ _ = some (if teachN c i > ((teachV c i).length : Int) then teachN c i else ((teachV c i).length : Int)) from ?_)) h2
  unfold spec_l1Most.f
  split <;> rfl
theorem sTeachNum (c : List (List Int)) (hx : c.length ≤ 1048576) (hr : ∀ r ∈ c, (r.length : Int) ≤ 1048576) : Ev (fun k => spec_TeachingNumber.f k c) (teachNum c) := by
 unfold spec_TeachingNumber.f teachNum
 refine evb (l7Class c hx hr) ?_
 by_cases e : classB c = true
 ·
  rw [if_pos e]; exact evp e (sTeachNum_l0 e c.length 0 (by omega))
 ·
  rw [if_neg e]; exact evn e (evs rfl)
theorem iTeachNum_l0 {c : List (List Int)} (hB : classB c = true) : ∀ (d i : Nat), i + d = c.length → Ev (fun k => impl_TeachingNumber.l0 k c (teachN c i) (c.length : Int) (i : Int)) (teachN c c.length, true) := by
 have h1 := classB_at hB
 intro d
 induction d with
 | zero =>
  intro i hi
  refine Ev.step (fun k => impl_TeachingNumber.l0.eq_2 ..) (evn (by omega) (evs ?_))
  rw [show i = c.length by omega]
 | succ d ih =>
  intro i hi
  refine Ev.step (fun k => impl_TeachingNumber.l0.eq_2 ..) (evp (by omega) (evb (iTeach hB i (by omega)) ?_))
  rw [w64s i (by omega)]
  have h2 := ih (i + 1) (by omega)
  simp only [teachN] at h2
  rw [show mx (teachN c i) ((teachV c i).length : Int) = (if teachN c i > ((teachV c i).length : Int) then teachN c i else ((teachV c i).length : Int)) by unfold mx; split <;> split <;> omega]
  exact h2
theorem iTeachNum (c : List (List Int)) (hx : c.length ≤ 1048576) (hr : ∀ r ∈ c, (r.length : Int) ≤ 1048576) : Ev (fun k => impl_TeachingNumber.f k c) (teachNum c) := by
 unfold impl_TeachingNumber.f teachNum
 refine evb (iIsClass c hx hr) ?_
 by_cases e : classB c = true
 ·
  rw [if_pos e]; exact evp e (iTeachNum_l0 e c.length 0 (by omega))
 ·
  rw [if_neg e]; exact evn e (evs rfl)
def CurOk (l : List Int) : Prop := (l.length : Int) ≤ 65536 ∧ ∀ x ∈ l, 0 ≤ x ∧ x ≤ 255
theorem cur_ok (l : List Int) (hl : (l.length : Int) ≤ 65536) (hb : ∀ x ∈ l, (Lit.int .u8 x).wf = true) : CurOk l := by
 refine ⟨hl, fun x hx => ?_⟩
 have := hb x hx
 simp only [Lit.wf, Bool.and_eq_true, decide_eq_true_eq, IntKind.min, IntKind.max, IntKind.signed, IntKind.bits] at this
 simp at this
 omega
theorem cur_and (y : Int) (h0 : 0 ≤ y) (h1 : y < 18446744073709551616) : 0 ≤ Go.bits .and .u64 (y / 1099511627776) 255 ∧ Go.bits .and .u64 (y / 1099511627776) 255 ≤ 255 := by
 obtain ⟨n, hn⟩ := Int.eq_ofNat_of_zero_le (show 0 ≤ y / 1099511627776 by omega)
 have hn2 : n < 2 ^ 64 := by omega
 have h := (bits_nat .u64 64 (by decide) (fun n h₀ h₁ => by rw [show IntKind.u64.wrap n = n % 18446744073709551616 by simp [IntKind.wrap, IntKind.bits, IntKind.signed]]; omega) n 255 hn2 (by decide)).1
 rw [hn, show (255 : Int) = ((255 : Nat) : Int) from rfl, h]
 have := @Nat.and_le_right n 255
 omega
theorem cur_u64 (z : Int) : 0 ≤ IntKind.u64.wrap z ∧ IntKind.u64.wrap z < 18446744073709551616 := by
 rw [show IntKind.u64.wrap z = z % 18446744073709551616 by simp [IntKind.wrap, IntKind.bits, IntKind.signed]]; omega
theorem cnext {l : List Int} (hl : CurOk l) (p s : Int) (hp : 0 ≤ p ∧ p ≤ 1000000) : ∃ x s', spec_l1Cur_next.f l p s = some (x, p + 1, s') ∧ 0 ≤ x ∧ x ≤ 255 := by
 have hr : 0 ≤ rd l p ∧ rd l p ≤ 255 := by
  obtain ⟨j, rfl⟩ := Int.eq_ofNat_of_zero_le hp.1
  rw [rd_nat]
  by_cases hj : j < l.length
  ·
   rw [List.getD_eq_getElem?_getD, List.getElem?_eq_getElem hj]; exact hl.2 _ (List.getElem_mem hj)
  ·
   rw [List.getD_eq_getElem?_getD, List.getElem?_eq_none (by omega)]; decide
 have ew : wrap64 (p + 1) = p + 1 := w64 (by omega) (by omega)
 have hw : ∀ z : Int, ∃ x s', (some (wrap64 (Go.bits .and .u64 ((IntKind.u64.wrap z) / 1099511627776) 255), p + 1, IntKind.u64.wrap z) : Option (Int × Int × Int)) = some (x, p + 1, s') ∧ 0 ≤ x ∧ x ≤ 255 := by
  intro z
  have h := cur_u64 z
  have h2 := cur_and _ h.1 h.2
  refine ⟨_, _, rfl, ?_⟩
  rw [w64 (by omega) (by omega)]; exact h2
 unfold spec_l1Cur_next.f
 rw [ew]
 by_cases h : p < (l.length : Int)
 ·
  rw [if_pos h, if_pos hp.1]
  by_cases h2 : p + 1 ≤ (l.length : Int)
  ·
   rw [if_pos h2]
   refine ⟨_, _, rfl, ?_⟩
   rw [w64 (by omega) (by omega)]; exact hr
  ·
   omega
 ·
  rw [if_neg h, if_neg (by omega)]
  exact hw _
theorem cur_tmod (x n : Int) (hx : 0 ≤ x) (hn : 0 < n) : 0 ≤ Int.tmod x n ∧ Int.tmod x n < n := by
 rw [Int.tmod_eq_emod_of_nonneg hx]
 exact ⟨Int.emod_nonneg _ (by omega), Int.emod_lt_of_pos _ hn⟩
theorem cpick {l : List Int} (hl : CurOk l) (p s n : Int) (hp : 0 ≤ p ∧ p ≤ 900000) : ∃ x p' s', spec_l1Cur_pick.f l p s n = some (x, p', s') ∧ 0 ≤ x ∧ (x < n ∨ n ≤ 1 ∧ x = 0) ∧ p ≤ p' ∧ p' ≤ p + 2 := by
 unfold spec_l1Cur_pick.f
 by_cases h1 : n ≤ 1
 ·
  rw [if_pos h1]; exact ⟨0, p, s, rfl, Int.le_refl _, .inr ⟨h1, rfl⟩, by omega, by omega⟩
 ·
  rw [if_neg h1]
  obtain ⟨x, s1, e, hx0, hx1⟩ := cnext hl p s (by omega)
  rw [e]; simp only [Option.bind_some]
  by_cases h2 : n > 200
  ·
   rw [if_pos h2]
   obtain ⟨y, s2, e2, hy0, hy1⟩ := cnext hl (p + 1) s1 (by omega)
   rw [e2]; simp only [Option.bind_some]
   rw [if_neg (by omega), w64 (x := x * 256) (by omega) (by omega), w64 (by omega) (by omega)]
   have := cur_tmod (x * 256 + y) n (by omega) (by omega)
   exact ⟨_, _, _, rfl, this.1, .inl this.2, by omega, by omega⟩
  ·
   rw [if_neg h2, if_neg (by omega)]
   have := cur_tmod x n hx0 (by omega)
   exact ⟨_, _, _, rfl, this.1, .inl this.2, by omega, by omega⟩
theorem cone {l : List Int} (hl : CurOk l) (p s n : Int) (hp : 0 ≤ p ∧ p ≤ 900000) : ∃ b p' s', spec_l1Cur_one.f l p s n = some (b, p', s') ∧ p ≤ p' ∧ p' ≤ p + 2 := by
 obtain ⟨x, p', s', e, _, _, h1, h2⟩ := cpick hl p s n hp
 unfold spec_l1Cur_one.f
 rw [e]; exact ⟨_, _, _, rfl, h1, h2⟩
theorem camong {l : List Int} (hl : CurOk l) (p s : Int) (xs : List Int) (hx : xs ≠ []) (hp : 0 ≤ p ∧ p ≤ 900000) : ∃ x p' s', spec_l1Cur_among.f l p s xs = some (x, p', s') ∧ x ∈ xs ∧ p ≤ p' ∧ p' ≤ p + 2 := by
 have hlen : 0 < xs.length := List.length_pos_iff.2 hx
 obtain ⟨x, p', s', e, h0, h1, h2, h3⟩ := cpick hl p s (xs.length : Int) hp
 have hlt : x < (xs.length : Int) := by omega
 unfold spec_l1Cur_among.f
 rw [e]; simp only [Option.bind_some]
 rw [if_pos h0, if_pos hlt]
 refine ⟨_, _, _, rfl, ?_, h2, h3⟩
 obtain ⟨j, rfl⟩ := Int.eq_ofNat_of_zero_le h0
 rw [rd_nat, List.getD_eq_getElem?_getD, List.getElem?_eq_getElem (show j < xs.length by omega)]
 exact List.getElem_mem _
theorem l1Most (a b : Int) : spec_l1Most.f a b = some (if a > b then a else b) := by unfold spec_l1Most.f; split <;> rfl
theorem vInts_l0 (a b : List Int) (hl : a.length = b.length) (hx : a.length ≤ 1048576) : ∀ (d i : Nat), i + d = a.length → Ev (fun k => laws_vInts.l0 k a b (i : Int)) (decide (a.drop i = b.drop i)) := by
 intro d
 induction d with
 | zero =>
  intro i hi
  refine Ev.step (fun k => laws_vInts.l0.eq_2 ..) (evn (by omega) (evs ?_))
  simp [List.drop_of_length_le (show a.length ≤ i by omega), List.drop_of_length_le (show b.length ≤ i by omega)]
 | succ d ih =>
  intro i hi
  refine Ev.step (fun k => laws_vInts.l0.eq_2 ..) (evp (by omega) (evp (by omega) (evp (by omega) ?_)))
  rw [w64s i (by omega), rd_nat, rd_nat, List.drop_eq_getElem_cons (show i < a.length by omega), List.drop_eq_getElem_cons (show i < b.length by omega)]
  have ea : a.getD i 0 = a[i] := by rw [List.getD_eq_getElem?_getD, List.getElem?_eq_getElem (show i < a.length by omega)]; rfl
  have eb : b.getD i 0 = b[i] := by rw [List.getD_eq_getElem?_getD, List.getElem?_eq_getElem (show i < b.length by omega)]; rfl
  rw [ea, eb]
  by_cases e : a[i] = b[i]
  ·
   refine evp e (evr (ih (i + 1) (by omega)) ?_)
   rw [e]; simp only [List.cons.injEq, true_and]
  ·
   refine evn e (evs ?_)
   simp only [List.cons.injEq, e, false_and, decide_false]
theorem vInts (a b : List Int) (hx : a.length ≤ 1048576) : Ev (fun k => laws_vInts.f k a b) (decide (a = b)) := by
 unfold laws_vInts.f
 by_cases h : a.length = b.length
 ·
  refine evp (by omega) (evr (vInts_l0 a b h hx a.length 0 (by omega)) (by simp))
 ·
  refine evn (by omega) (evs ?_)
  have : a ≠ b := fun e => h (by rw [e])
  simp [this]
theorem vHas_l0 (l : List Int) (x : Int) (hl : l.length ≤ 1048576) : ∀ (d i : Nat), i + d = l.length → Ev (fun k => laws_vHas.l0 k l x (i : Int)) (decide (x ∈ l.drop i)) := by
 intro d
 induction d with
 | zero =>
  intro i hi
  refine Ev.step (fun k => laws_vHas.l0.eq_2 ..) (evn (by omega) (evs ?_))
  simp [List.drop_of_length_le (show l.length ≤ i by omega)]
 | succ d ih =>
  intro i hi
  refine Ev.step (fun k => laws_vHas.l0.eq_2 ..) (evp (by omega) (evp (by omega) ?_))
  have ea : l.getD i 0 = l[i] := by rw [List.getD_eq_getElem?_getD, List.getElem?_eq_getElem (show i < l.length by omega)]; rfl
  rw [w64s i (by omega), rd_nat, List.drop_eq_getElem_cons (show i < l.length by omega), ea]
  by_cases e : l[i] = x
  ·
   exact evp e (evs (by simp [e]))
  ·
   refine evn e (evr (ih (i + 1) (by omega)) ?_)
   simp only [List.mem_cons, show (x = l[i]) = False from eq_false (fun h => e h.symm), false_or]
theorem vHas (l : List Int) (x : Int) (hl : l.length ≤ 1048576) : Ev (fun k => laws_vHas.f k l x) (decide (x ∈ l)) := by
 unfold laws_vHas.f
 exact evr (vHas_l0 l x hl l.length 0 (by omega)) (by simp)
theorem vCut {l : List Int} (hl : CurOk l) (n : Nat) (hn0 : 1 ≤ n) (hn : n ≤ 200) : ∃ r, laws_vCut.f l (n : Int) = some r ∧ CurOk r := by
 have h1 := hl.1
 unfold laws_vCut.f
 by_cases c : (n : Int) > (l.length : Int)
 ·
  rw [if_pos c]
  simp only [Option.bind_some]
  rw [if_pos (by omega), if_pos (by omega), if_pos (by simp), if_pos (by simp)]
  refine ⟨_, rfl, by simp, fun x hx => ?_⟩
  simp at hx
  omega
 ·
  rw [if_neg c]
  simp only [Option.bind_some]
  rw [if_pos (by omega), if_pos (by omega), if_pos (by simp; omega), if_pos (by simp; omega)]
  refine ⟨_, rfl, by simp; omega, fun x hx => ?_⟩
  simp only [List.nil_append, List.mem_append, List.mem_singleton] at hx
  rcases hx with hx | rfl
  ·
   exact hl.2 x (List.mem_of_mem_drop hx)
  ·
   omega
theorem vCut1 {l : List Int} (hl : CurOk l) : ∃ r, laws_vCut.f l 1 = some r ∧ CurOk r := vCut hl 1 (by omega) (by omega)
theorem vCut2 {l : List Int} (hl : CurOk l) : ∃ r, laws_vCut.f l 2 = some r ∧ CurOk r := vCut hl 2 (by omega) (by omega)
theorem le_l1 (m : Nat) (hm : m ≤ 8) (out : List (List Int)) (s : Nat) (ho : out.length ≤ 256) (hs : s < 256) (P : List (List Int) → Prop)
  (hK : ∀ row : List Int, row.length = m → ∃ R, Ev (fun k => spec_l7Lists.l0 k (m : Int) (out ++ [row]) ((s + 1 : Nat) : Int)) R ∧ P R) : ∀ d i (row : List Int), i + d = m → row.length = i → ∃ R, Ev (fun k => spec_l7Lists.l1 k (m : Int) out (s : Int) row (i : Int)) R ∧ P R := by
 intro d
 induction d with
 | zero =>
  intro i row hi hr
  obtain ⟨R, h1, h2⟩ := hK row (by omega)
  refine ⟨R, Ev.step (fun k => spec_l7Lists.l1.eq_2 ..) (evn (by omega) (evp (by omega) ?_)), h2⟩
  rw [w64s s (by omega)]; exact h1
 | succ d ih =>
  intro i row hi hr
  obtain ⟨R, h1, h2⟩ := ih (i + 1) (row ++ [wrap64 ((wrap64 (2 * (Go.bits .and .i64 (shr .i64 (s : Int) (wrap64 ((wrap64 ((m : Int) - 1)) - (i : Int)))) 1))) - 1)]) (by omega) (by simp; omega)
  have e1 : wrap64 (wrap64 ((m : Int) - 1) - (i : Int)) = ((m - 1 - i : Nat) : Int) := by
   rw [w64 (x := (m : Int) - 1) (by omega) (by omega), w64 (by omega) (by omega)]; omega
  refine ⟨R, Ev.step (fun k => spec_l7Lists.l1.eq_2 ..) (evp (by omega) (evp (by rw [e1]; omega) (evp (by omega) ?_))), h2⟩
  rw [w64s i (by omega)]; exact h1
theorem le_l0 (m : Nat) (hm : m ≤ 8) : ∀ d s (out : List (List Int)), s + d = 2 ^ m → out.length = s → (∀ r ∈ out, r.length ≤ 8) → ∃ R, Ev (fun k => spec_l7Lists.l0 k (m : Int) out (s : Int)) R ∧ (1 ≤ R.length ∧ R.length ≤ 256 ∧ ∀ r ∈ R, r.length ≤ 8) := by
 have hp : 1 ≤ 2 ^ m ∧ 2 ^ m ≤ 256 := ⟨Nat.two_pow_pos m, Nat.pow_le_pow_right (n := 2) (by decide) hm⟩
 intro d
 induction d with
 | zero =>
  intro s out hs ho hr
  exact ⟨out, Ev.step (fun k => spec_l7Lists.l0.eq_2 ..) (evp (by omega) (evn (by rw [shl1 m (by omega)]; omega) (evs rfl))), by omega, by omega, hr⟩
 | succ d ih =>
  intro s out hs ho hr
  obtain ⟨R, h1, h2⟩ := le_l1 m hm out s (by omega) (by omega) _ (fun row hrow => ih (s + 1) (out ++ [row]) (by omega) (by simp; omega) (fun r h => by
   rcases List.mem_append.1 h with h | h
   ·
    exact hr r h
   ·
    rw [List.mem_singleton] at h; subst h; omega)) m 0 [] (by omega) rfl
  exact ⟨R, Ev.step (fun k => spec_l7Lists.l0.eq_2 ..) (evp (by omega) (evp (by rw [shl1 m (by omega)]; omega) h1)), h2⟩
theorem listsE (m : Nat) (hm : m ≤ 8) : ∃ R, Ev (fun k => spec_l7Lists.f k (m : Int)) R ∧ (1 ≤ R.length ∧ R.length ≤ 256 ∧ ∀ r ∈ R, r.length ≤ 8) := by
 unfold spec_l7Lists.f
 exact le_l0 m hm (2 ^ m) 0 [] (by omega) rfl (fun r h => by cases h)
def CDr (p : Int) (n : Nat) (r : List (List Int) × Int × Int) : Prop := r.1.length ≤ 300 ∧ (∀ x ∈ r.1, x.length ≤ 8) ∧ p ≤ r.2.1 ∧ r.2.1 ≤ p + n
theorem cl_j2 {l : List Int} (hl : CurOk l) (n : Nat) (hn : n ≤ 8) (p s : Int) (c : List (List Int)) (hc : c.length ≤ 290) (hr : ∀ x ∈ c, x.length ≤ 8) (hp : 0 ≤ p ∧ p ≤ 800000) : ∃ r, Ev (fun k => spec_l1Cur_class7.j2 k (n : Int) c l p s) r ∧ CDr p 2 r := by
 obtain ⟨x, p1, s1, e, _, _, g1, g2⟩ := cpick hl p s 40 (by omega)
 by_cases c0 : x = 0
 ·
  refine ⟨_, Ev.step (fun k => spec_l1Cur_class7.j2.eq_2 ..) (evb (evc e) (evp c0 (evp (by omega) (evp (by omega) (evp (by omega) (evs rfl)))))), by simp; omega, fun x hx => ?_, g1, g2⟩
  rcases List.mem_append.1 hx with hx | hx
  ·
   exact hr x hx
  ·
   rw [List.mem_singleton] at hx; subst hx; simp; omega
 by_cases c1 : x = 1
 ·
  by_cases c2 : (c.length : Int) > 1
  ·
   have hm := hr _ (rdl_mem c 1 (by omega))
   have e1 : rd_L2 c 1 = rdl c 1 := by simp [rd_L2, rdl]
   refine ⟨_, Ev.step (fun k => spec_l1Cur_class7.j2.eq_2 ..) (evb (evc e) (evn c0 (evp c1 (evp c2 (evp (by omega) (evb (evc (l1Own _ (by rw [e1]; omega))) (evp (by omega) (evs rfl)))))))), by simp; omega, fun x hx => ?_, g1, g2⟩
   rcases List.mem_or_eq_of_mem_set hx with hx | rfl
   ·
    exact hr x hx
   ·
    rw [e1]; exact hm
  ·
   exact ⟨_, Ev.step (fun k => spec_l1Cur_class7.j2.eq_2 ..) (evb (evc e) (evn c0 (evp c1 (evn c2 (evs rfl))))), by simp; omega, hr, g1, g2⟩
 ·
  exact ⟨_, Ev.step (fun k => spec_l1Cur_class7.j2.eq_2 ..) (evb (evc e) (evn c0 (evn c1 (evs rfl)))), by simp; omega, hr, g1, g2⟩
theorem cl_j1 {l : List Int} (hl : CurOk l) (n : Nat) (hn : n ≤ 8) (p s : Int) (c a : List (List Int)) (b : Bool) (hc : c.length ≤ 280) (hr : ∀ x ∈ c, x.length ≤ 8) (ha : 1 ≤ a.length ∧ ∀ x ∈ a, x.length ≤ 8) (hp : 0 ≤ p ∧ p ≤ 700000) : ∃ r, Ev (fun k => spec_l1Cur_class7.j1 k (n : Int) c a b l p s) r ∧ CDr p 4 r := by
 by_cases cb : b = true
 ·
  obtain ⟨x, p1, s1, e, h0, h1, g1, g2⟩ := cpick hl p s (a.length : Int) (by omega)
  obtain ⟨j, rfl⟩ := Int.eq_ofNat_of_zero_le h0
  have e1 : rd_L2 a (j : Int) = rdl a j := by simp [rd_L2, rdl]
  obtain ⟨r, hr1, q1, q2, q3, q4⟩ := cl_j2 hl n hn p1 s1 (c ++ [rd_L2 a (j : Int)]) (by simp; omega) (fun x hx => by
   rcases List.mem_append.1 hx with hx | hx
   ·
    exact hr x hx
   ·
    rw [List.mem_singleton] at hx; subst hx; rw [e1]; exact ha.2 _ (rdl_mem a j (by omega))) (by omega)
  exact ⟨r, Ev.step (fun k => spec_l1Cur_class7.j1.eq_2 ..) (evp cb (evb (evc e) (evp (by omega) (evp (by simp only; omega) (evp (by omega) hr1))))), q1, q2, by omega, by omega⟩
 ·
  obtain ⟨r, hr1, q1, q2, q3, q4⟩ := cl_j2 hl n hn p s c (by omega) hr (by omega)
  exact ⟨r, Ev.step (fun k => spec_l1Cur_class7.j1.eq_2 ..) (evn cb hr1), q1, q2, by omega, by omega⟩
theorem cl_l0 {l : List Int} (hl : CurOk l) (n : Nat) (hn : n ≤ 8) (a : List (List Int)) (w : Int) (ha : 1 ≤ a.length ∧ a.length ≤ 256 ∧ ∀ x ∈ a, x.length ≤ 8) : ∀ d i (c : List (List Int)) (p s : Int), i + d = a.length → c.length ≤ i → (∀ x ∈ c, x.length ≤ 8) → 0 ≤ p ∧ p + 2 * d ≤ 600000 → ∃ r, Ev (fun k => spec_l1Cur_class7.l0 k (n : Int) c a w (i : Int) l p s) r ∧ CDr p (2 * d + 6) r := by
 intro d
 induction d with
 | zero =>
  intro i c p s hi hc hr hp
  by_cases e0 : (c.length : Int) = 0
  ·
   obtain ⟨b, p1, s1, e, g1, g2⟩ := cone hl p s 8 (by omega)
   obtain ⟨r, hr1, q1, q2, q3, q4⟩ := cl_j1 hl n hn p1 s1 c a (!b) (by omega) hr ⟨ha.1, ha.2.2⟩ (by omega)
   exact ⟨r, Ev.step (fun k => spec_l1Cur_class7.l0.eq_2 ..) (evn (by omega) (evp e0 (evb (evc e) hr1))), q1, q2, by omega, by omega⟩
  ·
   obtain ⟨r, hr1, q1, q2, q3, q4⟩ := cl_j1 hl n hn p s c a false (by omega) hr ⟨ha.1, ha.2.2⟩ (by omega)
   exact ⟨r, Ev.step (fun k => spec_l1Cur_class7.l0.eq_2 ..) (evn (by omega) (evn e0 hr1)), q1, q2, by omega, by omega⟩
 | succ d ih =>
  intro i c p s hi hc hr hp
  obtain ⟨x, p1, s1, e, _, _, g1, g2⟩ := cpick hl p s 4 (by omega)
  by_cases e0 : x < w
  ·
   have e1 : rd_L2 a (i : Int) = rdl a i := by simp [rd_L2, rdl]
   obtain ⟨r, hr1, q1, q2, q3, q4⟩ := ih (i + 1) (c ++ [rd_L2 a (i : Int)]) p1 s1 (by omega) (by simp; omega) (fun x hx => by
    rcases List.mem_append.1 hx with hx | hx
    ·
     exact hr x hx
    ·
     rw [List.mem_singleton] at hx; subst hx; rw [e1]; exact ha.2.2 _ (rdl_mem a i (by omega))) (by omega)
   refine ⟨r, Ev.step (fun k => spec_l1Cur_class7.l0.eq_2 ..) (evp (by omega) (evb (evc e) (evp e0 (evp (by omega) (evp (by omega) ?_))))), q1, q2, by omega, by omega⟩
   rw [w64s i (by omega)]; exact hr1
  ·
   obtain ⟨r, hr1, q1, q2, q3, q4⟩ := ih (i + 1) c p1 s1 (by omega) (by omega) hr (by omega)
   refine ⟨r, Ev.step (fun k => spec_l1Cur_class7.l0.eq_2 ..) (evp (by omega) (evb (evc e) (evn e0 ?_))), q1, q2, by omega, by omega⟩
   rw [w64s i (by omega)]; exact hr1
theorem class7 {l : List Int} (hl : CurOk l) (p s : Int) (hp : 0 ≤ p ∧ p ≤ 100000) : ∃ r, Ev (fun k => spec_l1Cur_class7.f k l p s) r ∧ CDr p 1000 r := by
 obtain ⟨x, p1, s1, e, hx, g1, g2⟩ := camong hl p s [3, 4, 2, 3, 5, 1, 0] (by simp) (by omega)
 have hx5 : 0 ≤ x ∧ x ≤ 5 := by simp at hx; omega
 obtain ⟨n, rfl⟩ := Int.eq_ofNat_of_zero_le hx5.1
 obtain ⟨R, hR, h1, h2, h3⟩ := listsE n (by omega)
 obtain ⟨y, p2, s2, e2, _, _, g3, g4⟩ := cpick hl p1 s1 4 (by omega)
 obtain ⟨r, hr1, q1, q2, q3, q4⟩ := cl_l0 hl n (by omega) R (wrap64 (1 + y)) ⟨h1, h2, h3⟩ R.length 0 [] p2 s2 (by omega) (by simp) (fun x h => by cases h) (by omega)
 unfold spec_l1Cur_class7.f
 exact ⟨r, evb (evc e) (evb hR (evb (evc e2) hr1)), q1, q2, by omega, by omega⟩
theorem set7_l0 {l : List Int} (hl : CurOk l) (c : List (List Int)) (hc : 1 ≤ c.length) : ∀ d i (t : List Int) (p s : Int), i + d = (rdl c 0).length → (rdl c 0).length ≤ 8 → t.length ≤ i → 0 ≤ p ∧ p + 2 * d ≤ 700000 → ∃ r, Ev (fun k => spec_l1Cur_set7.l0 k c t (i : Int) l p s) r ∧ (r.1.length ≤ 9 ∧ p ≤ r.2.1 ∧ r.2.1 ≤ p + 2 * d + 4) := by
 have e1 : rd_L2 c 0 = rdl c 0 := by simp [rd_L2, rdl]
 intro d
 induction d with
 | zero =>
  intro i t p s hi h8 ht hp
  obtain ⟨b, p1, s1, e, g1, g2⟩ := cone hl p s 20 (by omega)
  by_cases cb : b = true
  ·
   obtain ⟨x, p2, s2, e2, _, g3, g4⟩ := camong hl p1 s1 [-1, 0, 8] (by simp) (by omega)
   exact ⟨_, Ev.step (fun k => spec_l1Cur_set7.l0.eq_2 ..) (evp (by omega) (evn (by rw [e1]; omega) (evb (evc e) (evp cb (evb (evc e2) (evp (by omega) (evs rfl))))))), by simp; omega, by simp only; omega, by simp only; omega⟩
  ·
   exact ⟨_, Ev.step (fun k => spec_l1Cur_set7.l0.eq_2 ..) (evp (by omega) (evn (by rw [e1]; omega) (evb (evc e) (evn cb (evs rfl))))), by simp only; omega, by simp only; omega, by simp only; omega⟩
 | succ d ih =>
  intro i t p s hi h8 ht hp
  obtain ⟨b, p1, s1, e, g1, g2⟩ := cone hl p s 2 (by omega)
  by_cases cb : b = true
  ·
   obtain ⟨r, hr, q1, q2, q3⟩ := ih (i + 1) (t ++ [(i : Int)]) p1 s1 (by omega) h8 (by simp; omega) (by omega)
   refine ⟨r, Ev.step (fun k => spec_l1Cur_set7.l0.eq_2 ..) (evp (by omega) (evp (by rw [e1]; omega) (evb (evc e) (evp cb (evp (by omega) ?_))))), q1, by omega, by omega⟩
   rw [w64s i (by omega)]; exact hr
  ·
   obtain ⟨r, hr, q1, q2, q3⟩ := ih (i + 1) t p1 s1 (by omega) h8 (by omega) (by omega)
   refine ⟨r, Ev.step (fun k => spec_l1Cur_set7.l0.eq_2 ..) (evp (by omega) (evp (by rw [e1]; omega) (evb (evc e) (evn cb ?_)))), q1, by omega, by omega⟩
   rw [w64s i (by omega)]; exact hr
theorem set7 {l : List Int} (hl : CurOk l) (c : List (List Int)) (hc : ∀ x ∈ c, x.length ≤ 8) (p s : Int) (hp : 0 ≤ p ∧ p ≤ 600000) : ∃ r, Ev (fun k => spec_l1Cur_set7.f k l p s c) r ∧ (r.1.length ≤ 9 ∧ p ≤ r.2.1 ∧ r.2.1 ≤ p + 20) := by
 unfold spec_l1Cur_set7.f
 simp only [Option.bind_some]
 by_cases e : (c.length : Int) = 0
 ·
  exact ⟨_, evp e (evs rfl), by simp, by simp only; omega, by simp only; omega⟩
 ·
  have h8 := hc _ (rdl_mem c 0 (by omega))
  obtain ⟨r, hr, q1, q2, q3⟩ := set7_l0 hl c (by omega) (rdl c 0).length 0 [] p s (by omega) h8 (by simp) (by omega)
  exact ⟨r, evn e hr, q1, q2, by omega⟩
theorem dTeach {l : List Int} (hl : CurOk l) : ∃ r, Ev (fun k => spec_DrawTeachingSet.f k l) r ∧ r.1.length ≤ 300 ∧ ∀ x ∈ r.1, x.length ≤ 8 := by
 obtain ⟨c, hc, q1, q2, q3, q4⟩ := class7 hl 0 0 (by omega)
 obtain ⟨b, p1, s1, e, g1, g2⟩ := cone hl c.2.1 c.2.2 20 (by omega)
 unfold spec_DrawTeachingSet.f
 by_cases cb : b = true
 ·
  obtain ⟨x, p2, s2, e2, _, g3, g4⟩ := camong hl p1 s1 [-1, (c.1.length : Int)] (by simp) (by omega)
  exact ⟨_, evb hc (evb (evc e) (evp cb (evb (evc e2) (evs rfl)))), q1, q2⟩
 ·
  obtain ⟨x, p2, s2, e2, _, _, g3, g4⟩ := cpick hl p1 s1 (if 1 > (c.1.length : Int) then 1 else (c.1.length : Int)) (by omega)
  exact ⟨_, evb hc (evb (evc e) (evn cb (evb (evc (l1Most _ _)) (evb (evc e2) (evs rfl))))), q1, q2⟩
theorem dVer_l0 {l : List Int} (hl : CurOk l) (c : List (List Int)) (t : List Int) (ht : t.length ≤ 9) : ∀ d i (y : List Int) (p s : Int), i + d = t.length → y.length ≤ i → 0 ≤ p ∧ p + 2 * d ≤ 700000 → ∃ y', Ev (fun k => spec_DrawVersionOf.l0 k c t y (i : Int) l p s) (c, t, y') ∧ y'.length ≤ 10 := by
 intro d
 induction d with
 | zero =>
  intro i y p s hi hy hp
  obtain ⟨b, p1, s1, e, g1, g2⟩ := cone hl p s 20 (by omega)
  by_cases cb : b = true
  ·
   obtain ⟨x, p2, s2, e2, _, g3, g4⟩ := camong hl p1 s1 [0, 1] (by simp) (by omega)
   exact ⟨_, Ev.step (fun k => spec_DrawVersionOf.l0.eq_2 ..) (evn (by omega) (evb (evc e) (evp cb (evb (evc e2) (evp (by omega) (evs rfl)))))), by simp; omega⟩
  ·
   exact ⟨_, Ev.step (fun k => spec_DrawVersionOf.l0.eq_2 ..) (evn (by omega) (evb (evc e) (evn cb (evs rfl)))), by omega⟩
 | succ d ih =>
  intro i y p s hi hy hp
  obtain ⟨x, p1, s1, e, _, _, g1, g2⟩ := cpick hl p s 2 (by omega)
  obtain ⟨y', hr, q⟩ := ih (i + 1) (y ++ [wrap64 (1 - (wrap64 (2 * x)))]) p1 s1 (by omega) (by simp; omega) (by omega)
  refine ⟨y', Ev.step (fun k => spec_DrawVersionOf.l0.eq_2 ..) (evp (by omega) (evb (evc e) (evp (by omega) ?_))), q⟩
  rw [w64s i (by omega)]; exact hr
theorem dVersion {l : List Int} (hl : CurOk l) : ∃ r, Ev (fun k => spec_DrawVersionOf.f k l) r ∧ (r.1.length ≤ 300 ∧ (∀ x ∈ r.1, x.length ≤ 8) ∧ r.2.1.length ≤ 9 ∧ r.2.2.length ≤ 10) := by
 obtain ⟨c, hc, q1, q2, q3, q4⟩ := class7 hl 0 0 (by omega)
 obtain ⟨t, ht, q5, q6, q7⟩ := set7 hl c.1 q2 c.2.1 c.2.2 (by omega)
 obtain ⟨y, hy, q8⟩ := dVer_l0 hl c.1 t.1 q5 t.1.length 0 [] t.2.1 t.2.2 (by omega) (by simp) (by omega)
 unfold spec_DrawVersionOf.f
 exact ⟨_, evb hc (evb ht hy), q1, q2, q5, q8⟩
theorem riseB_cons (x : Int) (l : List Int) (h : riseB l = true) (hx : ∀ y ∈ l, x < y) : riseB (x :: l) = true := by
 cases l with
 | nil => rfl
 | cons y l => simp only [riseB, Bool.and_eq_true, decide_eq_true_eq]; exact ⟨hx y (by simp), h⟩
theorem riseB_pair : ∀ l : List Int, riseB l = true ↔ l.Pairwise (· < ·)
 | [] => by simp [riseB]
 | x :: l => by
  constructor
  ·
   intro h
   exact List.pairwise_cons.2 ⟨riseB_lt l x h, (riseB_pair l).1 (riseB_tail h)⟩
  ·
   intro h
   have h2 := List.pairwise_cons.1 h
   exact riseB_cons x l ((riseB_pair l).2 h2.2) h2.1
theorem rise_erase (l : List Int) (k : Nat) (h : riseB l = true) : riseB (l.eraseIdx k) = true :=
 (riseB_pair _).2 (((riseB_pair l).1 h).sublist (List.eraseIdx_sublist l k))
theorem cmbs_mem (n : Nat) : ∀ (s : List Int) (lo : Nat), riseB s = true → (∀ x ∈ s, (lo : Int) ≤ x ∧ x < n) → s ∈ cmbs n s.length lo
 | [], lo, _, _ => by simp [cmbs]
 | x :: s, lo, hr, hx => by
  have h0 := hx x (by simp)
  obtain ⟨j, hj⟩ : ∃ j : Nat, x = (j : Int) := ⟨x.toNat, by omega⟩
  subst hj
  simp only [List.length_cons, cmbs, List.mem_flatMap, List.mem_map, List.mem_range'_1]
  refine ⟨j, by omega, s, cmbs_mem n s (j + 1) (riseB_tail hr) (fun y hy => ?_), rfl⟩
  have h1 := riseB_lt s _ hr y hy
  have h2 := hx y (by simp [hy])
  omega
theorem cmbs_rise (n : Nat) : ∀ r lo, ∀ s ∈ cmbs n r lo, riseB s = true ∧ ∀ x ∈ s, (lo : Int) ≤ x := by
 intro r
 induction r with
 | zero => intro lo s hs; simp [cmbs] at hs; subst hs; simp [riseB]
 | succ r ih =>
  intro lo s hs
  simp only [cmbs, List.mem_flatMap, List.mem_map, List.mem_range'_1] at hs
  obtain ⟨j, hj, d, hd, rfl⟩ := hs
  have h1 := ih (j + 1) d hd
  refine ⟨riseB_cons _ _ h1.1 (fun y hy => by have := h1.2 y hy; omega), fun x hx => ?_⟩
  rcases List.mem_cons.1 hx with rfl | hx
  ·
   omega
  ·
   have := h1.2 x hx; omega
theorem sets_rise {m : Nat} {s : List Int} (h : s ∈ impl_teaching.sets m) : riseB s = true := by
 obtain ⟨r, _, hs⟩ := List.mem_flatMap.1 h
 exact (cmbs_rise m r 0 s hs).1
theorem setB_of {n : Nat} {s : List Int} (h1 : ∀ x ∈ s, 0 ≤ x ∧ x < n) (h2 : riseB s = true) : setB n s = true := by
 simp only [setB, inB, Bool.and_eq_true, List.all_eq_true, decide_eq_true_eq]
 exact ⟨fun x hx => by have := h1 x hx; omega, h2⟩
theorem teach_found {c : List (List Int)} (h : classB c = true) (i : Nat) (hi : i < c.length) :
  tok c i (teachV c i) = true ∧ ∀ t : List Int, t.length < (teachV c i).length → riseB t = true → (∀ x ∈ t, 0 ≤ x ∧ x < (rdl c 0).length) → tok c i t = false := by
 obtain ⟨s0, hs0, ht0⟩ := full_ok h i hi
 have hT := teach_in h i hi
 have hlen := sets_in hT
 cases e : (impl_teaching.sets (rdl c 0).length).find? (tok c i) with
 | none => exact absurd (List.find?_eq_none.1 e s0 hs0) (by simp [ht0])
 | some z =>
  have ez : teachV c i = z := by unfold teachV; rw [e]; rfl
  rw [ez] at hT hlen ⊢
  refine ⟨List.find?_some e, fun t htl htr htx => ?_⟩
  rw [← Bool.not_eq_true]
  intro htok
  have hsp : impl_teaching.sets (rdl c 0).length = ((List.range z.length).flatMap fun r => cmbs (rdl c 0).length r 0) ++ ((List.range' z.length ((rdl c 0).length + 1 - z.length)).flatMap fun r => cmbs (rdl c 0).length r 0) := by
   unfold impl_teaching.sets
   rw [← List.flatMap_append]
   congr 1
   rw [List.range_eq_range', List.range_eq_range', show (rdl c 0).length + 1 = z.length + ((rdl c 0).length + 1 - z.length) by omega]
   have := (List.range'_append (s := 0) (m := z.length) (n := (rdl c 0).length + 1 - z.length) (step := 1)).symm
   simpa using this
  have htin : t ∈ (List.range z.length).flatMap fun r => cmbs (rdl c 0).length r 0 :=
   List.mem_flatMap.2 ⟨t.length, List.mem_range.2 htl, cmbs_mem _ t 0 htr (fun x hx => by have := htx x hx; omega)⟩
  rw [hsp, List.find?_append] at e
  cases e2 : ((List.range z.length).flatMap fun r => cmbs (rdl c 0).length r 0).find? (tok c i) with
  | none => exact absurd (List.find?_eq_none.1 e2 t htin) (by simp [htok])
  | some y =>
   rw [e2] at e
   have hyz : y = z := by simpa using e
   subst hyz
   obtain ⟨r, hr, hy⟩ := List.mem_flatMap.1 (List.mem_of_find?_eq_some e2)
   have h1 := cmbs_len _ r 0 y hy
   have h2 := List.mem_range.1 hr
   omega
theorem teachN_ge (c : List (List Int)) : ∀ n i, i < n → ((teachV c i).length : Int) ≤ teachN c n := by
 intro n
 induction n with
 | zero => intro i h; omega
 | succ n ih =>
  intro i h
  simp only [teachN]
  by_cases e : i = n
  ·
   subst e; split <;> omega
  ·
   have := ih i (by omega); split <;> omega
theorem atV_lab {c : List (List Int)} (h : classB c = true) (i : Nat) (hi : i < c.length) (s : List Int) (hs : ∀ x ∈ s, 0 ≤ x ∧ x < (rdl c 0).length) : labB (atV (rdl c i) s) = true := by
 have h1 := classB_at h
 unfold classB at h
 simp only [Bool.and_eq_true, List.all_eq_true, List.mem_range] at h
 have h2 := h.2 i hi
 unfold rowok at h2
 simp only [Bool.and_eq_true] at h2
 have h3 : ∀ x ∈ rdl c i, x = 1 ∨ x = -1 := by
  have := h2.2.2.1
  unfold labB at this
  simpa using this
 unfold labB atV
 simp only [List.all_eq_true, List.mem_map, decide_eq_true_eq]
 rintro _ ⟨x, hx, rfl⟩
 have h4 := hs x hx
 have h5 : x.toNat < (rdl c i).length := by rw [(h1.2 i hi).1]; omega
 rw [List.getD_eq_getElem?_getD, List.getElem?_eq_getElem h5]
 exact h3 _ (List.getElem_mem h5)
theorem versionV_of {c : List (List Int)} (h : classB c = true) (i : Nat) (hi : i < c.length) (s : List Int) (hs : ∀ x ∈ s, 0 ≤ x ∧ x < (rdl c 0).length) (hr : riseB s = true) : versionV c s (atV (rdl c i) s) = (tver c i s, true) := by
 unfold versionV
 rw [if_pos ⟨by unfold csetB; rw [h, Bool.true_and]; exact setB_of hs hr, atV_len _ _, atV_lab h i hi s hs⟩]
 rfl
theorem tver_one {c : List (List Int)} (i : Nat) (hi : i < c.length) (s : List Int) (h : tok c i s = true) : tver c i s = [(i : Int)] := by
 have h1 : (tver c i s).length = 1 := of_decide_eq_true h
 have h2 := ver_mem c i s hi
 match e : tver c i s, h1, h2 with
 | [x], _, h2 => rw [List.mem_singleton] at h2; rw [h2]
theorem eraseIdx_map_ {α β : Type} (f : α → β) : ∀ (l : List α) (k : Nat), (l.eraseIdx k).map f = (l.map f).eraseIdx k
 | [], k => rfl
 | x :: l, 0 => rfl
 | x :: l, k + 1 => by simp only [List.eraseIdx_cons_succ, List.map_cons, eraseIdx_map_ f l k]
theorem ft_l3 {c : List (List Int)} (h : classB c = true) (i : Nat) (hi : i < c.length) : ∀ d k, k + d = (teachV c i).length → Ev (fun kk => laws_FnTeaching.l3 kk c (teachV c i) true (atV (rdl c i) (teachV c i)) (k : Int)) true := by
 have h8 := teach_len h i hi
 have hT := teach_in h i hi
 have hin := (sets_in hT).2
 have hri := sets_rise hT
 have hf := teach_found h i hi
 have hc := (classB_at h).1
 have hc8 := (classB_at h).2
 intro d
 induction d with
 | zero =>
  intro k hk
  exact Ev.step (fun kk => laws_FnTeaching.l3.eq_2 ..) (evn (by omega) (evs rfl))
 | succ d ih =>
  intro k hk
  have hnx := ih (k + 1) (by omega)
  have w1 : wrap64 ((k : Int) + 1) = ((k + 1 : Nat) : Int) := w64s k (by omega)
  have h0 : (0 : Int) ≤ k := by omega
  have hlt : (k : Int) < (teachV c i).length := by omega
  have hle : (k : Int) ≤ (teachV c i).length := by omega
  have h01 : 0 ≤ wrap64 ((k : Int) + 1) := by rw [w1]; omega
  have hle1 : wrap64 ((k : Int) + 1) ≤ (teachV c i).length := by rw [w1]; omega
  have hz : ∀ (l : List Int) (a b : Nat), l.length ≤ 8 → (([] : List Int).length + (l.take a).length < 17592186044416) ∧ ((([] : List Int) ++ l.take a).length + (l.drop b).length < 17592186044416) := fun l a b hl => by
   simp only [List.length_nil, List.length_append, List.length_take, List.length_drop]; omega
  have hal : (atV (rdl c i) (teachV c i)).length = (teachV c i).length := atV_len _ _
  have ek : ((k : Int)).toNat = k := Int.toNat_natCast k
  have ek1 : (wrap64 ((k : Int) + 1)).toNat = k + 1 := by rw [w64s k (by omega)]; exact Int.toNat_natCast _
  have e1 : ([] ++ (teachV c i).take ((k : Int)).toNat) ++ (teachV c i).drop (wrap64 ((k : Int) + 1)).toNat = (teachV c i).eraseIdx k := by
   rw [ek, ek1, List.nil_append, List.eraseIdx_eq_take_drop_succ]
  have e2 : ([] ++ (atV (rdl c i) (teachV c i)).take ((k : Int)).toNat) ++ (atV (rdl c i) (teachV c i)).drop (wrap64 ((k : Int) + 1)).toNat = atV (rdl c i) ((teachV c i).eraseIdx k) := by
   rw [ek, ek1, List.nil_append, ← List.eraseIdx_eq_take_drop_succ]
   exact (eraseIdx_map_ _ _ _).symm
  have hfl : ((teachV c i).eraseIdx k).length < (teachV c i).length := by rw [List.length_eraseIdx, if_pos (by omega)]; omega
  have hfi : ∀ x ∈ (teachV c i).eraseIdx k, 0 ≤ x ∧ x < (rdl c 0).length := fun x hx => hin x (List.mem_of_mem_eraseIdx hx)
  have hfr := rise_erase _ k hri
  have hv := iVersionOf c ((teachV c i).eraseIdx k) (atV (rdl c i) ((teachV c i).eraseIdx k)) (by omega) (fun r hr => by
   obtain ⟨j, hj, rfl⟩ := List.getElem_of_mem hr
   have := (hc8 j hj).2
   rw [show rdl c j = c[j] by simp [rdl, List.getD_eq_getElem?_getD, List.getElem?_eq_getElem hj]] at this
   omega) (by omega) (by rw [atV_len]; omega)
  rw [versionV_of h i hi _ hfi hfr] at hv
  have hno := hf.2 _ hfl hfr hfi
  have hp := ver_pos c i ((teachV c i).eraseIdx k) hi
  have h2 : ¬ ((tver c i ((teachV c i).eraseIdx k)).length : Int) < 2 := by
   have : ¬ (tver c i ((teachV c i).eraseIdx k)).length = 1 := of_decide_eq_false hno
   omega
  obtain ⟨X, hX⟩ : ∃ X, X = (teachV c i).eraseIdx k := ⟨_, rfl⟩
  obtain ⟨Y, hY⟩ : ∃ Y, Y = atV (rdl c i) X := ⟨_, rfl⟩
  rw [← hX] at hv h2 e1 e2
  rw [← hY] at hv e2
  rw [← e1, ← e2] at hv
  rw [← e1] at h2
  have hal8 : (atV (rdl c i) (teachV c i)).length ≤ 8 := by rw [hal]; exact h8
  refine Ev.step (fun kk => laws_FnTeaching.l3.eq_2 ..) (evp hlt (evb (evs rfl) (evp h0 (evp hle (evb (evs rfl) (evp (hz _ _ 0 h8).1 (evb (evs rfl) (evp h01 (evp hle1 (evb (evs rfl) (evp (hz _ _ _ h8).2 ?_)))))))))))
  refine evb (evs rfl) (evp (by rw [hal]; exact hle) (evb (evs rfl) (evp (hz _ _ 0 hal8).1 (evb (evs rfl) (evp (by rw [hal]; exact hle1) (evb (evs rfl) (evp (hz _ _ _ hal8).2 (evb hv (evp rfl (evn h2 ?_))))))))))
  rw [w1]; exact hnx
theorem ft_l2 {c : List (List Int)} (h : classB c = true) (i : Nat) (hi : i < c.length) : ∀ d k, k + d = (teachV c i).length → Ev (fun kk => laws_FnTeaching.l2 kk c (i : Int) (teachV c i) (teachN c c.length) true (atV (rdl c i) ((teachV c i).take k)) (k : Int)) true := by
 have h8 := teach_len h i hi
 have hT := teach_in h i hi
 have hin := (sets_in hT).2
 have hri := sets_rise hT
 have hf := teach_found h i hi
 have hc := (classB_at h).1
 have hc8 := (classB_at h).2
 have er : rd_L2 c (i : Int) = rdl c i := rdL_nat' c i
 intro d
 induction d with
 | zero =>
  intro k hk
  have hv := iVersionOf c (teachV c i) (atV (rdl c i) (teachV c i)) (by omega) (fun r hr => by
   obtain ⟨j, hj, rfl⟩ := List.getElem_of_mem hr
   have := (hc8 j hj).2
   rw [show rdl c j = c[j] by simp [rdl, List.getD_eq_getElem?_getD, List.getElem?_eq_getElem hj]] at this
   omega) (by omega) (by rw [atV_len]; omega)
  rw [versionV_of h i hi _ hin hri, tver_one i hi _ hf.1] at hv
  rw [List.take_of_length_le (by omega)]
  have hle := teachN_ge c c.length i hi
  refine Ev.step (fun kk => laws_FnTeaching.l2.eq_2 ..) (evn (by omega) (evb hv (evp rfl (evb (vInts _ _ (by simp)) (evp (by simp) ?_)))))
  refine Ev.step (fun kk => laws_FnTeaching.j5.eq_2 ..) (evn (by simp; omega) ?_)
  exact ft_l3 h i hi (teachV c i).length 0 (by omega)
 | succ d ih =>
  intro k hk
  have hnx := ih (k + 1) (by omega)
  have hkm := hin _ (List.getElem_mem (show k < (teachV c i).length by omega))
  have hg : (teachV c i).getD k 0 = (teachV c i)[k] := by rw [List.getD_eq_getElem?_getD, List.getElem?_eq_getElem (show k < (teachV c i).length by omega)]; rfl
  have hci := (hc8 i hi).1
  have et : atV (rdl c i) ((teachV c i).take (k + 1)) = atV (rdl c i) ((teachV c i).take k) ++ [(rdl c i).getD ((teachV c i)[k]).toNat 0] := by
   unfold atV
   rw [List.take_succ_eq_append_getElem (by omega), List.map_append]; rfl
  have hal : (atV (rdl c i) ((teachV c i).take k)).length ≤ 8 := by rw [atV_len, List.length_take]; omega
  refine Ev.step (fun kk => laws_FnTeaching.l2.eq_2 ..) (evp (by omega) (evp (by omega) (evp (by omega) (evp (by omega) ?_))))
  rw [rd_nat, hg, er]
  refine evp (by omega) (evp (by omega) (evp (by omega) ?_))
  rw [w64s k (by omega)]
  rw [et] at hnx
  have erd : rd (rdl c i) (teachV c i)[k] = (rdl c i).getD ((teachV c i)[k]).toNat 0 := by
   obtain ⟨n, hn⟩ := Int.eq_ofNat_of_zero_le hkm.1
   rw [hn, rd_nat, Int.toNat_natCast]
  rw [erd]; exact hnx
theorem ft_l1 (c : List (List Int)) (s y : List Int) (h : csetB c s = true) (hy : y.length = s.length) (hs : s.length ≤ 1048576) (j : Nat) (hj : j < c.length) (x3 : List (List Int)) (x4 : Int) (x5 : List Int) (x6 : Bool) (x9 : Int) (x10 : Bool)
  (hK : Ev (fun kk => laws_FnTeaching.l0 kk x3 x4 x5 x6 x9 x10 c s y (versV c s y c.length) true ((j + 1 : Nat) : Int)) true) :
  ∀ d k (b : Bool), k + d = s.length → (b = decide (atV (rdl c j) (s.take k) = y.take k)) → Ev (fun kk => laws_FnTeaching.l1 kk x3 x4 x5 x6 x9 x10 c s y (versV c s y c.length) true (j : Int) b (k : Int)) true := by
 have hcs := csetB_in h
 have er : rd_L2 c (j : Int) = rdl c j := rdL_nat' c j
 have hvl := versV_len c s y c.length
 intro d
 induction d with
 | zero =>
  intro k b hk hb
  rw [List.take_of_length_le (by omega), List.take_of_length_le (by omega)] at hb
  have hm : decide ((j : Int) ∈ versV c s y c.length) = b := by
   rw [hb]
   apply decide_eq_decide.2
   unfold versV
   constructor
   ·
    intro hmem
    obtain ⟨n, hn, he⟩ := List.mem_map.1 hmem
    have hn2 := List.mem_filter.1 hn
    obtain rfl : n = j := by omega
    simpa [vers1] using hn2.2
   ·
    intro he
    exact List.mem_map.2 ⟨j, List.mem_filter.2 ⟨List.mem_range.2 hj, by simpa [vers1] using he⟩, rfl⟩
  refine Ev.step (fun kk => laws_FnTeaching.l1.eq_2 ..) (evn (by omega) (evb (vHas _ _ (by omega)) (evn (by rw [hm]; simp) ?_)))
  rw [w64s j (by omega)]; exact hK
 | succ d ih =>
  intro k b hk hb
  have hm := hcs.2 j hj _ (List.getElem_mem (show k < s.length by omega))
  have hg : s.getD k 0 = s[k] := by rw [List.getD_eq_getElem?_getD, List.getElem?_eq_getElem (show k < s.length by omega)]; rfl
  have hgy : y.getD k 0 = y[k] := by rw [List.getD_eq_getElem?_getD, List.getElem?_eq_getElem (show k < y.length by omega)]; rfl
  obtain ⟨n, hn⟩ := Int.eq_ofNat_of_zero_le hm.1
  have key : (atV (rdl c j) (s.take (k + 1)) = y.take (k + 1)) ↔ (atV (rdl c j) (s.take k) = y.take k ∧ (rdl c j).getD n 0 = y[k]) := by
   rw [List.take_succ_eq_append_getElem (by omega), List.take_succ_eq_append_getElem (by omega)]
   unfold atV
   rw [List.map_append, List.map_cons, List.map_nil, hn, Int.toNat_natCast]
   constructor
   ·
    intro he
    have h1 := List.append_inj he (by simp; omega)
    exact ⟨h1.1, by simpa using h1.2⟩
   ·
    rintro ⟨h1, h2⟩
    rw [h1, h2]
  refine Ev.step (fun kk => laws_FnTeaching.l1.eq_2 ..) (evp (by omega) ?_)
  rw [w64s k (by omega)]
  by_cases e : b = true
  ·
   refine evp e (evp (by omega) (evp (by omega) (evp (by omega) ?_)))
   rw [rd_nat, hg, er, hn]
   rw [hn] at hm
   refine evp (by omega) (evp (by omega) (evp (by omega) ?_))
   rw [rd_nat, rd_nat, hgy]
   refine ih (k + 1) _ (by omega) ?_
   rw [e] at hb
   have hb2 : atV (rdl c j) (s.take k) = y.take k := of_decide_eq_true hb.symm
   rw [Bool.eq_iff_iff, beq_iff_eq, decide_eq_true_eq, key]
   exact ⟨fun h => ⟨hb2, h⟩, fun h => h.2⟩
  ·
   refine evn e (ih (k + 1) false (by omega) ?_)
   have hb2 : ¬ atV (rdl c j) (s.take k) = y.take k := of_decide_eq_false (by rw [← hb]; exact Bool.eq_false_iff.2 e)
   exact (decide_eq_false (fun h => hb2 (key.1 h).1)).symm
theorem ft_l0 (c : List (List Int)) (s y : List Int) (h : csetB c s = true) (hy : y.length = s.length) (hs : s.length ≤ 1048576) (x3 : List (List Int)) (x4 : Int) (x5 : List Int) (x6 : Bool) (x9 : Int) (x10 : Bool)
  (hE : x6 = false ∨ Ev (fun kk => laws_FnTeaching.l2 kk x3 x4 x5 x9 x10 [] 0) true) : ∀ d j, j + d = c.length → Ev (fun kk => laws_FnTeaching.l0 kk x3 x4 x5 x6 x9 x10 c s y (versV c s y c.length) true (j : Int)) true := by
 have hc := (csetB_in h).1
 intro d
 induction d with
 | zero =>
  intro j hj
  refine Ev.step (fun kk => laws_FnTeaching.l0.eq_2 ..) (evp rfl (Ev.step (fun kk => laws_FnTeaching.j2.eq_2 ..) (evn (by rw [decide_eq_true_eq]; omega) ?_)))
  rcases hE with hE | hE
  ·
   exact evn (by rw [hE]; simp) (evs rfl)
  ·
   by_cases e : x6 = true
   ·
    exact evp e hE
   ·
    exact evn e (evs rfl)
 | succ d ih =>
  intro j hj
  refine Ev.step (fun kk => laws_FnTeaching.l0.eq_2 ..) (evp rfl (Ev.step (fun kk => laws_FnTeaching.j2.eq_2 ..) (evp (by rw [decide_eq_true_eq]; omega) ?_)))
  exact ft_l1 c s y h hy hs j (by omega) x3 x4 x5 x6 x9 x10 (ih (j + 1) (by omega)) s.length 0 true (by omega) (by simp [atV])
theorem law (l0 : List Int) (hb : ∀ x ∈ l0, (Lit.int .u8 x).wf = true) : Ev (fun k => laws_FnTeaching.f k l0) true := by
 unfold laws_FnTeaching.f laws_vBig.f
 simp only [Option.bind_some]
 by_cases c0 : (l0.length : Int) > 65536
 ·
  exact evp (decide_eq_true c0) (evs rfl)
 have hl := cur_ok l0 (by omega) hb
 refine evn (by simpa using c0) ?_
 obtain ⟨⟨c, i⟩, hd, hcl, hcr⟩ := dTeach hl
 obtain ⟨cut, ec, hcut⟩ := vCut1 hl
 obtain ⟨⟨o, s, y⟩, hd2, hol, hor, hsl, hyl⟩ := dVersion hcut
 simp only at hcl hcr hol hor hsl hyl
 have hr1 : ∀ r ∈ c, (r.length : Int) ≤ 1048576 := fun r hr => by have := hcr r hr; omega
 have hr2 : ∀ r ∈ o, (r.length : Int) ≤ 1048576 := fun r hr => by have := hor r hr; omega
 have i1 := iTeachSet c i (by omega) hr1
 have s1 := sTeachSet c i (by omega) hr1
 have i2 := iTeachNum c (by omega) hr1
 have s2 := sTeachNum c (by omega) hr1
 have i3 := iVersionOf o s y (by omega) hr2 (by omega) (by omega)
 have s3 := sVersion o s y (by omega) hr2 (by omega) (by omega)
 have l1 := teachSet_len c i
 have l2 := versionV_len o s y
 have hE : (teachSet c i).2 = false ∨ Ev (fun kk => laws_FnTeaching.l2 kk c i (teachSet c i).1 (teachNum c).1 (teachNum c).2 [] 0) true := by
  unfold teachSet teachNum
  by_cases e : classB c = true ∧ 0 ≤ i ∧ i < c.length
  ·
   rw [if_pos e, if_pos e.1]
   right
   obtain ⟨n, rfl⟩ := Int.eq_ofNat_of_zero_le e.2.1
   rw [Int.toNat_natCast]
   have := ft_l2 e.1 n (by omega) (teachV c n).length 0 (by omega)
   simpa [atV] using this
  ·
   rw [if_neg e]; exact .inl rfl
 have hL : Ev (fun kk => laws_FnTeaching.l0 kk c i (teachSet c i).1 (teachSet c i).2 (teachNum c).1 (teachNum c).2 o s y (versionV o s y).1 (versionV o s y).2 0) true := by
  unfold versionV
  by_cases e : csetB o s = true ∧ y.length = s.length ∧ labB y = true
  ·
   rw [if_pos e]
   exact ft_l0 o s y e.1 e.2.1 (by omega) c i _ _ _ _ hE o.length 0 (by omega)
  ·
   rw [if_neg e]
   refine Ev.step (fun kk => laws_FnTeaching.l0.eq_2 ..) (evn (by simp) (Ev.step (fun kk => laws_FnTeaching.j2.eq_2 ..) (evn (by simp) ?_)))
   rcases hE with hE | hE
   ·
    exact evn (by rw [hE]; simp) (evs rfl)
   ·
    by_cases e : (teachSet c i).2 = true
    ·
     exact evp e hE
    ·
     exact evn e (evs rfl)
 refine evb hd (evb i1 (evb s1 (evb i2 (evb s2 (evb (evc ec) (evb hd2 (evb i3 (evb s3 (evn (by simp) (evb (vInts _ _ (by omega)) (evp (by simp) (evp rfl (evn (by simp) (evn (by simp) (evb (vInts _ _ (by omega)) ?_)))))))))))))))
 exact Ev.step (fun kk => laws_FnTeaching.j0.eq_2 ..) (evn (by simp) hL)
end Go.Proofs.Ytlbleemoiabmdaa.LFnTeaching
