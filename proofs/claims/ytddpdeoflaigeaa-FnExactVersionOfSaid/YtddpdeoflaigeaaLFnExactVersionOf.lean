/- Own lemmas: what the printed functions of one law come to. -/
import Derived.Test.YtddpdeoflaigeaaMFnExactVersionOfx7
import Derived.Test.YtddpdeoflaigeaaBase
namespace Go.Proofs.Ytddpdeoflaigeaa.LFnExactVersionOf
open Go Go.RowKit Go.Proofs.Ytddpdeoflaigeaa.Base Go.Proofs.Ytddpdeoflaigeaa.PFnExactVersionOf Go.Proofs.YtddpdeoflaigeaaW.PrintWords Go.Proofs.YtddpdeoflaigeaaW.PrintLast Go.Proofs.YtddpdeoflaigeaaW.PrintMore
set_option linter.unusedVariables false
set_option linter.unusedSimpArgs false
set_option maxRecDepth 4000

/-! ### laws_toIntS -/
theorem toIntS_l0 (x0 : List Int) (hx : x0.length < 4611686018427387904) : ∀ (d i : Nat) (x3 : List Int), i + d = x0.length → x3.length = x0.length →
    Ev (fun k => laws_toIntS.l0 k x0 x3 (i : Int)) (x3.take i ++ x0.drop i) := by
  intro d
  induction d with
  | zero =>
    intro i x3 hi hl
    refine Ev.step (fun k => laws_toIntS.l0.eq_2 ..) (evn (by omega) (evs ?_))
    simp [List.take_of_length_le (show x3.length ≤ i by omega), List.drop_of_length_le (show x0.length ≤ i by omega)]
  | succ d ih =>
    intro i x3 hi hl
    refine Ev.step (fun k => laws_toIntS.l0.eq_2 ..) (evp (by omega) (evp (by omega) (evp (by omega) ?_)))
    rw [w64s i (by omega), rd_nat]
    refine evr (ih (i + 1) _ (by omega) (by simpa using hl)) ?_
    rw [Int.toNat_natCast, set_take _ _ _ (by omega), List.drop_eq_getElem_cons (show i < x0.length by omega), List.append_assoc]
    simp [List.getD_eq_getElem?_getD, List.getElem?_eq_getElem (show i < x0.length by omega)]
theorem toIntS (l : List Int) (h : l.length ≤ 35184372088832) : Ev (fun k => laws_toIntS.f k l) l := by
  unfold laws_toIntS.f
  refine evp (by omega) (evp (by simpa using h) ?_)
  refine evr (toIntS_l0 l (by omega) l.length 0 _ (by omega) (by simp)) (by simp)

/-! ### laws_eqIntS -/
theorem eqIntS_l0 (a b : List Int) (hl : a.length = b.length) (hx : a.length < 4611686018427387904) : ∀ (d i : Nat), i + d = a.length →
    Ev (fun k => laws_eqIntS.l0 k a b (i : Int)) (decide (a.drop i = b.drop i)) := by
  intro d
  induction d with
  | zero =>
    intro i hi
    refine Ev.step (fun k => laws_eqIntS.l0.eq_2 ..) (evn (by omega) (evs ?_))
    simp [List.drop_of_length_le (show a.length ≤ i by omega), List.drop_of_length_le (show b.length ≤ i by omega)]
  | succ d ih =>
    intro i hi
    refine Ev.step (fun k => laws_eqIntS.l0.eq_2 ..) (evp (by omega) (evp (by omega) (evp (by omega) ?_)))
    rw [w64s i (by omega), rd_nat, rd_nat]
    have ea := List.drop_eq_getElem_cons (show i < a.length by omega)
    have eb := List.drop_eq_getElem_cons (show i < b.length by omega)
    simp only [List.getD_eq_getElem?_getD, List.getElem?_eq_getElem (show i < a.length by omega), List.getElem?_eq_getElem (show i < b.length by omega), Option.getD_some]
    by_cases e : a[i] = b[i]
    · refine evp e (evr (ih (i + 1) (by omega)) ?_)
      rw [ea, eb, e]; simp only [List.cons.injEq, true_and]
    · refine evn e (evs ?_)
      rw [ea, eb]; simp only [List.cons.injEq, e, false_and, decide_false]
theorem eqIntS (a b : List Int) (hx : a.length < 4611686018427387904) : Ev (fun k => laws_eqIntS.f k a b) (decide (a = b)) := by
  unfold laws_eqIntS.f
  by_cases h : a.length = b.length
  · refine evp (by omega) (evr (eqIntS_l0 a b h hx a.length 0 (by omega)) (by simp))
  · refine evn (by omega) (evs ?_)
    have : a ≠ b := fun e => h (by rw [e])
    simp [this]

/-! ### laws_markIntS -/
theorem markIntS_l0 (d : Nat) : ∀ (x0 : List Int) (m : Int) (i : Nat), i + d = x0.length → x0.length < 4611686018427387904 → 0 ≤ m → m + d < 4611686018427387904 →
    Ev (fun k => laws_markIntS.l0 k x0 m (i : Int)) (m + d, x0.take i ++ (List.range d).map fun j : Nat => m + (j : Int)) := by
  induction d with
  | zero =>
    intro x0 m i hi hx h0 hm
    refine Ev.step (fun k => laws_markIntS.l0.eq_2 ..) (evn (by omega) (evs ?_))
    simp [List.take_of_length_le (show x0.length ≤ i by omega)]
  | succ d ih =>
    intro x0 m i hi hx h0 hm
    refine Ev.step (fun k => laws_markIntS.l0.eq_2 ..) (evp (by omega) (evp (by omega) ?_))
    rw [w64s i (by omega), w64 (x := m + 1) (by omega) (by omega)]
    refine evr (ih _ _ (i + 1) (by simp; omega) (by simpa using hx) (by omega) (by omega)) ?_
    rw [Int.toNat_natCast, set_take _ _ _ (by omega), List.append_assoc, List.range_succ_eq_map]
    simp only [List.map_cons, List.map_map, Prod.mk.injEq]
    refine ⟨by push_cast; omega, ?_⟩
    congr 1
    simp only [List.cons_append, List.nil_append, List.cons.injEq]
    refine ⟨by simp, List.map_congr_left fun j _ => by simp; omega⟩
theorem markIntS (l : List Int) (m : Int) (h0 : 0 ≤ m) (h : m + l.length < 4611686018427387904) : Ev (fun k => laws_markIntS.f k l m) (m + l.length, marks l m) := by
  unfold laws_markIntS.f
  exact evr (markIntS_l0 l.length l m 0 (by omega) (by omega) h0 h) (by simp [marks])

/-! ### laws_heldIntS -/
theorem heldIntS_l0 (l : List Int) (m : Int) (h0 : 0 ≤ m) (hm : m + l.length < 4611686018427387904) (hv : ∀ i, i < l.length → l.getD i 0 = m + i) : ∀ (d i : Nat), i + d = l.length →
    Ev (fun k => laws_heldIntS.l0 k l (m + (i : Int)) (i : Int)) (m + l.length) := by
  intro d
  induction d with
  | zero =>
    intro i hi
    refine Ev.step (fun k => laws_heldIntS.l0.eq_2 ..) (evn (by omega) (evs ?_))
    omega
  | succ d ih =>
    intro i hi
    refine Ev.step (fun k => laws_heldIntS.l0.eq_2 ..) (evp (by omega) (evp (by omega) ?_))
    rw [w64s i (by omega), w64 (x := m + i + 1) (by omega) (by omega), rd_nat]
    refine evp (hv i (by omega)) ?_
    have := ih (i + 1) (by omega)
    rw [show m + ((i + 1 : Nat) : Int) = m + i + 1 by omega] at this
    exact this
theorem heldIntS (l : List Int) (m : Int) (h0 : 0 ≤ m) (hm : m + l.length < 4611686018427387904) : Ev (fun k => laws_heldIntS.f k (marks l m) m) (m + l.length) := by
  unfold laws_heldIntS.f
  have h := heldIntS_l0 (marks l m) m h0 (by rw [marks_length]; exact hm) (fun i hi => marks_at l m i (by rwa [marks_length] at hi)) l.length 0 (by rw [marks_length]; omega)
  rw [marks_length] at h
  simpa using h

/-! ### spec_l1In -/
theorem l1In (a b c : Int) : spec_l1In.f a b c = some (decide (b ≤ a ∧ a ≤ c)) := by
  unfold spec_l1In.f; split <;> simp_all <;> omega

/-! ### impl_within -/
theorem within (a b c : Int) : impl_within.f a b c = some (decide (b ≤ a ∧ a ≤ c)) := by
  unfold impl_within.f; split <;> simp_all <;> omega

/-! ### impl_allWithin -/
theorem allWithin_l0 (lo up : Int) (l : List Int) (hx : l.length < 4611686018427387904) : ∀ (d i : Nat), i + d = l.length →
    Ev (fun k => impl_allWithin.l0 k lo up l (l.length : Int) (i : Int)) ((l.drop i).all fun x => decide (lo ≤ x ∧ x ≤ up)) := by
  intro d
  induction d with
  | zero =>
    intro i hi
    refine Ev.step (fun k => impl_allWithin.l0.eq_2 ..) (evn (by omega) (evs ?_))
    simp [List.drop_of_length_le (show l.length ≤ i by omega)]
  | succ d ih =>
    intro i hi
    refine Ev.step (fun k => impl_allWithin.l0.eq_2 ..) (evp (by omega) (evp (by omega) (evp (by omega) ?_)))
    rw [w64s i (by omega), rd_nat, within, List.drop_eq_getElem_cons (show i < l.length by omega)]
    simp only [List.getD_eq_getElem?_getD, List.getElem?_eq_getElem (show i < l.length by omega), Option.getD_some, Option.bind_some, List.all_cons]
    by_cases e : lo ≤ l[i] ∧ l[i] ≤ up
    · refine evp (by simpa using e) (evr (ih (i + 1) (by omega)) (by simp [e]))
    · refine evn (by simpa using e) (evs (by simp [e]))
theorem allWithin (l : List Int) (lo up : Int) (hx : l.length < 4611686018427387904) : Ev (fun k => impl_allWithin.f k l lo up) (l.all fun x => decide (lo ≤ x ∧ x ≤ up)) := by
  unfold impl_allWithin.f
  exact allWithin_l0 lo up l hx l.length 0 (by omega)

/-! ### laws_szIntS -/
theorem szIntS (l : List Int) (m : Int) (h0 : 0 ≤ m) (hm : m ≤ 1048576) (hl : l.length ≤ maxLen) : laws_szIntS.f l m = some (if (l.length : Int) ≤ m then m - l.length else -1) := by
  unfold maxLen at hl
  unfold laws_szIntS.f
  rw [w64 (x := m - (l.length : Int)) (by omega) (by omega)]
  by_cases h : (l.length : Int) ≤ m
  · rw [if_neg (by omega), if_pos h]
  · rw [if_pos (by omega), if_neg h]

/-! ### spec_l1Rising -/
theorem l1Rising_l0 (l : List Int) (lo hi : Int) (hl : l.length < 4611686018427387904) : ∀ (d i : Nat), i + d = l.length →
    Ev (fun k => spec_l1Rising.l0 k l lo hi (i : Int)) (inB lo hi (l.drop i) && riseB (l.drop (i - 1))) := by
  intro d
  induction d with
  | zero =>
    intro i hi'
    refine Ev.step (fun k => spec_l1Rising.l0.eq_2 ..) (evn (by omega) (evs ?_))
    rw [riseB_end l (i - 1) (by omega), List.drop_of_length_le (show l.length ≤ i by omega)]; rfl
  | succ d ih =>
    intro i hi'
    refine Ev.step (fun k => spec_l1Rising.l0.eq_2 ..) (evp (by omega) (evp (by omega) ?_))
    rw [rd_nat, l1In, w64s i (by omega)]; simp only [Option.bind_some]
    have hd := List.drop_eq_getElem_cons (show i < l.length by omega)
    have hg : l.getD i 0 = l[i] := by simp [List.getD_eq_getElem?_getD, List.getElem?_eq_getElem (show i < l.length by omega)]
    by_cases e : lo ≤ l.getD i 0 ∧ l.getD i 0 ≤ hi
    · refine evp (by simpa using e) ?_
      have hin : inB lo hi (l.drop i) = inB lo hi (l.drop (i + 1)) := by rw [hd]; simp only [inB, List.all_cons]; rw [← hg, decide_eq_true e, Bool.true_and]
      by_cases e0 : 0 < i
      · refine evp (by omega) ?_
        rw [w64 (x := (i : Int) - 1) (by omega) (by omega), show (i : Int) - 1 = ((i - 1 : Nat) : Int) by omega, rd_nat]
        refine evp (by omega) (evp (by omega) ?_)
        have hs := riseB_step l (i - 1) (by omega)
        rw [show i - 1 + 1 = i by omega] at hs
        by_cases e1 : l.getD (i - 1) 0 ≥ l.getD i 0
        · refine evp e1 (evs ?_)
          rw [hs, decide_eq_false (by omega)]; simp
        · refine evn e1 (evr (ih (i + 1) (by omega)) ?_)
          rw [hin, hs, decide_eq_true (show l.getD (i - 1) 0 < l.getD i 0 by omega)]; simp
      · refine evn (by omega) (evr (ih (i + 1) (by omega)) ?_)
        obtain rfl : i = 0 := by omega
        rw [hin]
    · refine evn (by simpa using e) (evs ?_)
      rw [hd]; simp only [inB, List.all_cons]; rw [← hg, decide_eq_false e]; simp
theorem l1Rising (l : List Int) (lo hi : Int) (hl : l.length < 4611686018427387904) : Ev (fun k => spec_l1Rising.f k l lo hi) (inB lo hi l && riseB l) := by
  unfold spec_l1Rising.f
  exact evr (l1Rising_l0 l lo hi hl l.length 0 (by omega)) (by simp)

/-! ### impl_rising -/
theorem rising_l0 (l : List Int) (hl : l.length < 4611686018427387904) : ∀ (d i : Nat), i + d = l.length → 1 ≤ i →
    Ev (fun k => impl_rising.l0 k l (i : Int)) (riseB (l.drop (i - 1))) := by
  intro d
  induction d with
  | zero =>
    intro i hi' h1
    refine Ev.step (fun k => impl_rising.l0.eq_2 ..) (evn (by omega) (evs ?_))
    rw [riseB_end l (i - 1) (by omega)]
  | succ d ih =>
    intro i hi' h1
    refine Ev.step (fun k => impl_rising.l0.eq_2 ..) (evp (by omega) ?_)
    rw [rd_nat, w64s i (by omega), w64 (x := (i : Int) - 1) (by omega) (by omega), show (i : Int) - 1 = ((i - 1 : Nat) : Int) by omega, rd_nat]
    refine evp (by omega) (evp (by omega) (evp (by omega) ?_))
    have hs := riseB_step l (i - 1) (by omega)
    rw [show i - 1 + 1 = i by omega] at hs
    by_cases e1 : l.getD (i - 1) 0 ≥ l.getD i 0
    · refine evp e1 (evs ?_)
      rw [hs, decide_eq_false (by omega)]; simp
    · refine evn e1 (evr (ih (i + 1) (by omega) (by omega)) ?_)
      rw [hs, decide_eq_true (show l.getD (i - 1) 0 < l.getD i 0 by omega)]; simp
theorem rising (l : List Int) (hl : l.length < 4611686018427387904) : Ev (fun k => impl_rising.f k l) (riseB l) := by
  unfold impl_rising.f
  by_cases h : l.length = 0
  · refine Ev.step (fun k => impl_rising.l0.eq_2 ..) (evn (by omega) (evs ?_))
    rw [List.eq_nil_of_length_eq_zero h]; rfl
  · exact evr (rising_l0 l hl (l.length - 1) 1 (by omega) (by omega)) (by simp)

/-! ### impl_isSet -/
theorem isSet (l : List Int) (n : Int) (hn : 0 ≤ n ∧ n ≤ 1000000) (hl : l.length < 4611686018427387904) : Ev (fun k => impl_isSet.f k l n) (setB n l) := by
  unfold impl_isSet.f setB
  refine evb (rising l hl) ?_
  rw [w64 (x := n - 1) (by omega) (by omega)]
  by_cases e : riseB l = true
  · refine evp e (evb (allWithin l 0 (n - 1) hl) (evs ?_))
    rw [e, Bool.and_true]; rfl
  · exact evn e (evs (by simp [e]))

/-! ### laws_szIntSS laws_szIntS -/
theorem rdL_nat (l : List (List Int)) (i : Nat) : rd_L1 l (i : Int) = rdl l i := by simp [rd_L1, rdl]
theorem szIntSS_l0 (l : List (List Int)) (hl : l.length ≤ 1048576) (hr : ∀ r ∈ l, r.length ≤ maxLen) : ∀ (d i : Nat) (m : Int), i + d = l.length → 0 ≤ m → m ≤ 1048576 →
    Ev (fun k => laws_szIntSS.l0 k l m (i : Int)) (rowsz (l.drop i) m) := by
  intro d
  induction d with
  | zero =>
    intro i m hi h0 hm
    exact Ev.step (fun k => laws_szIntSS.l0.eq_2 ..) (evn (by omega) (evs (by rw [List.drop_of_length_le (show l.length ≤ i by omega)]; rfl)))
  | succ d ih =>
    intro i m hi h0 hm
    refine Ev.step (fun k => laws_szIntSS.l0.eq_2 ..) (evp (by omega) (evp (by omega) ?_))
    rw [rdL_nat, szIntS _ m h0 hm (hr _ (rdl_mem l i (by omega))), w64s i (by omega), rdl_drop l i (by omega)]
    simp only [Option.bind_some, rowsz]
    by_cases e : ((rdl l i).length : Int) ≤ m
    · rw [if_pos e, if_pos e]
      exact evn (by omega) (ih (i + 1) _ (by omega) (by omega) (by omega))
    · rw [if_neg e, if_neg e]
      exact evp (by omega) (evs rfl)
theorem szIntSS (l : List (List Int)) (m : Int) (h0 : 0 ≤ m) (hm : m ≤ 1048576) (hl : l.length ≤ maxLen) (hr : ∀ r ∈ l, r.length ≤ maxLen) : Ev (fun k => laws_szIntSS.f k l m) (szv l m) := by
  unfold maxLen at hl
  unfold laws_szIntSS.f szv
  rw [w64 (x := m - (l.length : Int)) (by omega) (by omega)]
  by_cases e : (l.length : Int) ≤ m
  · rw [if_pos e]
    exact evn (by omega) (evr (szIntSS_l0 l (by omega) hr l.length 0 _ (by omega) (by omega) (by omega)) (by simp))
  · rw [if_neg e]; exact evp (by omega) (evs rfl)

/-! ### laws_toIntSS laws_toIntS laws_szIntSS -/
theorem toIntSS_l0 (x0 : List (List Int)) (hx : x0.length ≤ 1048576) (hr : ∀ r ∈ x0, (r.length : Int) ≤ 1048576) : ∀ (d i : Nat) (x3 : List (List Int)), i + d = x0.length → x3.length = x0.length →
    Ev (fun k => laws_toIntSS.l0 k x0 x3 (i : Int)) (x3.take i ++ x0.drop i) := by
  intro d
  induction d with
  | zero =>
    intro i x3 hi hl
    refine Ev.step (fun k => laws_toIntSS.l0.eq_2 ..) (evn (by omega) (evs ?_))
    simp [List.take_of_length_le (show x3.length ≤ i by omega), List.drop_of_length_le (show x0.length ≤ i by omega)]
  | succ d ih =>
    intro i x3 hi hl
    have := hr _ (rdl_mem x0 i (by omega))
    refine Ev.step (fun k => laws_toIntSS.l0.eq_2 ..) (evp (by omega) (evp (by omega) ?_))
    rw [w64s i (by omega), rdL_nat]
    refine evb (toIntS _ (by omega)) (evp (by omega) ?_)
    refine evr (ih (i + 1) _ (by omega) (by simpa using hl)) ?_
    rw [Int.toNat_natCast, setl_take _ _ _ (by omega), rdl_drop x0 i (by omega), List.append_assoc]; rfl
theorem toIntSS (l : List (List Int)) (h : l.length ≤ 1048576) (hr : ∀ r ∈ l, (r.length : Int) ≤ 1048576) : Ev (fun k => laws_toIntSS.f k l) l := by
  unfold laws_toIntSS.f
  refine evp (by omega) (evp (by omega) ?_)
  refine evr (toIntSS_l0 l (by omega) hr l.length 0 _ (by omega) (by simp)) (by simp)

/-! ### laws_eqIntSS laws_eqIntS laws_szIntSS -/
theorem eqIntSS_l0 (a b : List (List Int)) (hl : a.length = b.length) (hx : a.length ≤ 1048576) (hr : ∀ r ∈ a, (r.length : Int) ≤ 1048576) : ∀ (d i : Nat), i + d = a.length →
    Ev (fun k => laws_eqIntSS.l0 k a b (i : Int)) (decide (a.drop i = b.drop i)) := by
  intro d
  induction d with
  | zero =>
    intro i hi
    refine Ev.step (fun k => laws_eqIntSS.l0.eq_2 ..) (evn (by omega) (evs ?_))
    simp [List.drop_of_length_le (show a.length ≤ i by omega), List.drop_of_length_le (show b.length ≤ i by omega)]
  | succ d ih =>
    intro i hi
    have := hr _ (rdl_mem a i (by omega))
    refine Ev.step (fun k => laws_eqIntSS.l0.eq_2 ..) (evp (by omega) (evp (by omega) (evp (by omega) ?_)))
    rw [w64s i (by omega), rdL_nat, rdL_nat]
    refine evb (eqIntS _ _ (by omega)) ?_
    rw [rdl_drop a i (by omega), rdl_drop b i (by omega)]
    by_cases e : rdl a i = rdl b i
    · refine evp (by simpa using e) (evr (ih (i + 1) (by omega)) ?_)
      rw [e]; simp only [List.cons.injEq, true_and]
    · refine evn (by simpa using e) (evs ?_)
      simp only [List.cons.injEq, e, false_and, decide_false]
theorem eqIntSS (a b : List (List Int)) (hx : a.length ≤ 1048576) (hr : ∀ r ∈ a, (r.length : Int) ≤ 1048576) : Ev (fun k => laws_eqIntSS.f k a b) (decide (a = b)) := by
  unfold laws_eqIntSS.f
  by_cases h : a.length = b.length
  · refine evp (by omega) (evr (eqIntSS_l0 a b h hx hr a.length 0 (by omega)) (by simp))
  · refine evn (by omega) (evs ?_)
    have : a ≠ b := fun e => h (by rw [e])
    simp [this]

/-! ### spec_l2Labels -/
theorem l2Labels_l0 (l : List Int) (hx : l.length < 4611686018427387904) : ∀ (d i : Nat), i + d = l.length →
    Ev (fun k => spec_l2Labels.l0 k l (i : Int)) (labB (l.drop i)) := by
  intro d
  induction d with
  | zero =>
    intro i hi
    exact Ev.step (fun k => spec_l2Labels.l0.eq_2 ..) (evn (by omega) (evs (by rw [List.drop_of_length_le (show l.length ≤ i by omega)]; rfl)))
  | succ d ih =>
    intro i hi
    refine Ev.step (fun k => spec_l2Labels.l0.eq_2 ..) (evp (by omega) (evp (by omega) ?_))
    rw [w64s i (by omega), rd_nat, List.drop_eq_getElem_cons (show i < l.length by omega)]
    simp only [List.getD_eq_getElem?_getD, List.getElem?_eq_getElem (show i < l.length by omega), Option.getD_some, labB, List.all_cons]
    by_cases e : l[i] = 1
    · exact evp e (evr (ih (i + 1) (by omega)) (by rw [decide_eq_true (.inl e)]; rfl))
    · refine evn e ?_
      by_cases e' : l[i] = -1
      · exact evp e' (evr (ih (i + 1) (by omega)) (by rw [decide_eq_true (.inr e')]; rfl))
      · exact evn e' (evs (by rw [decide_eq_false (fun h => h.elim e e')]; rfl))
theorem l2Labels (l : List Int) (hx : l.length < 4611686018427387904) : Ev (fun k => spec_l2Labels.f k l) (labB l) := by
  unfold spec_l2Labels.f
  exact l2Labels_l0 l hx l.length 0 (by omega)

/-! ### impl_isLabel -/
theorem isLabel (x : Int) : impl_isLabel.f x = some (decide (x = 1 ∨ x = -1)) := by
  unfold impl_isLabel.f
  by_cases e : x = 1
  · rw [if_pos e, decide_eq_true (.inl e)]
  · rw [if_neg e]; congr 1; rw [Bool.eq_iff_iff]; simp [e]

/-! ### impl_areLabels -/
theorem areLabels_l0 (l : List Int) (hx : l.length < 4611686018427387904) : ∀ (d i : Nat), i + d = l.length →
    Ev (fun k => impl_areLabels.l0 k l (l.length : Int) (i : Int)) (labB (l.drop i)) := by
  intro d
  induction d with
  | zero =>
    intro i hi
    exact Ev.step (fun k => impl_areLabels.l0.eq_2 ..) (evn (by omega) (evs (by rw [List.drop_of_length_le (show l.length ≤ i by omega)]; rfl)))
  | succ d ih =>
    intro i hi
    refine Ev.step (fun k => impl_areLabels.l0.eq_2 ..) (evp (by omega) (evp (by omega) (evp (by omega) ?_)))
    rw [w64s i (by omega), rd_nat, isLabel, List.drop_eq_getElem_cons (show i < l.length by omega)]
    simp only [List.getD_eq_getElem?_getD, List.getElem?_eq_getElem (show i < l.length by omega), Option.getD_some, Option.bind_some, labB, List.all_cons]
    by_cases e : l[i] = 1 ∨ l[i] = -1
    · exact evp (by simpa using e) (evr (ih (i + 1) (by omega)) (by rw [decide_eq_true e]; rfl))
    · exact evn (by simpa using e) (evs (by rw [decide_eq_false e]; rfl))
theorem areLabels (l : List Int) (hx : l.length < 4611686018427387904) : Ev (fun k => impl_areLabels.f k l) (labB l) := by
  unfold impl_areLabels.f
  exact areLabels_l0 l hx l.length 0 (by omega)

/-! ### spec_l7Before -/
theorem l7Before_l0 (a b : List Int) (hl : a.length = b.length) (hx : a.length < 4611686018427387904) : ∀ (d i : Nat), i + d = a.length →
    Ev (fun k => spec_l7Before.l0 k a b (i : Int)) (lexB (a.drop i) (b.drop i)) := by
  intro d
  induction d with
  | zero =>
    intro i hi
    exact Ev.step (fun k => spec_l7Before.l0.eq_2 ..) (evn (by omega) (evs (by rw [List.drop_of_length_le (show a.length ≤ i by omega)]; rfl)))
  | succ d ih =>
    intro i hi
    refine Ev.step (fun k => spec_l7Before.l0.eq_2 ..) (evp (by omega) (evp (by omega) (evp (by omega) ?_)))
    rw [w64s i (by omega), rd_nat, rd_nat, List.drop_eq_getElem_cons (show i < a.length by omega), List.drop_eq_getElem_cons (show i < b.length by omega)]
    simp only [List.getD_eq_getElem?_getD, List.getElem?_eq_getElem (show i < a.length by omega), List.getElem?_eq_getElem (show i < b.length by omega), Option.getD_some, lexB]
    by_cases e : a[i] = b[i]
    · exact evp e (evr (ih (i + 1) (by omega)) (by rw [if_pos e]))
    · exact evn e (evs (by rw [if_neg e]))
theorem l7Before (a b : List Int) (hl : a.length = b.length) (hx : a.length < 4611686018427387904) : Ev (fun k => spec_l7Before.f k a b) (lexB a b) := by
  unfold spec_l7Before.f
  exact l7Before_l0 a b hl hx a.length 0 (by omega)

/-! ### cmp_Compare_int -/
theorem compareInt (a b : Int) : cmp_Compare_int.f a b = some (if a < b then -1 else if a > b then 1 else 0) := by
  unfold cmp_Compare_int.f cmp_isNaN_int.f
  simp only [bne_self_eq_false, Option.bind_some, Bool.false_eq_true, if_false]
  split
  · rfl
  · split <;> rfl

/-! ### slices_Compare_int_int cmp_Compare_int -/
theorem compareL_l0 (a b : List Int) (hx : a.length < 4611686018427387904) : ∀ (d i : Nat), i + d = a.length → i ≤ b.length →
    Ev (fun k => slices_Compare_int_int.l0 k a b a (a.length : Int) (i : Int)) (cmpv (a.drop i) (b.drop i)) := by
  intro d
  induction d with
  | zero =>
    intro i hi hb
    refine Ev.step (fun k => slices_Compare_int_int.l0.eq_2 ..) (evn (by omega) ?_)
    rw [List.drop_of_length_le (show a.length ≤ i by omega)]
    by_cases e : a.length < b.length
    · refine evp (by omega) (evs ?_)
      rw [List.drop_eq_getElem_cons (show i < b.length by omega)]; rfl
    · refine evn (by omega) (evs ?_)
      rw [List.drop_of_length_le (show b.length ≤ i by omega)]; rfl
  | succ d ih =>
    intro i hi hb
    refine Ev.step (fun k => slices_Compare_int_int.l0.eq_2 ..) (evp (by omega) (evp (by omega) (evp (by omega) ?_)))
    rw [List.drop_eq_getElem_cons (show i < a.length by omega)]
    by_cases e : i ≥ b.length
    · refine evp (by omega) (evs ?_)
      rw [List.drop_of_length_le (show b.length ≤ i by omega)]; rfl
    · refine evn (by omega) (evp (by omega) ?_)
      rw [rd_nat, rd_nat, compareInt, w64s i (by omega), List.drop_eq_getElem_cons (show i < b.length by omega)]
      simp only [List.getD_eq_getElem?_getD, List.getElem?_eq_getElem (show i < a.length by omega), List.getElem?_eq_getElem (show i < b.length by omega), Option.getD_some, Option.bind_some, cmpv]
      by_cases e1 : a[i] < b[i]
      · rw [if_pos e1]; exact evn (by decide) (evs (by rw [if_pos e1]))
      · rw [if_neg e1]
        by_cases e2 : a[i] > b[i]
        · rw [if_pos e2]; exact evn (by decide) (evs (by rw [if_neg e1, if_pos e2]))
        · rw [if_neg e2]; exact evp rfl (evr (ih (i + 1) (by omega) (by omega)) (by rw [if_neg e1, if_neg e2]))
theorem compareL (a b : List Int) (hx : a.length < 4611686018427387904) : Ev (fun k => slices_Compare_int_int.f k a b) (cmpv a b) := by
  unfold slices_Compare_int_int.f
  exact compareL_l0 a b hx a.length 0 (by omega) (by omega)

/-! ### spec_l7Class -/
theorem rdL_nat' (l : List (List Int)) (i : Nat) : rd_L1 l (i : Int) = rdl l i := by simp [rd_L1, rdl]
theorem l7Class_l0 (l : List (List Int)) (hx : l.length ≤ 1048576) (hr : ∀ r ∈ l, (r.length : Int) ≤ 1048576) : ∀ (d i : Nat), i + d = l.length → (0 < i → (rdl l (i - 1)).length = (rdl l 0).length) →
    Ev (fun k => spec_l7Class.l0 k l (i : Int)) ((List.range' i d).all (rowok l) && decide (1 ≤ l.length ∧ l.length ≤ 256)) := by
  intro d
  induction d with
  | zero =>
    intro i hi _
    refine Ev.step (fun k => spec_l7Class.l0.eq_2 ..) (evn (by omega) (evb (evc (l1In ..)) (evs ?_)))
    rw [show (List.range' i 0).all (rowok l) = true by simp, Bool.true_and]
    exact decide_eq_decide.2 (by omega)
  | succ d ih =>
    intro i hi hp
    have hri := hr _ (rdl_mem l i (by omega))
    have no : rowok l i = false → ((List.range' i (d + 1)).all (rowok l) && decide (1 ≤ l.length ∧ l.length ≤ 256)) = false := by
      intro e; rw [List.range'_succ, List.all_cons, e]; rfl
    refine Ev.step (fun k => spec_l7Class.l0.eq_2 ..) (evp (by omega) (evp (by omega) ?_))
    rw [rdL_nat', show rd_L1 l 0 = rdl l 0 from rdL_nat' l 0]
    by_cases e1 : (rdl l i).length ≤ 8
    · refine evn (by omega) (evp (by omega) ?_)
      by_cases e2 : (rdl l i).length = (rdl l 0).length
      · refine evp (by omega) (evb (l2Labels _ (by omega)) (Ev.step (fun k => spec_l7Class.j1.eq_2 ..) ?_))
        by_cases e3 : labB (rdl l i) = true
        · refine evn (by simp [e3]) ?_
          rw [w64s i (by omega)]
          by_cases e0 : 0 < i
          · refine evp (by omega) ?_
            have hpi := hp e0
            have hrp := hr _ (rdl_mem l (i - 1) (by omega))
            rw [w64 (x := (i : Int) - 1) (by omega) (by omega), show (i : Int) - 1 = ((i - 1 : Nat) : Int) by omega, rdL_nat', rdL_nat']
            refine evp (by omega) (evp (by omega) (evp (by omega) (evp (by omega) (evb (l7Before _ _ (by omega) (by omega)) ?_))))
            by_cases e4 : lexB (rdl l (i - 1)) (rdl l i) = true
            · refine evp e4 (evr (ih (i + 1) (by omega) (fun _ => e2)) ?_)
              rw [List.range'_succ, List.all_cons, show rowok l i = true by unfold rowok; rw [decide_eq_true e1, decide_eq_true e2, e3, e4]; simp]; rfl
            · refine evn e4 (evs (no ?_).symm)
              unfold rowok; rw [Bool.eq_false_iff.2 e4, decide_eq_false (show ¬ i = 0 by omega)]; simp
          · obtain rfl : i = 0 := by omega
            refine evn (by omega) (evr (ih 1 (by omega) (fun _ => rfl)) ?_)
            rw [List.range'_succ, List.all_cons, show rowok l 0 = true by unfold rowok; rw [decide_eq_true e1, decide_eq_true e2, e3]; simp]; rfl
        · refine evp (by simp [e3]) (evs (no ?_).symm)
          unfold rowok; rw [Bool.eq_false_iff.2 e3]; simp
      · refine evn (by omega) (Ev.step (fun k => spec_l7Class.j1.eq_2 ..) (evp rfl (evs (no ?_).symm)))
        unfold rowok; rw [decide_eq_false e2]; simp
    · refine evp (by omega) (Ev.step (fun k => spec_l7Class.j1.eq_2 ..) (evp rfl (evs (no ?_).symm)))
      unfold rowok; rw [decide_eq_false e1]; simp
theorem l7Class (l : List (List Int)) (hx : l.length ≤ 1048576) (hr : ∀ r ∈ l, (r.length : Int) ≤ 1048576) : Ev (fun k => spec_l7Class.f k l) (classB l) := by
  unfold spec_l7Class.f classB
  refine evr (l7Class_l0 l hx hr l.length 0 (by omega) (fun h => by omega)) ?_
  rw [List.range_eq_range', Bool.and_comm]

/-! ### impl_IsClass -/
theorem rdL_nat'' (l : List (List Int)) (i : Nat) : rd_L1 l (i : Int) = rdl l i := by simp [rd_L1, rdl]
theorem iClass_l0 (l : List (List Int)) (hx : l.length ≤ 256) (hr : ∀ r ∈ l, (r.length : Int) ≤ 1048576) (h8 : (rdl l 0).length ≤ 8) : ∀ (d i : Nat), i + d = l.length → (0 < i → (rdl l (i - 1)).length = (rdl l 0).length) →
    Ev (fun k => impl_IsClass.l0 k l l (l.length : Int) (i : Int)) ((List.range' i d).all (rowok l)) := by
  intro d
  induction d with
  | zero =>
    intro i hi _
    exact Ev.step (fun k => impl_IsClass.l0.eq_2 ..) (evn (by omega) (evs (by simp)))
  | succ d ih =>
    intro i hi hp
    have hri := hr _ (rdl_mem l i (by omega))
    have no : rowok l i = false → (List.range' i (d + 1)).all (rowok l) = false := by
      intro e; rw [List.range'_succ, List.all_cons, e]; rfl
    refine Ev.step (fun k => impl_IsClass.l0.eq_2 ..) (evp (by omega) (evp (by omega) (evp (by omega) (evp (by omega) ?_))))
    rw [rdL_nat'', show rd_L1 l 0 = rdl l 0 from rdL_nat'' l 0]
    by_cases e2 : (rdl l i).length = (rdl l 0).length
    · refine evp (by omega) (evb (areLabels _ (by omega)) ?_)
      by_cases e3 : labB (rdl l i) = true
      · refine evp e3 ?_
        rw [w64s i (by omega)]
        by_cases e0 : 0 < i
        · refine evp (by omega) ?_
          have hpi := hp e0
          have hrp := hr _ (rdl_mem l (i - 1) (by omega))
          rw [w64 (x := (i : Int) - 1) (by omega) (by omega), show (i : Int) - 1 = ((i - 1 : Nat) : Int) by omega, rdL_nat'']
          refine evp (by omega) (evp (by omega) (evb (compareL _ _ (by omega)) ?_))
          have hc := cmp_lex (rdl l (i - 1)) (rdl l i) (by omega)
          by_cases e4 : lexB (rdl l (i - 1)) (rdl l i) = true
          · refine evn (fun h => by rw [hc.1 h] at e4; cases e4) (evr (ih (i + 1) (by omega) (fun _ => e2)) ?_)
            rw [List.range'_succ, List.all_cons, show rowok l i = true by unfold rowok; rw [decide_eq_true (show (rdl l i).length ≤ 8 by omega), decide_eq_true e2, e3, e4]; simp]; rfl
          · refine evp (hc.2 (Bool.eq_false_iff.2 e4)) (evs (no ?_).symm)
            unfold rowok; rw [Bool.eq_false_iff.2 e4, decide_eq_false (show ¬ i = 0 by omega)]; simp
        · obtain rfl : i = 0 := by omega
          refine evn (by omega) (evr (ih 1 (by omega) (fun _ => rfl)) ?_)
          rw [List.range'_succ, List.all_cons, show rowok l 0 = true by unfold rowok; rw [decide_eq_true h8, decide_eq_true e2, e3]; simp]; rfl
      · refine evn e3 (evs (no ?_).symm)
        unfold rowok; rw [Bool.eq_false_iff.2 e3]; simp
    · refine evn (by omega) (evs (no ?_).symm)
      unfold rowok; rw [decide_eq_false e2]; simp
theorem iIsClass (l : List (List Int)) (hx : l.length ≤ 1048576) (hr : ∀ r ∈ l, (r.length : Int) ≤ 1048576) : Ev (fun k => impl_IsClass.f k l) (classB l) := by
  unfold impl_IsClass.f classB
  rw [within]; simp only [Option.bind_some]
  by_cases e : 1 ≤ l.length ∧ l.length ≤ 256
  · refine evp (by simp; omega) (evp (by omega) (Ev.step (fun k => impl_IsClass.j0.eq_2 ..) ?_))
    rw [show rd_L1 l 0 = rdl l 0 from rdL_nat'' l 0, decide_eq_true e, Bool.true_and]
    by_cases h8 : (rdl l 0).length ≤ 8
    · refine evn (by simp; omega) (evr (iClass_l0 l e.2 hr h8 l.length 0 (by omega) (fun h => by omega)) ?_)
      rw [List.range_eq_range']
    · refine evp (by simp; omega) (evs ?_)
      obtain ⟨n, hn⟩ : ∃ n, l.length = n + 1 := ⟨l.length - 1, by omega⟩
      rw [hn, List.range_eq_range', List.range'_succ, List.all_cons, show rowok l 0 = false by unfold rowok; rw [decide_eq_false h8]; rfl]; rfl
  · exact evn (by simp; omega) (Ev.step (fun k => impl_IsClass.j0.eq_2 ..) (evp rfl (evs (by rw [decide_eq_false e]; rfl))))

/-! ### laws_markIntSS laws_markIntS -/
theorem markRows : ∀ (l : List (List Int)) (a : Int), 0 ≤ a → (∀ r ∈ l, (r.length : Int) ≤ 1048576) → a + l.length * 1048576 < 4611686018427387904 →
    ∃ v, Ev (fun k => laws_markIntSS.g k l a) v ∧ a ≤ v ∧ v ≤ a + l.length * 1048576 := by
  intro l
  induction l with
  | nil => intro a h0 _ _; exact ⟨a, evs rfl, by omega, by simp⟩
  | cons r l ih =>
    intro a h0 hr hb
    have h1 := hr r (by simp)
    rw [List.length_cons, show ((l.length + 1 : Nat) : Int) = (l.length : Int) + 1 by omega, Int.add_mul] at hb
    obtain ⟨v, e, v0, v1⟩ := ih (a + r.length) (by omega) (fun x hx => hr x (by simp [hx])) (by omega)
    refine ⟨v, evb (markIntS r a (by omega) (by omega)) e, by omega, ?_⟩
    rw [List.length_cons, show ((l.length + 1 : Nat) : Int) = (l.length : Int) + 1 by omega, Int.add_mul]; omega
theorem markIntSS (l : List (List Int)) (a : Int) (h0 : 0 ≤ a) (ha : a ≤ 1048576) (hl : l.length ≤ 1048576) (hr : ∀ r ∈ l, (r.length : Int) ≤ 1048576) : ∃ v, Ev (fun k => laws_markIntSS.f k l a) v ∧ a ≤ v ∧ v ≤ a + 1048576 * 1048576 := by
  obtain ⟨v, e, v0, v1⟩ := markRows l a h0 hr (by omega)
  refine ⟨v, ?_, v0, by omega⟩
  unfold laws_markIntSS.f
  exact evp (by omega) e

/-! ### spec_l7At -/
def atV (h s : List Int) : List Int := s.map fun i => h.getD i.toNat 0
theorem l7At_l0 (h s : List Int) (hs : s.length ≤ 1048576) (hb : ∀ x ∈ s, 0 ≤ x ∧ x < h.length) : ∀ (d i : Nat) (out : List Int), i + d = s.length → out.length = i → Ev (fun k => spec_l7At.l0 k h s out (i : Int)) (out ++ atV h (s.drop i)) := by
  intro d
  induction d with
  | zero =>
    intro i out hi ho
    refine Ev.step (fun k => spec_l7At.l0.eq_2 ..) (evn (by omega) (evs ?_))
    rw [List.drop_of_length_le (by omega)]; simp [atV]
  | succ d ih =>
    intro i out hi ho
    have e : s.drop i = s.getD i 0 :: s.drop (i + 1) := by
      rw [List.drop_eq_getElem_cons (by omega)]; simp [List.getD_eq_getElem?_getD, List.getElem?_eq_getElem (show i < s.length by omega)]
    have hx := hb (s.getD i 0) (by rw [List.getD_eq_getElem?_getD, List.getElem?_eq_getElem (by omega)]; exact List.getElem_mem _)
    refine Ev.step (fun k => spec_l7At.l0.eq_2 ..) (evp (by omega) (evp (by omega) ?_))
    rw [rd_nat s i, w64s i (by omega)]
    refine evp hx.1 (evp hx.2 (evp (by omega) (evr (ih (i + 1) _ (by omega) (by simp; omega)) ?_)))
    rw [e]; simp [atV, rd]
theorem l7At (h s : List Int) (hs : s.length ≤ 1048576) (hb : ∀ x ∈ s, 0 ≤ x ∧ x < h.length) : Ev (fun k => spec_l7At.f k h s) (atV h s) := by
  unfold spec_l7At.f
  exact l7At_l0 h s hs hb s.length 0 [] (by omega) rfl
theorem atV_len (h s : List Int) : (atV h s).length = s.length := by simp [atV]

/-! ### impl_at spec_l7At -/
theorem iAt_l0 (h s : List Int) (hs : s.length ≤ 1048576) (hb : ∀ x ∈ s, 0 ≤ x ∧ x < h.length) : ∀ (d i : Nat) (out : List Int), i + d = s.length → out.length = i → Ev (fun k => impl_at.l0 k h out s (s.length : Int) (i : Int)) (out ++ atV h (s.drop i)) := by
  intro d
  induction d with
  | zero =>
    intro i out hi ho
    refine Ev.step (fun k => impl_at.l0.eq_2 ..) (evn (by omega) (evs ?_))
    rw [List.drop_of_length_le (by omega)]; simp [atV]
  | succ d ih =>
    intro i out hi ho
    have e : s.drop i = s.getD i 0 :: s.drop (i + 1) := by
      rw [List.drop_eq_getElem_cons (by omega)]; simp [List.getD_eq_getElem?_getD, List.getElem?_eq_getElem (show i < s.length by omega)]
    have hx := hb (s.getD i 0) (by rw [List.getD_eq_getElem?_getD, List.getElem?_eq_getElem (by omega)]; exact List.getElem_mem _)
    refine Ev.step (fun k => impl_at.l0.eq_2 ..) (evp (by omega) (evp (by omega) (evp (by omega) ?_)))
    rw [rd_nat s i, w64s i (by omega)]
    refine evp hx.1 (evp hx.2 (evp (by omega) (evr (ih (i + 1) _ (by omega) (by simp; omega)) ?_)))
    rw [e]; simp [atV, rd]
theorem iAt (h s : List Int) (hs : s.length ≤ 1048576) (hb : ∀ x ∈ s, 0 ≤ x ∧ x < h.length) : Ev (fun k => impl_at.f k h s) (atV h s) := by
  unfold impl_at.f
  exact iAt_l0 h s hs hb s.length 0 [] (by omega) rfl

/-! ### spec_l1Same -/
theorem l1Same_l0 (a b : List Int) (hl : a.length = b.length) (hx : a.length ≤ 1048576) : ∀ (d i : Nat), i + d = a.length → Ev (fun k => spec_l1Same.l0 k a b (i : Int)) (decide (a.drop i = b.drop i)) := by
  intro d
  induction d with
  | zero =>
    intro i hi
    refine Ev.step (fun k => spec_l1Same.l0.eq_2 ..) (evn (by omega) (evs ?_))
    rw [List.drop_of_length_le (by omega), List.drop_of_length_le (by omega)]; simp
  | succ d ih =>
    intro i hi
    have e1 : a.drop i = a.getD i 0 :: a.drop (i + 1) := by
      rw [List.drop_eq_getElem_cons (by omega)]; simp [List.getD_eq_getElem?_getD, List.getElem?_eq_getElem (show i < a.length by omega)]
    have e2 : b.drop i = b.getD i 0 :: b.drop (i + 1) := by
      rw [List.drop_eq_getElem_cons (by omega)]; simp [List.getD_eq_getElem?_getD, List.getElem?_eq_getElem (show i < b.length by omega)]
    refine Ev.step (fun k => spec_l1Same.l0.eq_2 ..) (evp (by omega) (evp (by omega) (evp (by omega) ?_)))
    rw [rd_nat, rd_nat, w64s i (by omega), e1, e2]
    by_cases c : a.getD i 0 = b.getD i 0
    · refine evp c (evr (ih (i + 1) (by omega)) ?_)
      rw [c]; simp only [List.cons.injEq, true_and]
    · exact evn c (evs (by simp only [List.cons.injEq, c, false_and, decide_false]))
theorem l1Same (a b : List Int) (hx : a.length ≤ 1048576) : Ev (fun k => spec_l1Same.f k a b) (decide (a = b)) := by
  unfold spec_l1Same.f
  by_cases h : a.length = b.length
  · exact evp (by omega) (evr (l1Same_l0 a b h hx a.length 0 (by omega)) (by simp))
  · exact evn (by omega) (evs (decide_eq_false (fun e => h (by rw [e]))).symm)

/-! ### slices_Equal_int_int -/
theorem sEqual_l0 (a b : List Int) (hl : a.length = b.length) (hx : a.length ≤ 1048576) : ∀ (d i : Nat), i + d = a.length → Ev (fun k => slices_Equal_int_int.l0 k a b (a.length : Int) (i : Int)) (decide (a.drop i = b.drop i)) := by
  intro d
  induction d with
  | zero =>
    intro i hi
    refine Ev.step (fun k => slices_Equal_int_int.l0.eq_2 ..) (evn (by omega) (evs ?_))
    rw [List.drop_of_length_le (by omega), List.drop_of_length_le (by omega)]; simp
  | succ d ih =>
    intro i hi
    have e1 : a.drop i = a.getD i 0 :: a.drop (i + 1) := by
      rw [List.drop_eq_getElem_cons (by omega)]; simp [List.getD_eq_getElem?_getD, List.getElem?_eq_getElem (show i < a.length by omega)]
    have e2 : b.drop i = b.getD i 0 :: b.drop (i + 1) := by
      rw [List.drop_eq_getElem_cons (by omega)]; simp [List.getD_eq_getElem?_getD, List.getElem?_eq_getElem (show i < b.length by omega)]
    refine Ev.step (fun k => slices_Equal_int_int.l0.eq_2 ..) (evp (by omega) (evp (by omega) (evp (by omega) (evp (by omega) ?_))))
    rw [rd_nat, rd_nat, w64s i (by omega), e1, e2]
    by_cases c : a.getD i 0 = b.getD i 0
    · refine evp c (evr (ih (i + 1) (by omega)) ?_)
      rw [c]; simp only [List.cons.injEq, true_and]
    · exact evn c (evs (by simp only [List.cons.injEq, c, false_and, decide_false]))
theorem sEqual (a b : List Int) (hx : a.length ≤ 1048576) : Ev (fun k => slices_Equal_int_int.f k a b) (decide (a = b)) := by
  unfold slices_Equal_int_int.f
  by_cases h : a.length = b.length
  · exact evp (by omega) (evr (sEqual_l0 a b h hx a.length 0 (by omega)) (by simp))
  · exact evn (by omega) (evs (decide_eq_false (fun e => h (by rw [e]))).symm)

/-! ### spec_l7Version spec_l7At spec_l1Same spec_l7Class -/
def vers1 (c : List (List Int)) (s y : List Int) (i : Nat) : Bool := decide (atV (rdl c i) s = y)
def versV (c : List (List Int)) (s y : List Int) (n : Nat) : List Int := ((List.range n).filter (vers1 c s y)).map fun i : Nat => (i : Int)
theorem versV_len (c : List (List Int)) (s y : List Int) (n : Nat) : (versV c s y n).length ≤ n := by
  unfold versV; rw [List.length_map]; exact Nat.le_trans (List.length_filter_le _ _) (by simp)
theorem versV_succ (c : List (List Int)) (s y : List Int) (n : Nat) : versV c s y (n + 1) = if vers1 c s y n = true then versV c s y n ++ [(n : Int)] else versV c s y n := by
  unfold versV
  rw [List.range_succ, List.filter_append, List.map_append]
  by_cases e : vers1 c s y n = true
  · rw [if_pos e]; simp [e]
  · rw [if_neg e]; simp [e]
theorem l7Version_l0 (c : List (List Int)) (s y : List Int) (hc : c.length ≤ 1048576) (hs : s.length ≤ 1048576) (hb : ∀ i, i < c.length → ∀ x ∈ s, 0 ≤ x ∧ x < (rdl c i).length) : ∀ (d i : Nat), i + d = c.length → Ev (fun k => spec_l7Version.l0 k c s y (versV c s y i) (i : Int)) (versV c s y c.length) := by
  intro d
  induction d with
  | zero =>
    intro i hi
    refine Ev.step (fun k => spec_l7Version.l0.eq_2 ..) (evn (by omega) (evs ?_))
    rw [show i = c.length by omega]
  | succ d ih =>
    intro i hi
    have hlen := versV_len c s y i
    have h := ih (i + 1) (by omega)
    rw [versV_succ] at h
    refine Ev.step (fun k => spec_l7Version.l0.eq_2 ..) (evp (by omega) (evp (by omega) ?_))
    rw [rdL_nat', w64s i (by omega)]
    refine evb (l7At _ s hs (hb i (by omega))) (evb (l1Same _ y (by rw [atV_len]; exact hs)) ?_)
    by_cases e : vers1 c s y i = true
    · rw [if_pos e] at h
      exact evp e (evp (by omega) h)
    · rw [if_neg e] at h
      exact evn e h
theorem l7Version (c : List (List Int)) (s y : List Int) (hc : c.length ≤ 1048576) (hs : s.length ≤ 1048576) (hb : ∀ i, i < c.length → ∀ x ∈ s, 0 ≤ x ∧ x < (rdl c i).length) : Ev (fun k => spec_l7Version.f k c s y) (versV c s y c.length) := by
  unfold spec_l7Version.f
  exact l7Version_l0 c s y hc hs hb c.length 0 (by omega)
theorem classB_at {c : List (List Int)} (h : classB c = true) : (1 ≤ c.length ∧ c.length ≤ 256) ∧ ∀ i, i < c.length → (rdl c i).length = (rdl c 0).length ∧ (rdl c i).length ≤ 8 := by
  unfold classB at h
  simp only [Bool.and_eq_true, decide_eq_true_eq, List.all_eq_true, List.mem_range] at h
  refine ⟨h.1, fun i hi => ?_⟩
  have := h.2 i hi
  unfold rowok at this
  simp only [Bool.and_eq_true, decide_eq_true_eq] at this
  exact ⟨this.2.1, this.1⟩
theorem setB_in {n : Int} {s : List Int} (h : setB n s = true) : ∀ x ∈ s, 0 ≤ x ∧ x < n := by
  unfold setB inB at h
  simp only [Bool.and_eq_true, List.all_eq_true, decide_eq_true_eq] at h
  intro x hx
  have := h.1 x hx
  omega

/-! ### impl_version impl_at slices_Equal_int_int spec_l7Version -/
theorem iVersion_l0 (c : List (List Int)) (s y : List Int) (hc : c.length ≤ 1048576) (hs : s.length ≤ 1048576) (hb : ∀ i, i < c.length → ∀ x ∈ s, 0 ≤ x ∧ x < (rdl c i).length) : ∀ (d i : Nat), i + d = c.length → Ev (fun k => impl_version.l0 k s y (versV c s y i) c (c.length : Int) (i : Int)) (versV c s y c.length) := by
  intro d
  induction d with
  | zero =>
    intro i hi
    refine Ev.step (fun k => impl_version.l0.eq_2 ..) (evn (by omega) (evs ?_))
    rw [show i = c.length by omega]
  | succ d ih =>
    intro i hi
    have hlen := versV_len c s y i
    have h := ih (i + 1) (by omega)
    rw [versV_succ] at h
    refine Ev.step (fun k => impl_version.l0.eq_2 ..) (evp (by omega) (evp (by omega) (evp (by omega) ?_)))
    rw [rdL_nat', w64s i (by omega)]
    refine evb (iAt _ s hs (hb i (by omega))) (evb (sEqual _ y (by rw [atV_len]; exact hs)) ?_)
    by_cases e : vers1 c s y i = true
    · rw [if_pos e] at h
      exact evp e (evp (by omega) h)
    · rw [if_neg e] at h
      exact evn e h
theorem iVersion (c : List (List Int)) (s y : List Int) (hc : c.length ≤ 1048576) (hs : s.length ≤ 1048576) (hb : ∀ i, i < c.length → ∀ x ∈ s, 0 ≤ x ∧ x < (rdl c i).length) : Ev (fun k => impl_version.f k c s y) (versV c s y c.length) := by
  unfold impl_version.f
  exact iVersion_l0 c s y hc hs hb c.length 0 (by omega)

/-! ### spec_l7Set spec_l7Class spec_l1Rising -/
def csetB (c : List (List Int)) (s : List Int) : Bool := classB c && setB (rdl c 0).length s
theorem l7Set (c : List (List Int)) (s : List Int) (hx : c.length ≤ 1048576) (hr : ∀ r ∈ c, (r.length : Int) ≤ 1048576) (hs : s.length ≤ 1048576) : Ev (fun k => spec_l7Set.f k c s) (csetB c s) := by
  unfold spec_l7Set.f csetB setB
  refine evb (l7Class c hx hr) ?_
  by_cases e : classB c = true
  · have h := classB_at e
    have := h.2 0 (by omega)
    refine evp e (evp (by omega) ?_)
    rw [show rd_L1 c 0 = rdl c 0 from rdL_nat' c 0, w64 (by omega) (by omega), e, Bool.true_and]
    exact evb (l1Rising s _ _ (by omega)) (evs rfl)
  · exact evn e (evs (by rw [Bool.eq_false_iff.2 e]; rfl))

/-! ### impl_isClassSet impl_IsClass impl_isSet spec_l7Set -/
theorem isClassSet (c : List (List Int)) (s : List Int) (hx : c.length ≤ 1048576) (hr : ∀ r ∈ c, (r.length : Int) ≤ 1048576) (hs : s.length ≤ 1048576) : Ev (fun k => impl_isClassSet.f k c s) (csetB c s) := by
  unfold impl_isClassSet.f csetB
  refine evb (iIsClass c hx hr) ?_
  by_cases e : classB c = true
  · have h := classB_at e
    have := h.2 0 (by omega)
    refine evp e (evp (by omega) ?_)
    rw [show rd_L1 c 0 = rdl c 0 from rdL_nat' c 0, e, Bool.true_and]
    exact evb (isSet s _ (by omega) (by omega)) (evs rfl)
  · exact evn e (evs (by rw [Bool.eq_false_iff.2 e]; rfl))

/-! ### spec_VersionOf spec_l7Version spec_l7Set -/
def versionV (c : List (List Int)) (s y : List Int) : List Int × Bool := if csetB c s = true ∧ y.length = s.length ∧ labB y = true then (versV c s y c.length, true) else ([], false)
theorem versionV_len (c : List (List Int)) (s y : List Int) : (versionV c s y).1.length ≤ 256 := by
  unfold versionV
  split
  · rename_i e
    have h := e.1
    unfold csetB at h
    rw [Bool.and_eq_true] at h
    have := (classB_at h.1).1
    have := versV_len c s y c.length
    simp only; omega
  · simp
theorem csetB_in {c : List (List Int)} {s : List Int} (h : csetB c s = true) : c.length ≤ 256 ∧ ∀ i, i < c.length → ∀ x ∈ s, 0 ≤ x ∧ x < (rdl c i).length := by
  unfold csetB at h
  rw [Bool.and_eq_true] at h
  have h1 := classB_at h.1
  refine ⟨h1.1.2, fun i hi x hx => ?_⟩
  have := setB_in h.2 x hx
  rw [(h1.2 i hi).1]; exact this
theorem sVersion (c : List (List Int)) (s y : List Int) (hx : c.length ≤ 1048576) (hr : ∀ r ∈ c, (r.length : Int) ≤ 1048576) (hs : s.length ≤ 1048576) (hy : y.length ≤ 1048576) : Ev (fun k => spec_VersionOf.f k c s y) (versionV c s y) := by
  unfold spec_VersionOf.f versionV
  refine evb (l7Set c s hx hr hs) ?_
  by_cases e : csetB c s = true
  · refine evp e ?_
    by_cases e2 : y.length = s.length
    · refine evp (by omega) (evb (l2Labels y (by omega)) ?_)
      by_cases e3 : labB y = true
      · exact evp e3 (evb (l7Version c s y hx hs (csetB_in e).2) (evs (by rw [if_pos ⟨e, e2, e3⟩])))
      · exact evn e3 (evs (by rw [if_neg (fun h => e3 h.2.2)]))
    · exact evn (by omega) (evs (by rw [if_neg (fun h => e2 h.2.1)]))
  · exact evn e (evs (by rw [if_neg (fun h => e h.1)]))

/-! ### impl_VersionOf impl_version impl_isClassSet spec_VersionOf impl_areLabels -/
theorem iVersionOf (c : List (List Int)) (s y : List Int) (hx : c.length ≤ 1048576) (hr : ∀ r ∈ c, (r.length : Int) ≤ 1048576) (hs : s.length ≤ 1048576) (hy : y.length ≤ 1048576) : Ev (fun k => impl_VersionOf.f k c s y) (versionV c s y) := by
  unfold impl_VersionOf.f versionV
  refine evb (isClassSet c s hx hr hs) ?_
  by_cases e : csetB c s = true
  · refine evp e ?_
    by_cases e2 : y.length = s.length
    · refine evp (by omega) (evb (areLabels y (by omega)) ?_)
      by_cases e3 : labB y = true
      · exact evp e3 (evb (iVersion c s y hx hs (csetB_in e).2) (evs (by rw [if_pos ⟨e, e2, e3⟩])))
      · exact evn e3 (evs (by rw [if_neg (fun h => e3 h.2.2)]))
    · exact evn (by omega) (evs (by rw [if_neg (fun h => e2 h.2.1)]))
  · exact evn e (evs (by rw [if_neg (fun h => e h.1)]))

/-! ### laws_FnExactVersionOf -/
theorem law (c : List (List Int)) (s y : List Int) (hc : c.length ≤ maxLen) (hr : ∀ r ∈ c, r.length ≤ maxLen) : Ev (fun k => laws_FnExactVersionOf.f k c s y) true := by
  unfold laws_FnExactVersionOf.f
  by_cases h : (s.length : Int) > 1048576
  · exact evp h (evs rfl)
  refine evn h ?_
  by_cases h' : (y.length : Int) > 1048576
  · exact evp h' (evs rfl)
  refine evn h' ?_
  refine evb (szIntSS c 1048576 (by omega) (by omega) hc hr) ?_
  obtain ⟨h1, h2, h3⟩ := szv_ok c 1048576 (by omega)
  by_cases h : 0 ≤ szv c 1048576
  · obtain ⟨h4, h5⟩ := h3 h
    refine evn (by omega) ?_
    have hs := sVersion c s y (by omega) h5 (by omega) (by omega)
    have hi := iVersionOf c s y (by omega) h5 (by omega) (by omega)
    have hb := versionV_len c s y
    obtain ⟨mv, hm, hm0, hm1⟩ := markIntSS c 1 (by omega) (by omega) (by omega) h5
    generalize versionV c s y = R at *
    repeat (first
    | exact evs rfl
    | dsimp only
    | (with_reducible refine evb hs ?_)
    | (with_reducible refine evb hi ?_)
    | (with_reducible refine evb hm ?_)
    | ((with_reducible refine evb (toIntS _ ?_) ?_); (focus (first | omega | assumption)))
    | ((with_reducible refine evb (eqIntS _ _ ?_) ?_); (focus (first | omega | assumption)))
    | ((with_reducible refine evb (markIntS _ _ ?_ ?_) ?_); (focus (first | omega | assumption)); (focus (first | omega | assumption)))
    | ((with_reducible refine evb (heldIntS _ _ ?_ ?_) ?_); (focus (first | omega | assumption)); (focus (first | omega | assumption)))
    | ((with_reducible refine evb (toIntSS _ ?_ ?_) ?_); (focus (first | omega | assumption)); (focus (first | omega | assumption)))
    | ((with_reducible refine evb (eqIntSS _ _ ?_ ?_) ?_); (focus (first | omega | assumption)); (focus (first | omega | assumption)))
    | (refine evp ?_ ?_; focus (first | omega | (simp; done)))
    | (refine evn ?_ ?_; focus (first | omega | (simp; done)))
    | (with_reducible refine Ev.step (fun k => laws_FnExactVersionOf.j0.eq_2 ..) ?_)
    | (with_reducible refine Ev.step (fun k => laws_FnExactVersionOf.j1.eq_2 ..) ?_)
    | (with_reducible refine Ev.step (fun k => laws_FnExactVersionOf.j2.eq_2 ..) ?_)
    )
  · exact evp (by omega) (evs rfl)

end Go.Proofs.Ytddpdeoflaigeaa.LFnExactVersionOf
