/- Own lemmas: what the printed functions of one law come to. -/
import Derived.Test.YtihnmdnmjieffaaMFnExactPermuteBitsx4
import Derived.Test.YtihnmdnmjieffaaBase
namespace Go.Proofs.Ytihnmdnmjieffaa.LFnExactPermuteBits
open Go Go.RowKit Go.Proofs.Ytihnmdnmjieffaa.Base Go.Proofs.Ytihnmdnmjieffaa.PFnExactPermuteBits Go.Proofs.YtihnmdnmjieffaaW.PrintWords Go.Proofs.YtihnmdnmjieffaaW.PrintLast Go.Proofs.YtihnmdnmjieffaaW.PrintMore
set_option linter.unusedVariables false
set_option linter.unusedSimpArgs false
set_option maxRecDepth 4000

/-! ### laws_toIntS -/
theorem toIntS_l0 (x0 : List Int) (hx : x0.length < 4611686018427387904) : ∀ (d i : Nat) (x3 : List Int), i + d = x0.length → x3.length = x0.length →
    Ev (fun k => laws_toIntS.l0 k x0 x3 (i : Int)) (x3.take i ++ x0.drop i) := by
  intro d
  induction d with
  | zero =>
    intro i x3 hi hl
    refine Ev.step (fun k => laws_toIntS.l0.eq_2 ..) (evn (by omega) (evs ?_))
    simp [List.take_of_length_le (show x3.length ≤ i by omega), List.drop_of_length_le (show x0.length ≤ i by omega)]
  | succ d ih =>
    intro i x3 hi hl
    refine Ev.step (fun k => laws_toIntS.l0.eq_2 ..) (evp (by omega) (evp (by omega) (evp (by omega) ?_)))
    rw [w64s i (by omega), rd_nat]
    refine evr (ih (i + 1) _ (by omega) (by simpa using hl)) ?_
    rw [Int.toNat_natCast, set_take _ _ _ (by omega), List.drop_eq_getElem_cons (show i < x0.length by omega), List.append_assoc]
    simp [List.getD_eq_getElem?_getD, List.getElem?_eq_getElem (show i < x0.length by omega)]
theorem toIntS (l : List Int) (h : l.length ≤ 35184372088832) : Ev (fun k => laws_toIntS.f k l) l := by
  unfold laws_toIntS.f
  refine evp (by omega) (evp (by simpa using h) ?_)
  refine evr (toIntS_l0 l (by omega) l.length 0 _ (by omega) (by simp)) (by simp)

/-! ### laws_eqIntS -/
theorem eqIntS_l0 (a b : List Int) (hl : a.length = b.length) (hx : a.length < 4611686018427387904) : ∀ (d i : Nat), i + d = a.length →
    Ev (fun k => laws_eqIntS.l0 k a b (i : Int)) (decide (a.drop i = b.drop i)) := by
  intro d
  induction d with
  | zero =>
    intro i hi
    refine Ev.step (fun k => laws_eqIntS.l0.eq_2 ..) (evn (by omega) (evs ?_))
    simp [List.drop_of_length_le (show a.length ≤ i by omega), List.drop_of_length_le (show b.length ≤ i by omega)]
  | succ d ih =>
    intro i hi
    refine Ev.step (fun k => laws_eqIntS.l0.eq_2 ..) (evp (by omega) (evp (by omega) (evp (by omega) ?_)))
    rw [w64s i (by omega), rd_nat, rd_nat]
    have ea := List.drop_eq_getElem_cons (show i < a.length by omega)
    have eb := List.drop_eq_getElem_cons (show i < b.length by omega)
    simp only [List.getD_eq_getElem?_getD, List.getElem?_eq_getElem (show i < a.length by omega), List.getElem?_eq_getElem (show i < b.length by omega), Option.getD_some]
    by_cases e : a[i] = b[i]
    · refine evp e (evr (ih (i + 1) (by omega)) ?_)
      rw [ea, eb, e]; simp only [List.cons.injEq, true_and]
    · refine evn e (evs ?_)
      rw [ea, eb]; simp only [List.cons.injEq, e, false_and, decide_false]
theorem eqIntS (a b : List Int) (hx : a.length < 4611686018427387904) : Ev (fun k => laws_eqIntS.f k a b) (decide (a = b)) := by
  unfold laws_eqIntS.f
  by_cases h : a.length = b.length
  · refine evp (by omega) (evr (eqIntS_l0 a b h hx a.length 0 (by omega)) (by simp))
  · refine evn (by omega) (evs ?_)
    have : a ≠ b := fun e => h (by rw [e])
    simp [this]

/-! ### laws_markIntS -/
theorem markIntS_l0 (d : Nat) : ∀ (x0 : List Int) (m : Int) (i : Nat), i + d = x0.length → x0.length < 4611686018427387904 → 0 ≤ m → m + d < 4611686018427387904 →
    Ev (fun k => laws_markIntS.l0 k x0 m (i : Int)) (m + d, x0.take i ++ (List.range d).map fun j : Nat => m + (j : Int)) := by
  induction d with
  | zero =>
    intro x0 m i hi hx h0 hm
    refine Ev.step (fun k => laws_markIntS.l0.eq_2 ..) (evn (by omega) (evs ?_))
    simp [List.take_of_length_le (show x0.length ≤ i by omega)]
  | succ d ih =>
    intro x0 m i hi hx h0 hm
    refine Ev.step (fun k => laws_markIntS.l0.eq_2 ..) (evp (by omega) (evp (by omega) ?_))
    rw [w64s i (by omega), w64 (x := m + 1) (by omega) (by omega)]
    refine evr (ih _ _ (i + 1) (by simp; omega) (by simpa using hx) (by omega) (by omega)) ?_
    rw [Int.toNat_natCast, set_take _ _ _ (by omega), List.append_assoc, List.range_succ_eq_map]
    simp only [List.map_cons, List.map_map, Prod.mk.injEq]
    refine ⟨by push_cast; omega, ?_⟩
    congr 1
    simp only [List.cons_append, List.nil_append, List.cons.injEq]
    refine ⟨by simp, List.map_congr_left fun j _ => by simp; omega⟩
theorem markIntS (l : List Int) (m : Int) (h0 : 0 ≤ m) (h : m + l.length < 4611686018427387904) : Ev (fun k => laws_markIntS.f k l m) (m + l.length, marks l m) := by
  unfold laws_markIntS.f
  exact evr (markIntS_l0 l.length l m 0 (by omega) (by omega) h0 h) (by simp [marks])

/-! ### laws_heldIntS -/
theorem heldIntS_l0 (l : List Int) (m : Int) (h0 : 0 ≤ m) (hm : m + l.length < 4611686018427387904) (hv : ∀ i, i < l.length → l.getD i 0 = m + i) : ∀ (d i : Nat), i + d = l.length →
    Ev (fun k => laws_heldIntS.l0 k l (m + (i : Int)) (i : Int)) (m + l.length) := by
  intro d
  induction d with
  | zero =>
    intro i hi
    refine Ev.step (fun k => laws_heldIntS.l0.eq_2 ..) (evn (by omega) (evs ?_))
    omega
  | succ d ih =>
    intro i hi
    refine Ev.step (fun k => laws_heldIntS.l0.eq_2 ..) (evp (by omega) (evp (by omega) ?_))
    rw [w64s i (by omega), w64 (x := m + i + 1) (by omega) (by omega), rd_nat]
    refine evp (hv i (by omega)) ?_
    have := ih (i + 1) (by omega)
    rw [show m + ((i + 1 : Nat) : Int) = m + i + 1 by omega] at this
    exact this
theorem heldIntS (l : List Int) (m : Int) (h0 : 0 ≤ m) (hm : m + l.length < 4611686018427387904) : Ev (fun k => laws_heldIntS.f k (marks l m) m) (m + l.length) := by
  unfold laws_heldIntS.f
  have h := heldIntS_l0 (marks l m) m h0 (by rw [marks_length]; exact hm) (fun i hi => marks_at l m i (by rwa [marks_length] at hi)) l.length 0 (by rw [marks_length]; omega)
  rw [marks_length] at h
  simpa using h

/-! ### spec_l1In -/
theorem l1In (a b c : Int) : spec_l1In.f a b c = some (decide (b ≤ a ∧ a ≤ c)) := by
  unfold spec_l1In.f; split <;> simp_all <;> omega

/-! ### impl_within -/
theorem within (a b c : Int) : impl_within.f a b c = some (decide (b ≤ a ∧ a ≤ c)) := by
  unfold impl_within.f; split <;> simp_all <;> omega

/-! ### spec_l2Table -/
theorem l2Table_l0 (l : List Int) (hx : l.length < 4611686018427387904) : ∀ (d i : Nat), i + d = l.length →
    Ev (fun k => spec_l2Table.l0 k l (i : Int)) ((l.drop i).all fun x => decide (0 ≤ x ∧ x ≤ 1)) := by
  intro d
  induction d with
  | zero =>
    intro i hi
    refine Ev.step (fun k => spec_l2Table.l0.eq_2 ..) (evn (by omega) (evs ?_))
    simp [List.drop_of_length_le (show l.length ≤ i by omega)]
  | succ d ih =>
    intro i hi
    refine Ev.step (fun k => spec_l2Table.l0.eq_2 ..) (evp (by omega) (evp (by omega) ?_))
    rw [w64s i (by omega), rd_nat, l1In, List.drop_eq_getElem_cons (show i < l.length by omega)]
    simp only [List.getD_eq_getElem?_getD, List.getElem?_eq_getElem (show i < l.length by omega), Option.getD_some, Option.bind_some, List.all_cons]
    by_cases e : 0 ≤ l[i] ∧ l[i] ≤ 1
    · refine evp (by simpa using e) (evr (ih (i + 1) (by omega)) (by simp [e]))
    · refine evn (by simpa using e) (evs (by simp [e]))
theorem l2Table (n : Int) (l : List Int) (hx : l.length < 4611686018427387904) : Ev (fun k => spec_l2Table.f k n l) (isTab n l) := by
  unfold spec_l2Table.f isTab
  rw [l1In]
  simp only [Option.bind_some]
  by_cases h : 0 ≤ n ∧ n ≤ 4
  · refine evp (by simpa using h) (evp h.1 (Ev.step (fun k => spec_l2Table.j0.eq_2 ..) ?_))
    obtain ⟨m, rfl⟩ := Int.eq_ofNat_of_zero_le h.1
    rw [shl1 m (by omega)]
    by_cases e : l.length = 2 ^ m
    · refine evn (by simp [e]) (evr (l2Table_l0 l hx l.length 0 (by omega)) (by simp [e]; omega))
    · refine evp (by simp; exact_mod_cast e) (evs (by simp [e]))
  · refine evn (by simpa using h) (Ev.step (fun k => spec_l2Table.j0.eq_2 ..) (evp rfl (evs (by simp [h]))))

/-! ### impl_allWithin -/
theorem allWithin_l0 (lo up : Int) (l : List Int) (hx : l.length < 4611686018427387904) : ∀ (d i : Nat), i + d = l.length →
    Ev (fun k => impl_allWithin.l0 k lo up l (l.length : Int) (i : Int)) ((l.drop i).all fun x => decide (lo ≤ x ∧ x ≤ up)) := by
  intro d
  induction d with
  | zero =>
    intro i hi
    refine Ev.step (fun k => impl_allWithin.l0.eq_2 ..) (evn (by omega) (evs ?_))
    simp [List.drop_of_length_le (show l.length ≤ i by omega)]
  | succ d ih =>
    intro i hi
    refine Ev.step (fun k => impl_allWithin.l0.eq_2 ..) (evp (by omega) (evp (by omega) (evp (by omega) ?_)))
    rw [w64s i (by omega), rd_nat, within, List.drop_eq_getElem_cons (show i < l.length by omega)]
    simp only [List.getD_eq_getElem?_getD, List.getElem?_eq_getElem (show i < l.length by omega), Option.getD_some, Option.bind_some, List.all_cons]
    by_cases e : lo ≤ l[i] ∧ l[i] ≤ up
    · refine evp (by simpa using e) (evr (ih (i + 1) (by omega)) (by simp [e]))
    · refine evn (by simpa using e) (evs (by simp [e]))
theorem allWithin (l : List Int) (lo up : Int) (hx : l.length < 4611686018427387904) : Ev (fun k => impl_allWithin.f k l lo up) (l.all fun x => decide (lo ≤ x ∧ x ≤ up)) := by
  unfold impl_allWithin.f
  exact allWithin_l0 lo up l hx l.length 0 (by omega)

/-! ### impl_isTable -/
theorem isTable (n : Int) (l : List Int) (hx : l.length < 4611686018427387904) : Ev (fun k => impl_isTable.f k n l) (isTab n l) := by
  unfold impl_isTable.f isTab
  rw [within]
  simp only [Option.bind_some]
  by_cases h : 0 ≤ n ∧ n ≤ 4
  · obtain ⟨m, rfl⟩ := Int.eq_ofNat_of_zero_le h.1
    refine evp (by simpa using h) (evp h.1 ?_)
    rw [shl1 m (by omega)]
    by_cases e : l.length = 2 ^ m
    · refine evp (by exact_mod_cast e) (evb (allWithin l 0 1 hx) (evs (by simp [e]; omega)))
    · refine evn (by exact_mod_cast e) (evs (by simp [e]))
  · refine evn (by simpa using h) (evs (by simp [h]))

/-! ### impl_rising -/
theorem rising_l0 (l : List Int) (hl : l.length < 4611686018427387904) : ∀ (d i : Nat), i + d = l.length → 1 ≤ i →
    Ev (fun k => impl_rising.l0 k l (i : Int)) (riseB (l.drop (i - 1))) := by
  intro d
  induction d with
  | zero =>
    intro i hi' h1
    refine Ev.step (fun k => impl_rising.l0.eq_2 ..) (evn (by omega) (evs ?_))
    rw [riseB_end l (i - 1) (by omega)]
  | succ d ih =>
    intro i hi' h1
    refine Ev.step (fun k => impl_rising.l0.eq_2 ..) (evp (by omega) ?_)
    rw [rd_nat, w64s i (by omega), w64 (x := (i : Int) - 1) (by omega) (by omega), show (i : Int) - 1 = ((i - 1 : Nat) : Int) by omega, rd_nat]
    refine evp (by omega) (evp (by omega) (evp (by omega) ?_))
    have hs := riseB_step l (i - 1) (by omega)
    rw [show i - 1 + 1 = i by omega] at hs
    by_cases e1 : l.getD (i - 1) 0 ≥ l.getD i 0
    · refine evp e1 (evs ?_)
      rw [hs, decide_eq_false (by omega)]; simp
    · refine evn e1 (evr (ih (i + 1) (by omega) (by omega)) ?_)
      rw [hs, decide_eq_true (show l.getD (i - 1) 0 < l.getD i 0 by omega)]; simp
theorem rising (l : List Int) (hl : l.length < 4611686018427387904) : Ev (fun k => impl_rising.f k l) (riseB l) := by
  unfold impl_rising.f
  by_cases h : l.length = 0
  · refine Ev.step (fun k => impl_rising.l0.eq_2 ..) (evn (by omega) (evs ?_))
    rw [List.eq_nil_of_length_eq_zero h]; rfl
  · exact evr (rising_l0 l hl (l.length - 1) 1 (by omega) (by omega)) (by simp)

/-! ### impl_PermuteBits !impl_isOrder -/
def rangeI (n : Nat) : List Int := (List.range n).map fun i : Nat => (i : Int)
theorem rangeI_mem (n : Nat) (x : Int) : x ∈ rangeI n ↔ 0 ≤ x ∧ x < n := by
  unfold rangeI
  rw [List.mem_map]
  constructor
  · rintro ⟨i, hi, rfl⟩
    have := List.mem_range.1 hi; omega
  · rintro ⟨h0, h1⟩
    exact ⟨x.toNat, List.mem_range.2 (by omega), by omega⟩
theorem perm_of_all : ∀ (n : Nat) (l : List Int), l.length = n → (∀ i : Nat, i < n → (i : Int) ∈ l) → l.Perm (rangeI n) := by
  intro n
  induction n with
  | zero => intro l hl _; rw [List.eq_nil_of_length_eq_zero hl]; exact List.Perm.refl _
  | succ n ih =>
    intro l hl h
    have hn := h n (by omega)
    have hp := List.perm_cons_erase hn
    have he : (l.erase (n : Int)).length = n := by rw [List.length_erase_of_mem hn]; omega
    have h2 := ih _ he (fun i hi => (List.mem_erase_of_ne (by omega)).2 (h i (by omega)))
    have h3 : rangeI (n + 1) = rangeI n ++ [(n : Int)] := by unfold rangeI; rw [List.range_succ, List.map_append]; rfl
    rw [h3]
    exact hp.trans ((List.Perm.cons _ h2).trans (List.perm_append_singleton _ _).symm)
theorem rise_ge : ∀ (l : List Int) (b : Int) (i : Nat), riseB l = true → (∀ x ∈ l, b ≤ x) → i < l.length → b + i ≤ l.getD i 0 := by
  intro l
  induction l with
  | nil => intro b i _ _ h; simp at h
  | cons x l ih =>
    intro b i hr hb hi
    cases i with
    | zero => have := hb x List.mem_cons_self; simpa using this
    | succ i =>
      have hx := hb x List.mem_cons_self
      have h1 := ih (b + 1) i (riseB_tail hr) (fun y hy => by have := riseB_lt l x hr y hy; omega) (by simpa using hi)
      rw [List.getD_cons_succ]; omega
theorem rise_le : ∀ (l : List Int) (t : Int) (i : Nat), riseB l = true → (∀ x ∈ l, x ≤ t) → i < l.length → l.getD i 0 + (l.length - 1 - i : Nat) ≤ t := by
  intro l
  induction l with
  | nil => intro b i _ _ h; simp at h
  | cons x l ih =>
    intro t i hr ht hi
    cases i with
    | zero =>
      rw [List.getD_cons_zero, List.length_cons]
      cases l with
      | nil => have := ht x List.mem_cons_self; simp; exact this
      | cons y l =>
        have h1 := ih t 0 (riseB_tail hr) (fun z hz => ht z (List.mem_cons_of_mem _ hz)) (by simp)
        have h2 := riseB_lt (y :: l) x hr y List.mem_cons_self
        rw [List.getD_cons_zero] at h1
        simp only [List.length_cons] at h1 ⊢
        omega
    | succ i =>
      have h1 := ih t i (riseB_tail hr) (fun z hz => ht z (List.mem_cons_of_mem _ hz)) (by simpa using hi)
      rw [List.getD_cons_succ]
      simp only [List.length_cons] at hi ⊢
      omega
theorem rise_range (n : Nat) (l : List Int) (hl : l.length = n) (h : setB n l = true) : l = rangeI n := by
  unfold setB at h
  obtain ⟨h1, h2⟩ := Bool.and_eq_true _ _ ▸ h
  unfold inB at h1
  have hb : ∀ x ∈ l, 0 ≤ x ∧ x ≤ (n : Int) - 1 := fun x hx => of_decide_eq_true (List.all_eq_true.1 h1 x hx)
  apply List.ext_getElem
  · simp [rangeI, hl]
  · intro i i1 i2
    have a := rise_ge l 0 i h2 (fun x hx => (hb x hx).1) i1
    have b := rise_le l (n - 1) i h2 (fun x hx => (hb x hx).2) i1
    rw [List.getD_eq_getElem?_getD, List.getElem?_eq_getElem i1] at a b
    simp only [Option.getD_some] at a b
    simp only [rangeI, List.getElem_map, List.getElem_range]
    omega
theorem rangeI_rise : ∀ (n : Nat) (l : List Int), l.Pairwise (· < ·) → riseB l = true := by
  intro n l
  induction l with
  | nil => intro _; rfl
  | cons x l ih =>
    intro h
    obtain ⟨h1, h2⟩ := List.pairwise_cons.1 h
    cases l with
    | nil => rfl
    | cons y l => simp only [riseB, Bool.and_eq_true]; exact ⟨decide_eq_true (h1 y List.mem_cons_self), ih h2⟩
theorem sortI_perm (l : List Int) : (sortI l).Perm l := List.mergeSort_perm _ _
theorem sortI_sorted (l : List Int) : (sortI l).Pairwise (· ≤ ·) := by
  have := List.pairwise_mergeSort (le := fun x y : Int => decide (x ≤ y)) (fun a b c h1 h2 => by simp only [decide_eq_true_eq] at *; omega) (fun a b => by simp only [Bool.or_eq_true, decide_eq_true_eq]; omega) l
  exact this.imp (fun h => of_decide_eq_true h)
/-- Sorted, it has each number once just if it has all of them. -/
theorem order_iff (n : Nat) (l : List Int) (hl : l.length = n) : setB n (sortI l) = true ↔ ∀ i : Nat, i < n → (i : Int) ∈ l := by
  constructor
  · intro h i hi
    have e := rise_range n (sortI l) (by rw [sortI_len]; exact hl) h
    have hm : (i : Int) ∈ sortI l := by rw [e]; exact (rangeI_mem n _).2 (by omega)
    exact (sortI_perm l).mem_iff.1 hm
  · intro h
    have hp := (sortI_perm l).trans (perm_of_all n l hl h)
    unfold setB
    rw [Bool.and_eq_true]
    constructor
    · unfold inB
      rw [List.all_eq_true]
      intro x hx
      have := (rangeI_mem n x).1 (hp.mem_iff.1 hx)
      exact decide_eq_true (by omega)
    · refine rangeI_rise 0 _ ?_
      have hnd : (rangeI n).Nodup := by
        unfold rangeI
        rw [List.nodup_iff_pairwise_ne, List.pairwise_map]
        exact List.Pairwise.imp (fun h e => h (Int.ofNat.inj e)) (List.nodup_iff_pairwise_ne.1 List.nodup_range)
      have hnd2 : (sortI l).Nodup := hp.nodup_iff.2 hnd
      have h1 := sortI_sorted l
      have h2 := List.nodup_iff_pairwise_ne.1 hnd2
      exact (h1.and h2).imp (fun {a b} h => by have := h.1; have := h.2; omega)
def permB (n : Nat) (l : List Int) : Bool := decide (l.length = n) && (List.range n).all fun i : Nat => l.contains (i : Int)
theorem permB_iff (n : Nat) (l : List Int) : permB n l = true ↔ l.length = n ∧ ∀ i : Nat, i < n → (i : Int) ∈ l := by
  unfold permB
  rw [Bool.and_eq_true, decide_eq_true_eq, List.all_eq_true]
  constructor
  · rintro ⟨h1, h2⟩
    exact ⟨h1, fun i hi => List.contains_iff_mem.1 (h2 i (List.mem_range.2 hi))⟩
  · rintro ⟨h1, h2⟩
    exact ⟨h1, fun i hi => List.contains_iff_mem.2 (h2 i (List.mem_range.1 hi))⟩

/-! ### impl_PermuteBits spec_PermuteBits -/
/-! ### bits in another order -/
theorem prHas_l0 (l : List Int) (x : Int) (hl : l.length ≤ 1048576) : ∀ (d i : Nat), i + d = l.length → Ev (fun k => spec_l1Has.l0 k l x (i : Int)) ((l.drop i).contains x) := by
  intro d
  induction d with
  | zero =>
    intro i hi
    refine Ev.step (fun k => spec_l1Has.l0.eq_2 ..) (evn (by omega) (evs ?_))
    rw [List.drop_of_length_le (by omega)]; rfl
  | succ d ih =>
    intro i hi
    refine Ev.step (fun k => spec_l1Has.l0.eq_2 ..) (evp (by omega) (evp (by omega) ?_))
    rw [rd_nat, List.drop_eq_getElem_cons (show i < l.length by omega), List.contains_cons, List.getD_eq_getElem?_getD, List.getElem?_eq_getElem (show i < l.length by omega), Option.getD_some]
    by_cases e : l[i]'(by omega) = x
    · refine evp e (evs ?_)
      rw [e]; simp
    · refine evn e ?_
      rw [w64s i (by omega)]
      refine evr (ih (i + 1) (by omega)) ?_
      rw [beq_eq_false_iff_ne.2 (fun h => e h.symm), Bool.false_or]
theorem prHas (l : List Int) (x : Int) (hl : l.length ≤ 1048576) : Ev (fun k => spec_l1Has.f k l x) (l.contains x) := by
  unfold spec_l1Has.f
  exact prHas_l0 l x hl l.length 0 (by omega)
/-- all lists of m numbers below v -/
def lstN (v : Nat) : Nat → List (List Int)
  | 0 => [[]]
  | m + 1 => (List.range v).flatMap fun x : Nat => (lstN v m).map fun l => (x : Int) :: l
theorem lstN_mem (v : Nat) : ∀ (l : List Int) (m : Nat), l.length = m → (∀ x ∈ l, 0 ≤ x ∧ x < v) → l ∈ lstN v m
  | [], m, h, _ => by subst h; simp [lstN]
  | x :: l, m, h, hx => by
    subst h
    have h0 := hx x List.mem_cons_self
    show x :: l ∈ lstN v (l.length + 1)
    unfold lstN
    refine List.mem_flatMap.2 ⟨x.toNat, List.mem_range.2 (by omega), List.mem_map.2 ⟨l, lstN_mem v l l.length rfl (fun y hy => hx y (List.mem_cons_of_mem _ hy)), ?_⟩⟩
    simp only [Int.toNat_of_nonneg h0.1]
/-- the place that a place goes to, as the reference adds it up -/
def addPlace (l : List Int) (k : Int) : Nat → Int
  | 0 => 0
  | j + 1 => wrap64 (addPlace l k j + (shl .i64 (Go.bits .and .i64 (shr .i64 k (j : Int)) 1) (rd l (j : Int))))
theorem perm_fin : ∀ n : Fin 5, ∀ l ∈ lstN n.val n.val, permB n.val l = true → ∀ k : Fin 16, k.val < 2 ^ n.val → permPlace l (k.val : Int) n.val = addPlace l (k.val : Int) n.val ∧ 0 ≤ addPlace l (k.val : Int) n.val ∧ addPlace l (k.val : Int) n.val < ((2 ^ n.val : Nat) : Int) := by decide +kernel
theorem perm_in {n : Nat} {l : List Int} (h : permB n l = true) : l.length = n ∧ ∀ x ∈ l, 0 ≤ x ∧ x < n := by
  obtain ⟨p1, p2⟩ := (permB_iff _ _).1 h
  have hpm := perm_of_all _ l p1 p2
  exact ⟨p1, fun x hx => (rangeI_mem _ x).1 (hpm.mem_iff.1 hx)⟩
theorem perm_at {n : Nat} {l : List Int} (hn : n ≤ 4) (h : permB n l = true) (k : Nat) (hk : k < 2 ^ n) : permPlace l (k : Int) n = addPlace l (k : Int) n ∧ 0 ≤ addPlace l (k : Int) n ∧ addPlace l (k : Int) n < ((2 ^ n : Nat) : Int) := by
  have h16 : 2 ^ n ≤ 16 := Nat.pow_le_pow_right (by decide : 0 < 2) hn
  obtain ⟨p1, p2⟩ := perm_in h
  exact perm_fin ⟨n, by omega⟩ l (lstN_mem n l n p1 p2) h ⟨k, by omega⟩ hk
/-- a table with its bits in another order -/
def permT (n : Nat) (l1 l2 : List Int) : List Int := (List.range l1.length).map fun k : Nat => rd l1 (addPlace l2 (k : Int) n)
def permV (n : Int) (l1 l2 : List Int) : List Int × Bool := if isTab n l1 = true ∧ permB n.toNat l2 = true then (permT n.toNat l1 l2, true) else ([], false)
theorem permV_len (n : Int) (l1 l2 : List Int) : (permV n l1 l2).1.length ≤ 16 := by
  unfold permV
  split
  · rename_i h
    obtain ⟨m, rfl, ht⟩ := isTab_tab h.1
    have := ht.len
    unfold permT
    rw [List.length_map, List.length_range]; exact this
  · simp
theorem sPerm_l2 (n : Nat) (hn : n ≤ 4) (l1 l2 : List Int) (h2 : permB n l2 = true) (hl : l1.length = 2 ^ n) (out : List Int) (c : Nat) (hc : c < 2 ^ n) (ho : out.length ≤ 16) (R : List Int × Bool)
    (hK : Ev (fun k => spec_PermuteBits.l1 k (n : Int) l1 l2 (out ++ [rd l1 (addPlace l2 (c : Int) n)]) ((c + 1 : Nat) : Int)) R) : ∀ d i, i + d = n → Ev (fun k => spec_PermuteBits.l2 k (n : Int) l1 l2 out (c : Int) (addPlace l2 (c : Int) i) (i : Int)) R := by
  obtain ⟨p1, p2⟩ := perm_in h2
  have hp := perm_at hn h2 c hc
  have h16 : 2 ^ n ≤ 16 := Nat.pow_le_pow_right (by decide : 0 < 2) hn
  intro d
  induction d with
  | zero =>
    intro i hi
    obtain rfl : i = n := by omega
    refine Ev.step (fun k => spec_PermuteBits.l2.eq_2 ..) (evn (by omega) (evp hp.2.1 (evp (by omega) (evp (by omega) ?_))))
    rw [w64s c (by omega)]
    exact hK
  | succ d ih =>
    intro i hi
    have hx := p2 (rd l2 (i : Int)) (by rw [rd_nat, List.getD_eq_getElem?_getD, List.getElem?_eq_getElem (show i < l2.length by omega)]; exact List.getElem_mem _)
    refine Ev.step (fun k => spec_PermuteBits.l2.eq_2 ..) (evp (by omega) (evp (by omega) (evp (by omega) (evp hx.1 ?_))))
    rw [w64s i (by omega)]
    exact ih (i + 1) (by omega)
theorem sPerm_l1 (n : Nat) (hn : n ≤ 4) (l1 l2 : List Int) (h2 : permB n l2 = true) (hl : l1.length = 2 ^ n) : ∀ d c, c + d = l1.length → Ev (fun k => spec_PermuteBits.l1 k (n : Int) l1 l2 ((List.range c).map fun k : Nat => rd l1 (addPlace l2 (k : Int) n)) (c : Int)) (permT n l1 l2, true) := by
  have h16 : 2 ^ n ≤ 16 := Nat.pow_le_pow_right (by decide : 0 < 2) hn
  intro d
  induction d with
  | zero =>
    intro c hc
    obtain rfl : c = l1.length := by omega
    exact Ev.step (fun k => spec_PermuteBits.l1.eq_2 ..) (evn (by omega) (evs rfl))
  | succ d ih =>
    intro c hc
    have hn2 := ih (c + 1) (by omega)
    rw [List.range_succ, List.map_append] at hn2
    refine Ev.step (fun k => spec_PermuteBits.l1.eq_2 ..) (evp (by omega) ?_)
    exact sPerm_l2 n hn l1 l2 h2 hl _ c (by omega) (by simp; omega) _ hn2 n 0 (by omega)
theorem sPerm_l0 (n : Nat) (hn : n ≤ 4) (l1 l2 : List Int) (hl : l1.length = 2 ^ n) (h2 : l2.length = n) : ∀ d i, i + d = n → (∀ j : Nat, j < i → (j : Int) ∈ l2) → Ev (fun k => spec_PermuteBits.l0 k (n : Int) l1 l2 [] (i : Int)) (if permB n l2 = true then (permT n l1 l2, true) else ([], false)) := by
  intro d
  induction d with
  | zero =>
    intro i hi hj
    obtain rfl : i = n := by omega
    have hp : permB i l2 = true := (permB_iff _ _).2 ⟨h2, hj⟩
    rw [if_pos hp]
    exact Ev.step (fun k => spec_PermuteBits.l0.eq_2 ..) (evn (by omega) (sPerm_l1 i hn l1 l2 hp hl l1.length 0 (by omega)))
  | succ d ih =>
    intro i hi hj
    refine Ev.step (fun k => spec_PermuteBits.l0.eq_2 ..) (evp (by omega) (evb (prHas l2 _ (by omega)) ?_))
    by_cases c : (i : Int) ∈ l2
    · refine evp (List.contains_iff_mem.2 c) ?_
      rw [w64s i (by omega)]
      exact ih (i + 1) (by omega) (fun j hj2 => by
        by_cases e : j = i
        · subst e; exact c
        · exact hj j (by omega))
    · rw [if_neg (fun hp => c (((permB_iff _ _).1 hp).2 i (by omega)))]
      exact evn (fun h => c (List.contains_iff_mem.1 h)) (evs rfl)
theorem sPermute (n : Int) (l1 l2 : List Int) (hx : l1.length ≤ 1048576) (hy : l2.length ≤ 1048576) : Ev (fun k => spec_PermuteBits.f k n l1 l2) (permV n l1 l2) := by
  unfold spec_PermuteBits.f permV
  refine evb (evs rfl) (evb (l2Table n l1 (by omega)) ?_)
  by_cases e : isTab n l1 = true
  · obtain ⟨m, rfl, ht⟩ := isTab_tab e
    rw [Int.toNat_natCast]
    refine evp e ?_
    by_cases c : (l2.length : Int) = (m : Int)
    · have h := sPerm_l0 m ht.1 l1 l2 ht.2.1 (by omega) m 0 (by omega) (fun j hj => by omega)
      rw [show ((l2.length : Int) != (m : Int)) = false by rw [c]; simp]
      refine Ev.step (fun k => spec_PermuteBits.j0.eq_2 ..) (evn (by decide) (evr h ?_))
      by_cases p : permB m l2 = true
      · rw [if_pos p, if_pos ⟨e, p⟩]
      · rw [if_neg p, if_neg (fun h => p h.2)]
    · rw [show ((l2.length : Int) != (m : Int)) = true by simpa using c]
      refine Ev.step (fun k => spec_PermuteBits.j0.eq_2 ..) (evp rfl (evs ?_))
      rw [if_neg (fun h => c (by have := (perm_in h.2).1; omega))]
  · refine evn e (Ev.step (fun k => spec_PermuteBits.j0.eq_2 ..) (evp rfl (evs ?_)))
    rw [if_neg (fun h => e h.1)]
theorem iPermute (n : Int) (l1 l2 : List Int) (hx : l1.length ≤ 1048576) (hy : l2.length ≤ 1048576) : Ev (fun k => impl_PermuteBits.f k n l1 l2) (permV n l1 l2) := by
  unfold impl_PermuteBits.f permV
  refine evp hy (evb (isTable n l1 (by omega)) ?_)
  by_cases e : isTab n l1 = true
  · obtain ⟨m, rfl, ht⟩ := isTab_tab e
    have hm4 := ht.1
    rw [Int.toNat_natCast]
    refine evp e ?_
    by_cases c : (l2.length : Int) = (m : Int)
    · have hlm : l2.length = m := by omega
      have ho := order_iff m l2 hlm
      refine evp c (evb (rising (sortI l2) (by rw [sortI_len]; omega)) ?_)
      have hin : inB 0 ((m : Int) - 1) (sortI l2) = l2.all fun x => decide (0 ≤ x ∧ x ≤ (m : Int) - 1) := by
        unfold inB
        rw [Bool.eq_iff_iff, List.all_eq_true, List.all_eq_true]
        exact ⟨fun h x hx => h x ((sortI_perm l2).mem_iff.2 hx), fun h x hx => h x ((sortI_perm l2).mem_iff.1 hx)⟩
      have hset : permB m l2 = (riseB (sortI l2) && l2.all fun x => decide (0 ≤ x ∧ x ≤ (m : Int) - 1)) := by
        rw [Bool.eq_iff_iff, permB_iff, ← hin, Bool.and_comm]
        unfold setB at ho
        constructor
        · exact fun h => ho.2 h.2
        · exact fun h => ⟨hlm, ho.1 h⟩
      by_cases c2 : riseB (sortI l2) = true
      · refine evp c2 ?_
        rw [w64 (x := (m : Int) - 1) (by omega) (by omega)]
        refine evb (allWithin l2 0 ((m : Int) - 1) (by omega)) ?_
        by_cases c3 : (l2.all fun x => decide (0 ≤ x ∧ x ≤ (m : Int) - 1)) = true
        · have hp : permB m l2 = true := by rw [hset, c2, c3]; rfl
          refine evp c3 (evc ?_)
          have h2 := perm_in hp
          have hpa := fun k hk => perm_at hm4 hp k hk
          have hl1 := ht.2.1
          unfold permsOf
          rw [if_pos ⟨fun x hx => (h2.2 x hx).1, by omega, fun k hk => by rw [h2.1, (hpa k (by omega)).1, hl1]; exact (hpa k (by omega)).2⟩, if_pos ⟨e, hp⟩]
          congr 2
          unfold permT
          exact List.map_congr_left fun k hk => by rw [h2.1, (hpa k (by have := List.mem_range.1 hk; omega)).1]
        · refine evn c3 (evs ?_)
          rw [if_neg (fun h => c3 (by have := h.2; rw [hset, Bool.and_eq_true] at this; exact this.2))]
      · refine evn c2 (evs ?_)
        rw [if_neg (fun h => c2 (by have := h.2; rw [hset, Bool.and_eq_true] at this; exact this.1))]
    · refine evn c (evs ?_)
      rw [if_neg (fun h => c (by have := (perm_in h.2).1; omega))]
  · refine evn e (evs ?_)
    rw [if_neg (fun h => e h.1)]

/-! ### laws_FnExactPermuteBits -/
theorem law (n : Int) (l1 l2 : List Int) : Ev (fun k => laws_FnExactPermuteBits.f k n l1 l2) true := by
  unfold laws_FnExactPermuteBits.f
  by_cases h : (l1.length : Int) > 1048576
  · exact evp h (evs rfl)
  refine evn h ?_
  by_cases h' : (l2.length : Int) > 1048576
  · exact evp h' (evs rfl)
  have hs := sPermute n l1 l2 (by omega) (by omega)
  have hi := iPermute n l1 l2 (by omega) (by omega)
  have hb := permV_len n l1 l2
  generalize permV n l1 l2 = R at *
  repeat (first
    | exact evs rfl
    | dsimp only
    | (with_reducible refine evb hs ?_)
    | (with_reducible refine evb hi ?_)
    | ((with_reducible refine evb (toIntS _ ?_) ?_); (focus (first | omega | assumption)))
    | ((with_reducible refine evb (eqIntS _ _ ?_) ?_); (focus (first | omega | assumption)))
    | ((with_reducible refine evb (markIntS _ _ ?_ ?_) ?_); (focus (first | omega | assumption)); (focus (first | omega | assumption)))
    | ((with_reducible refine evb (heldIntS _ _ ?_ ?_) ?_); (focus (first | omega | assumption)); (focus (first | omega | assumption)))
    | (refine evp ?_ ?_; focus (first | omega | (simp; done)))
    | (refine evn ?_ ?_; focus (first | omega | (simp; done)))
    | (with_reducible refine Ev.step (fun k => laws_FnExactPermuteBits.j0.eq_2 ..) ?_)
    | (with_reducible refine Ev.step (fun k => laws_FnExactPermuteBits.j1.eq_2 ..) ?_)
    | (with_reducible refine Ev.step (fun k => laws_FnExactPermuteBits.j2.eq_2 ..) ?_)
    )

end Go.Proofs.Ytihnmdnmjieffaa.LFnExactPermuteBits
