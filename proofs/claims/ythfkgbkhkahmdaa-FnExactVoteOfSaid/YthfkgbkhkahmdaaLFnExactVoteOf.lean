/- Own lemmas: what the printed functions of one law come to. -/
import Derived.Test.YthfkgbkhkahmdaaMFnExactVoteOfx8
import Derived.Test.YthfkgbkhkahmdaaBase
namespace Go.Proofs.Ythfkgbkhkahmdaa.LFnExactVoteOf
open Go Go.RowKit Go.Proofs.Ythfkgbkhkahmdaa.Base Go.Proofs.Ythfkgbkhkahmdaa.PFnExactVoteOf Go.Proofs.YthfkgbkhkahmdaaW.PrintWords Go.Proofs.YthfkgbkhkahmdaaW.PrintLast Go.Proofs.YthfkgbkhkahmdaaW.PrintMore
set_option linter.unusedVariables false
set_option linter.unusedSimpArgs false
set_option maxRecDepth 4000

/-! ### laws_toIntS -/
theorem toIntS_l0 (x0 : List Int) (hx : x0.length < 4611686018427387904) : ∀ (d i : Nat) (x3 : List Int), i + d = x0.length → x3.length = x0.length →
    Ev (fun k => laws_toIntS.l0 k x0 x3 (i : Int)) (x3.take i ++ x0.drop i) := by
  intro d
  induction d with
  | zero =>
    intro i x3 hi hl
    refine Ev.step (fun k => laws_toIntS.l0.eq_2 ..) (evn (by omega) (evs ?_))
    simp [List.take_of_length_le (show x3.length ≤ i by omega), List.drop_of_length_le (show x0.length ≤ i by omega)]
  | succ d ih =>
    intro i x3 hi hl
    refine Ev.step (fun k => laws_toIntS.l0.eq_2 ..) (evp (by omega) (evp (by omega) (evp (by omega) ?_)))
    rw [w64s i (by omega), rd_nat]
    refine evr (ih (i + 1) _ (by omega) (by simpa using hl)) ?_
    rw [Int.toNat_natCast, set_take _ _ _ (by omega), List.drop_eq_getElem_cons (show i < x0.length by omega), List.append_assoc]
    simp [List.getD_eq_getElem?_getD, List.getElem?_eq_getElem (show i < x0.length by omega)]
theorem toIntS (l : List Int) (h : l.length ≤ 35184372088832) : Ev (fun k => laws_toIntS.f k l) l := by
  unfold laws_toIntS.f
  refine evp (by omega) (evp (by simpa using h) ?_)
  refine evr (toIntS_l0 l (by omega) l.length 0 _ (by omega) (by simp)) (by simp)

/-! ### laws_eqIntS -/
theorem eqIntS_l0 (a b : List Int) (hl : a.length = b.length) (hx : a.length < 4611686018427387904) : ∀ (d i : Nat), i + d = a.length →
    Ev (fun k => laws_eqIntS.l0 k a b (i : Int)) (decide (a.drop i = b.drop i)) := by
  intro d
  induction d with
  | zero =>
    intro i hi
    refine Ev.step (fun k => laws_eqIntS.l0.eq_2 ..) (evn (by omega) (evs ?_))
    simp [List.drop_of_length_le (show a.length ≤ i by omega), List.drop_of_length_le (show b.length ≤ i by omega)]
  | succ d ih =>
    intro i hi
    refine Ev.step (fun k => laws_eqIntS.l0.eq_2 ..) (evp (by omega) (evp (by omega) (evp (by omega) ?_)))
    rw [w64s i (by omega), rd_nat, rd_nat]
    have ea := List.drop_eq_getElem_cons (show i < a.length by omega)
    have eb := List.drop_eq_getElem_cons (show i < b.length by omega)
    simp only [List.getD_eq_getElem?_getD, List.getElem?_eq_getElem (show i < a.length by omega), List.getElem?_eq_getElem (show i < b.length by omega), Option.getD_some]
    by_cases e : a[i] = b[i]
    · refine evp e (evr (ih (i + 1) (by omega)) ?_)
      rw [ea, eb, e]; simp only [List.cons.injEq, true_and]
    · refine evn e (evs ?_)
      rw [ea, eb]; simp only [List.cons.injEq, e, false_and, decide_false]
theorem eqIntS (a b : List Int) (hx : a.length < 4611686018427387904) : Ev (fun k => laws_eqIntS.f k a b) (decide (a = b)) := by
  unfold laws_eqIntS.f
  by_cases h : a.length = b.length
  · refine evp (by omega) (evr (eqIntS_l0 a b h hx a.length 0 (by omega)) (by simp))
  · refine evn (by omega) (evs ?_)
    have : a ≠ b := fun e => h (by rw [e])
    simp [this]

/-! ### laws_markIntS -/
theorem markIntS_l0 (d : Nat) : ∀ (x0 : List Int) (m : Int) (i : Nat), i + d = x0.length → x0.length < 4611686018427387904 → 0 ≤ m → m + d < 4611686018427387904 →
    Ev (fun k => laws_markIntS.l0 k x0 m (i : Int)) (m + d, x0.take i ++ (List.range d).map fun j : Nat => m + (j : Int)) := by
  induction d with
  | zero =>
    intro x0 m i hi hx h0 hm
    refine Ev.step (fun k => laws_markIntS.l0.eq_2 ..) (evn (by omega) (evs ?_))
    simp [List.take_of_length_le (show x0.length ≤ i by omega)]
  | succ d ih =>
    intro x0 m i hi hx h0 hm
    refine Ev.step (fun k => laws_markIntS.l0.eq_2 ..) (evp (by omega) (evp (by omega) ?_))
    rw [w64s i (by omega), w64 (x := m + 1) (by omega) (by omega)]
    refine evr (ih _ _ (i + 1) (by simp; omega) (by simpa using hx) (by omega) (by omega)) ?_
    rw [Int.toNat_natCast, set_take _ _ _ (by omega), List.append_assoc, List.range_succ_eq_map]
    simp only [List.map_cons, List.map_map, Prod.mk.injEq]
    refine ⟨by push_cast; omega, ?_⟩
    congr 1
    simp only [List.cons_append, List.nil_append, List.cons.injEq]
    refine ⟨by simp, List.map_congr_left fun j _ => by simp; omega⟩
theorem markIntS (l : List Int) (m : Int) (h0 : 0 ≤ m) (h : m + l.length < 4611686018427387904) : Ev (fun k => laws_markIntS.f k l m) (m + l.length, marks l m) := by
  unfold laws_markIntS.f
  exact evr (markIntS_l0 l.length l m 0 (by omega) (by omega) h0 h) (by simp [marks])

/-! ### laws_heldIntS -/
theorem heldIntS_l0 (l : List Int) (m : Int) (h0 : 0 ≤ m) (hm : m + l.length < 4611686018427387904) (hv : ∀ i, i < l.length → l.getD i 0 = m + i) : ∀ (d i : Nat), i + d = l.length →
    Ev (fun k => laws_heldIntS.l0 k l (m + (i : Int)) (i : Int)) (m + l.length) := by
  intro d
  induction d with
  | zero =>
    intro i hi
    refine Ev.step (fun k => laws_heldIntS.l0.eq_2 ..) (evn (by omega) (evs ?_))
    omega
  | succ d ih =>
    intro i hi
    refine Ev.step (fun k => laws_heldIntS.l0.eq_2 ..) (evp (by omega) (evp (by omega) ?_))
    rw [w64s i (by omega), w64 (x := m + i + 1) (by omega) (by omega), rd_nat]
    refine evp (hv i (by omega)) ?_
    have := ih (i + 1) (by omega)
    rw [show m + ((i + 1 : Nat) : Int) = m + i + 1 by omega] at this
    exact this
theorem heldIntS (l : List Int) (m : Int) (h0 : 0 ≤ m) (hm : m + l.length < 4611686018427387904) : Ev (fun k => laws_heldIntS.f k (marks l m) m) (m + l.length) := by
  unfold laws_heldIntS.f
  have h := heldIntS_l0 (marks l m) m h0 (by rw [marks_length]; exact hm) (fun i hi => marks_at l m i (by rwa [marks_length] at hi)) l.length 0 (by rw [marks_length]; omega)
  rw [marks_length] at h
  simpa using h

/-! ### spec_l1In -/
theorem l1In (a b c : Int) : spec_l1In.f a b c = some (decide (b ≤ a ∧ a ≤ c)) := by
  unfold spec_l1In.f; split <;> simp_all <;> omega

/-! ### impl_within -/
theorem within (a b c : Int) : impl_within.f a b c = some (decide (b ≤ a ∧ a ≤ c)) := by
  unfold impl_within.f; split <;> simp_all <;> omega

/-! ### spec_l2Table -/
theorem l2Table_l0 (l : List Int) (hx : l.length < 4611686018427387904) : ∀ (d i : Nat), i + d = l.length →
    Ev (fun k => spec_l2Table.l0 k l (i : Int)) ((l.drop i).all fun x => decide (0 ≤ x ∧ x ≤ 1)) := by
  intro d
  induction d with
  | zero =>
    intro i hi
    refine Ev.step (fun k => spec_l2Table.l0.eq_2 ..) (evn (by omega) (evs ?_))
    simp [List.drop_of_length_le (show l.length ≤ i by omega)]
  | succ d ih =>
    intro i hi
    refine Ev.step (fun k => spec_l2Table.l0.eq_2 ..) (evp (by omega) (evp (by omega) ?_))
    rw [w64s i (by omega), rd_nat, l1In, List.drop_eq_getElem_cons (show i < l.length by omega)]
    simp only [List.getD_eq_getElem?_getD, List.getElem?_eq_getElem (show i < l.length by omega), Option.getD_some, Option.bind_some, List.all_cons]
    by_cases e : 0 ≤ l[i] ∧ l[i] ≤ 1
    · refine evp (by simpa using e) (evr (ih (i + 1) (by omega)) (by simp [e]))
    · refine evn (by simpa using e) (evs (by simp [e]))
theorem l2Table (n : Int) (l : List Int) (hx : l.length < 4611686018427387904) : Ev (fun k => spec_l2Table.f k n l) (isTab n l) := by
  unfold spec_l2Table.f isTab
  rw [l1In]
  simp only [Option.bind_some]
  by_cases h : 0 ≤ n ∧ n ≤ 4
  · refine evp (by simpa using h) (evp h.1 (Ev.step (fun k => spec_l2Table.j0.eq_2 ..) ?_))
    obtain ⟨m, rfl⟩ := Int.eq_ofNat_of_zero_le h.1
    rw [shl1 m (by omega)]
    by_cases e : l.length = 2 ^ m
    · refine evn (by simp [e]) (evr (l2Table_l0 l hx l.length 0 (by omega)) (by simp [e]; omega))
    · refine evp (by simp; exact_mod_cast e) (evs (by simp [e]))
  · refine evn (by simpa using h) (Ev.step (fun k => spec_l2Table.j0.eq_2 ..) (evp rfl (evs (by simp [h]))))

/-! ### impl_allWithin -/
theorem allWithin_l0 (lo up : Int) (l : List Int) (hx : l.length < 4611686018427387904) : ∀ (d i : Nat), i + d = l.length →
    Ev (fun k => impl_allWithin.l0 k lo up l (l.length : Int) (i : Int)) ((l.drop i).all fun x => decide (lo ≤ x ∧ x ≤ up)) := by
  intro d
  induction d with
  | zero =>
    intro i hi
    refine Ev.step (fun k => impl_allWithin.l0.eq_2 ..) (evn (by omega) (evs ?_))
    simp [List.drop_of_length_le (show l.length ≤ i by omega)]
  | succ d ih =>
    intro i hi
    refine Ev.step (fun k => impl_allWithin.l0.eq_2 ..) (evp (by omega) (evp (by omega) (evp (by omega) ?_)))
    rw [w64s i (by omega), rd_nat, within, List.drop_eq_getElem_cons (show i < l.length by omega)]
    simp only [List.getD_eq_getElem?_getD, List.getElem?_eq_getElem (show i < l.length by omega), Option.getD_some, Option.bind_some, List.all_cons]
    by_cases e : lo ≤ l[i] ∧ l[i] ≤ up
    · refine evp (by simpa using e) (evr (ih (i + 1) (by omega)) (by simp [e]))
    · refine evn (by simpa using e) (evs (by simp [e]))
theorem allWithin (l : List Int) (lo up : Int) (hx : l.length < 4611686018427387904) : Ev (fun k => impl_allWithin.f k l lo up) (l.all fun x => decide (lo ≤ x ∧ x ≤ up)) := by
  unfold impl_allWithin.f
  exact allWithin_l0 lo up l hx l.length 0 (by omega)

/-! ### impl_isTable -/
theorem isTable (n : Int) (l : List Int) (hx : l.length < 4611686018427387904) : Ev (fun k => impl_isTable.f k n l) (isTab n l) := by
  unfold impl_isTable.f isTab
  rw [within]
  simp only [Option.bind_some]
  by_cases h : 0 ≤ n ∧ n ≤ 4
  · obtain ⟨m, rfl⟩ := Int.eq_ofNat_of_zero_le h.1
    refine evp (by simpa using h) (evp h.1 ?_)
    rw [shl1 m (by omega)]
    by_cases e : l.length = 2 ^ m
    · refine evp (by exact_mod_cast e) (evb (allWithin l 0 1 hx) (evs (by simp [e]; omega)))
    · refine evn (by exact_mod_cast e) (evs (by simp [e]))
  · refine evn (by simpa using h) (evs (by simp [h]))

/-! ### impl_ways -/
theorem ways_l0 {m : Nat} {l : List Int} (h : Tab m l) (i : Nat) (hi : i < m) : ∀ (d j : Nat) (a b : Int), j + d = l.length → 0 ≤ a → a ≤ j → 0 ≤ b → b ≤ j →
    Ev (fun k => impl_ways.l0 k l (i : Int) a b (l.length : Int) (j : Int)) (a + sumN (won l i) j d, b + sumN (lost l i) j d) := by
  have hlen := h.len
  have hm := h.1
  intro d
  induction d with
  | zero =>
    intro j a b hj _ _ _ _
    refine Ev.step (fun k => impl_ways.l0.eq_2 ..) (evn (by omega) (evs ?_))
    simp [sumN]
  | succ d ih =>
    intro j a b hj ha ha' hb hb'
    refine Ev.step (fun k => impl_ways.l0.eq_2 ..) (evp (by omega) (evp (by omega) ?_))
    rw [digit j i (by omega) (by omega), w64s j (by omega)]
    by_cases e : bit j i = 1
    · refine evp (by omega) (evr (ih (j + 1) a b (by omega) ha (by omega) hb (by omega)) ?_)
      simp [sumN, lost, won, e]
    · have e0 : bit j i = 0 := by have := bit_lt j i; omega
      have hlt := bit_add_lt (h.2.1 ▸ (show j < l.length by omega)) hi e0
      have hlt' : j + 2 ^ i < l.length := by rw [h.2.1]; exact hlt
      have hq := Nat.two_pow_pos i
      have hp : (2 : Nat) ^ i < 2 ^ 63 := Nat.pow_lt_pow_right (by decide) (by omega)
      rw [shl1 i (by omega), or_nat j (2 ^ i) (by omega) hp, bit_or j i e0]
      refine evn (by omega) (evp (by omega) (evp (by omega) (evp (by omega) (evp (by omega) ?_))))
      rw [rd_nat, rd_nat]
      have u' : lost l i j = l.getD j 0 * (1 - l.getD (j + 2 ^ i) 0) := by unfold lost; rw [if_neg e]
      have v' : won l i j = l.getD (j + 2 ^ i) 0 * (1 - l.getD j 0) := by unfold won; rw [if_neg e]
      have p := h.at_ j; have q := h.at_ (j + 2 ^ i)
      generalize l.getD (j + 2 ^ i) 0 = y at *; generalize l.getD j 0 = x at *
      rw [w64 (x := y - x) (by omega) (by omega)]
      obtain rfl | rfl : x = 0 ∨ x = 1 := by omega
      · obtain rfl | rfl : y = 0 ∨ y = 1 := by omega
        · refine evn (by omega) (evn (by omega) (evr (ih (j + 1) a b (by omega) ha (by omega) hb (by omega)) ?_))
          simp only [sumN, Prod.mk.injEq]; omega
        · rw [w64 (x := a + 1) (by omega) (by omega)]
          refine evp (by omega) (evr (ih (j + 1) (a + 1) b (by omega) (by omega) (by omega) hb (by omega)) ?_)
          simp only [sumN, Prod.mk.injEq]; omega
      · obtain rfl | rfl : y = 0 ∨ y = 1 := by omega
        · rw [w64 (x := b + 1) (by omega) (by omega)]
          refine evn (by omega) (evp (by omega) (evr (ih (j + 1) a (b + 1) (by omega) ha (by omega) (by omega) (by omega)) ?_))
          simp only [sumN, Prod.mk.injEq]; omega
        · refine evn (by omega) (evn (by omega) (evr (ih (j + 1) a b (by omega) ha (by omega) hb (by omega)) ?_))
          simp only [sumN, Prod.mk.injEq]; omega
theorem ways {m : Nat} {l : List Int} (h : Tab m l) (i : Nat) (hi : i < m) : Ev (fun k => impl_ways.f k l (i : Int)) (gains l i, losses l i) := by
  unfold impl_ways.f
  exact evr (ways_l0 h i hi l.length 0 0 0 (by omega) (by omega) (by omega) (by omega) (by omega)) (by simp [losses, gains])

/-! ### spec_l6Game -/
theorem l6Game_l1 {m : Nat} {l : List Int} (h : Tab m l) (j : Nat) (hj : j < l.length) (r : Bool) (hr : Ev (fun k => spec_l6Game.l0 k (m : Int) l ((j + 1 : Nat) : Int)) r) : ∀ (d i : Nat), i + d = m →
    Ev (fun k => spec_l6Game.l1 k (m : Int) l (j : Int) (i : Int)) ((List.range' i d).all (rises l j) && r) := by
  have hlen := h.len
  have hm := h.1
  intro d
  induction d with
  | zero =>
    intro i hi
    refine Ev.step (fun k => spec_l6Game.l1.eq_2 ..) (evn (by omega) ?_)
    rw [w64s j (by omega)]
    exact evr hr (by simp)
  | succ d ih =>
    intro i hi
    have hq := Nat.two_pow_pos i
    have hp : (2 : Nat) ^ i < 2 ^ 63 := Nat.pow_lt_pow_right (by decide) (by omega)
    have ho : j ||| 2 ^ i < l.length := by rw [h.2.1]; exact Nat.or_lt_two_pow (h.2.1 ▸ hj) (Nat.pow_lt_pow_right (by decide) (by omega))
    refine Ev.step (fun k => spec_l6Game.l1.eq_2 ..) (evp (by omega) (evp (by omega) (evp (by omega) (evp (by omega) ?_))))
    rw [shl1 i (by omega), or_nat j (2 ^ i) (by omega) hp, w64s i (by omega), rd_nat, rd_nat]
    refine evp (by omega) (evp (by omega) ?_)
    by_cases e : l.getD j 0 > l.getD (j ||| 2 ^ i) 0
    · refine evp e (evs ?_)
      have : rises l j i = false := by unfold rises; exact decide_eq_false (by omega)
      simp [List.range'_succ, this]
    · refine evn e (evr (ih (i + 1) (by omega)) ?_)
      have : rises l j i = true := by unfold rises; exact decide_eq_true (by omega)
      simp [List.range'_succ, this]
theorem l6Game_l0 {m : Nat} {l : List Int} (h : Tab m l) : ∀ (d j : Nat), j + d = l.length →
    Ev (fun k => spec_l6Game.l0 k (m : Int) l (j : Int)) ((List.range' j d).all (fun c => (List.range m).all (rises l c)) && ends l) := by
  have hlen := h.len
  have hpos : 0 < l.length := by rw [h.2.1]; exact Nat.two_pow_pos m
  intro d
  induction d with
  | zero =>
    intro j hj
    refine Ev.step (fun k => spec_l6Game.l0.eq_2 ..) (evn (by omega) (evp (by omega) ?_))
    rw [w64 (x := (l.length : Int) - 1) (by omega) (by omega), show (l.length : Int) - 1 = ((l.length - 1 : Nat) : Int) by omega, rd_nat, show rd l 0 = l.getD 0 0 from rfl]
    by_cases e : l.getD 0 0 = 0
    · exact evp e (evp (by omega) (evp (by omega) (evs (by unfold ends; rw [decide_eq_true e]; simp))))
    · exact evn e (evs (by unfold ends; rw [decide_eq_false e]; simp))
  | succ d ih =>
    intro j hj
    refine Ev.step (fun k => spec_l6Game.l0.eq_2 ..) (evp (by omega) ?_)
    refine evr (l6Game_l1 h j (by omega) _ (ih (j + 1) (by omega)) m 0 (by omega)) ?_
    rw [List.range'_succ, List.all_cons, List.range_eq_range', Bool.and_assoc]
theorem l6Game {m : Nat} {l : List Int} (h : Tab m l) : Ev (fun k => spec_l6Game.f k (m : Int) l) ((List.range m).all (fun i => decide (losses l i = 0)) && ends l) := by
  unfold spec_l6Game.f
  refine evr (l6Game_l0 h l.length 0 (by omega)) ?_
  rw [← List.range_eq_range', game_rises h]

/-! ### impl_isGame -/
theorem isGame_l0 {m : Nat} {l : List Int} (h : Tab m l) (h1 : 1 ≤ m) : ∀ (d i : Nat), i + d = m →
    Ev (fun k => impl_isGame.l0 k (m : Int) l (m : Int) (i : Int)) ((List.range' i d).all (fun i => decide (losses l i = 0)) && ends l) := by
  have hlen := h.len
  have hm := h.1
  have hpos : 0 < l.length := by rw [h.2.1]; exact Nat.two_pow_pos m
  intro d
  induction d with
  | zero =>
    intro i hi
    refine Ev.step (fun k => impl_isGame.l0.eq_2 ..) (evn (by omega) (evp (by omega) (evp (by omega) ?_)))
    rw [w64 (x := (l.length : Int) - 1) (by omega) (by omega), show (l.length : Int) - 1 = ((l.length - 1 : Nat) : Int) by omega, rd_nat, show rd l 0 = l.getD 0 0 from rfl]
    by_cases e : l.getD 0 0 = 0
    · exact evp e (evp (by omega) (evp (by omega) (evs (by unfold ends; rw [decide_eq_true e]; simp))))
    · exact evn e (evs (by unfold ends; rw [decide_eq_false e]; simp))
  | succ d ih =>
    intro i hi
    have v := h.losses i
    refine Ev.step (fun k => impl_isGame.l0.eq_2 ..) (evp (by omega) (evb (ways h i (by omega)) ?_))
    rw [w64s i (by omega)]
    by_cases e : losses l i = 0
    · refine evn (by show ¬ losses l i > 0; omega) (evr (ih (i + 1) (by omega)) ?_)
      simp [List.range'_succ, e]
    · refine evp (by show losses l i > 0; omega) (evs ?_)
      simp [List.range'_succ, e]
theorem isGame {m : Nat} {l : List Int} (h : Tab m l) (h1 : 1 ≤ m) : Ev (fun k => impl_isGame.f k (m : Int) l) ((List.range m).all (fun i => decide (losses l i = 0)) && ends l) := by
  unfold impl_isGame.f
  refine evr (isGame_l0 h h1 m 0 (by omega)) ?_
  rw [← List.range_eq_range']

/-! ### laws_eqVote laws_eqIntS -/
theorem eqVote (l : List Int) (q : Int) (l' : List Int) (q' : Int) (h : l.length < 4611686018427387904) : Ev (fun k => laws_eqVote.f k l q l' q') (decide (l = l') && decide (q = q')) := by
  unfold laws_eqVote.f
  refine evb (eqIntS l l' h) ?_
  by_cases e : l = l'
  · refine evp (by simpa using e) ?_
    by_cases e' : q = q'
    · exact evp e' (evs (by simp [e, e']))
    · exact evn e' (evs (by simp [e, e']))
  · exact evn (by simpa using e) (evs (by simp [e]))

/-! ### laws_markVote laws_markIntS -/
theorem markVote (l : List Int) (q m : Int) (h0 : 0 ≤ m) (h : m + l.length < 4611686018427387904) : Ev (fun k => laws_markVote.f k l q m) (m + l.length, marks l m) := by
  unfold laws_markVote.f
  exact evb (markIntS l m h0 h) (evs rfl)

/-! ### laws_heldVote laws_heldIntS -/
theorem heldVote (l : List Int) (q m : Int) (h0 : 0 ≤ m) (h : m + l.length < 4611686018427387904) : Ev (fun k => laws_heldVote.f k (marks l m) q m) (m + l.length) := by
  unfold laws_heldVote.f
  exact evb (heldIntS l m h0 h) (evn (by omega) (evs rfl))

/-! ### spec_l6Vote -/
theorem l6Vote_l0 (l : List Int) (q : Int) (hl : l.length < 4611686018427387904) : ∀ (d i : Nat) (s : Int), i + d = l.length → i ≤ 9 → 0 ≤ s → s ≤ 20 * i →
    Ev (fun k => spec_l6Vote.l0 k s (i : Int) l q) (decide (1 ≤ l.length ∧ l.length ≤ 8) && (okW (l.drop i) && decide (1 ≤ q ∧ q ≤ s + isum (l.drop i)))) := by
  intro d
  induction d with
  | zero =>
    intro i s hi h9 hs0 hs
    have hd : l.drop i = [] := List.drop_of_length_le (by omega)
    refine Ev.step (fun k => spec_l6Vote.l0.eq_2 ..) (evn (by omega) (Ev.step (fun k => spec_l6Vote.j1.eq_2 ..) (evn (by simp) ?_)))
    rw [l1In, l1In]; simp only [Option.bind_some]
    by_cases e : 1 ≤ l.length ∧ l.length ≤ 8
    · refine evp (by simp; omega) (evs ?_)
      rw [hd, decide_eq_true e]; simp [okW, isum]
    · refine evn (by simp; omega) (evs ?_)
      rw [decide_eq_false e]; simp
  | succ d ih =>
    intro i s hi h9 hs0 hs
    have hd := List.drop_eq_getElem_cons (show i < l.length by omega)
    refine Ev.step (fun k => spec_l6Vote.l0.eq_2 ..) (evp (by omega) (Ev.step (fun k => spec_l6Vote.j1.eq_2 ..) ?_))
    by_cases e8 : i ≤ 8
    · refine evp (by simp; omega) (evp (by omega) (evp (by omega) ?_))
      rw [l1In, rd_nat, w64s i (by omega)]
      simp only [List.getD_eq_getElem?_getD, List.getElem?_eq_getElem (show i < l.length by omega), Option.getD_some, Option.bind_some]
      by_cases e : 0 ≤ l[i] ∧ l[i] ≤ 20
      · refine evp (by simpa using e) ?_
        rw [w64 (x := s + l[i]) (by omega) (by omega)]
        refine evr (ih (i + 1) _ (by omega) (by omega) (by omega) (by omega)) ?_
        rw [hd, show s + isum (l[i] :: l.drop (i + 1)) = s + l[i] + isum (l.drop (i + 1)) by simp only [isum]; omega]; simp only [okW, List.all_cons, decide_eq_true e, Bool.true_and]
      · refine evn (by simpa using e) (evs ?_)
        rw [hd]; simp only [okW, List.all_cons, decide_eq_false e, Bool.false_and, Bool.and_false]
    · refine evn (by simp; omega) ?_
      rw [l1In, l1In]; simp only [Option.bind_some]
      have e : ¬ (1 ≤ l.length ∧ l.length ≤ 8) := by omega
      refine evn (by simp; omega) (evs ?_)
      rw [decide_eq_false e]; simp
theorem l6Vote (l : List Int) (q : Int) (hl : l.length < 4611686018427387904) : Ev (fun k => spec_l6Vote.f k l q) (voteB l q) := by
  unfold spec_l6Vote.f
  exact evr (l6Vote_l0 l q hl l.length 0 0 (by omega) (by omega) (by omega) (by omega)) (by simp [voteB])

/-! ### impl_total -/
theorem total_l0 (l : List Int) (b : Int) (hb : 0 ≤ b ∧ b ≤ 1000000000000) (hx : ∀ x ∈ l, -b ≤ x ∧ x ≤ b) (hl : l.length ≤ 1048576) : ∀ (d i : Nat) (s : Int), i + d = l.length → -(b * i) ≤ s → s ≤ b * i →
    Ev (fun k => impl_total.l0 k s l (l.length : Int) (i : Int)) (s + isum (l.drop i)) := by
  intro d
  induction d with
  | zero =>
    intro i s hi hs0 hs
    have hd : l.drop i = [] := List.drop_of_length_le (by omega)
    exact Ev.step (fun k => impl_total.l0.eq_2 ..) (evn (by omega) (evs (by rw [hd]; simp [isum])))
  | succ d ih =>
    intro i s hi hs0 hs
    have hd := List.drop_eq_getElem_cons (show i < l.length by omega)
    have hi' := hx l[i] (List.getElem_mem (by omega))
    have hbi : b * (i : Int) ≤ 1000000000000 * 1048576 := Int.mul_le_mul hb.2 (by omega) (by omega) (by omega)
    have hbs : b * ((i + 1 : Nat) : Int) = b * i + b := by rw [show ((i + 1 : Nat) : Int) = (i : Int) + 1 by omega, Int.mul_add]; omega
    refine Ev.step (fun k => impl_total.l0.eq_2 ..) (evp (by omega) (evp (by omega) (evp (by omega) ?_)))
    rw [rd_nat, w64s i (by omega)]
    simp only [List.getD_eq_getElem?_getD, List.getElem?_eq_getElem (show i < l.length by omega), Option.getD_some]
    rw [w64 (x := s + l[i]) (by omega) (by omega)]
    refine evr (ih (i + 1) _ (by omega) (by omega) (by omega)) ?_
    rw [hd]; simp only [isum, Int.add_assoc]
theorem total (l : List Int) (b : Int) (hb : 0 ≤ b ∧ b ≤ 1000000000000) (hx : ∀ x ∈ l, -b ≤ x ∧ x ≤ b) (hl : l.length ≤ 1048576) : Ev (fun k => impl_total.f k l) (isum l) := by
  unfold impl_total.f
  exact evr (total_l0 l b hb hx hl l.length 0 0 (by omega) (by simp) (by simp)) (by simp)

/-! ### spec_l6Wins -/
theorem l6Wins_l1 {l : List Int} {q : Int} (h : Vot l q) (c : Nat) (hc : c < 2 ^ l.length) (out : List Bool) (ho : out.length = c) (r : List Bool)
    (hr : Ev (fun k => spec_l6Wins.l0 k (out ++ [winB l q c]) ((c + 1 : Nat) : Int) l q) r) : ∀ (d i : Nat) (s : Int), i + d = l.length → 0 ≤ s → s ≤ 20 * i → s + sumN (wterm l c) i d = wsum l c →
    Ev (fun k => spec_l6Wins.l1 k out (c : Int) s (i : Int) l q) r := by
  have h8 := h.1
  have hp := pow8 l.length h8.2
  intro d
  induction d with
  | zero =>
    intro i s hi h0 hs he
    refine Ev.step (fun k => spec_l6Wins.l1.eq_2 ..) (evn (by omega) (evp (by omega) ?_))
    rw [w64s c (by omega)]
    simp only [sumN, Int.add_zero] at he
    subst he
    exact hr
  | succ d ih =>
    intro i s hi h0 hs he
    have ht := h.wterm c i
    refine Ev.step (fun k => spec_l6Wins.l1.eq_2 ..) (evp (by omega) (evp (by omega) ?_))
    rw [digit c i (by omega) (by omega), rd_nat, w64s i (by omega), show l.getD i 0 * ((bit c i : Nat) : Int) = wterm l c i from rfl, w64 (x := wterm l c i) (by omega) (by omega), w64 (x := s + wterm l c i) (by omega) (by omega)]
    refine ih (i + 1) _ (by omega) (by omega) (by omega) ?_
    rw [← he]; simp only [sumN]; omega
theorem l6Wins_l0 {l : List Int} {q : Int} (h : Vot l q) : ∀ (d c : Nat) (out : List Bool), c + d = 2 ^ l.length → out.length = c →
    Ev (fun k => spec_l6Wins.l0 k out (c : Int) l q) (out ++ (List.range' c d).map (winB l q)) := by
  have h8 := h.1
  have hp := pow8 l.length h8.2
  intro d
  induction d with
  | zero =>
    intro c out hc ho
    refine Ev.step (fun k => spec_l6Wins.l0.eq_2 ..) ?_
    rw [shl1 l.length (by omega)]
    exact evn (by omega) (evs (by simp))
  | succ d ih =>
    intro c out hc ho
    refine Ev.step (fun k => spec_l6Wins.l0.eq_2 ..) ?_
    rw [shl1 l.length (by omega)]
    refine evp (by omega) (evr (l6Wins_l1 h c (by omega) out ho _ (ih (c + 1) _ (by omega) (by simp; omega)) l.length 0 0 (by omega) (by omega) (by omega) (by simp [wsum])) ?_)
    simp [List.range'_succ]
theorem l6Wins {l : List Int} {q : Int} (h : Vot l q) : Ev (fun k => spec_l6Wins.f k l q) ((List.range (2 ^ l.length)).map (winB l q)) := by
  unfold spec_l6Wins.f
  refine evr (l6Wins_l0 h (2 ^ l.length) 0 [] (by omega) rfl) ?_
  rw [List.range_eq_range']; rfl

/-! ### spec_l1Own -/
theorem l1Own (l : List Int) (h : l.length < 17592186044416) : spec_l1Own.f l = some l := by
  unfold spec_l1Own.f
  simp only [Option.bind_some]
  rw [if_pos (by simpa using h)]; rfl

/-! ### impl_copied -/
theorem copied (l : List Int) (h : l.length < 17592186044416) : impl_copied.f l = some l := by
  unfold impl_copied.f
  simp only [Option.bind_some]
  rw [if_pos (by simpa using h)]; rfl

/-! ### spec_l6Sum -/
theorem l6Sum_l0 {l : List Int} {q : Int} (h : Vot l q) : ∀ (d i : Nat) (s : Int), i + d = l.length → 0 ≤ s → s ≤ 20 * i →
    Ev (fun k => spec_l6Sum.l0 k s (i : Int) l q) (s + isum (l.drop i)) := by
  have h8 := h.1
  intro d
  induction d with
  | zero =>
    intro i s hi h0 hs
    have hd : l.drop i = [] := List.drop_of_length_le (by omega)
    exact Ev.step (fun k => spec_l6Sum.l0.eq_2 ..) (evn (by omega) (evs (by rw [hd]; simp [isum])))
  | succ d ih =>
    intro i s hi h0 hs
    have hd := List.drop_eq_getElem_cons (show i < l.length by omega)
    have hi' := h.2.1 l[i] (List.getElem_mem (by omega))
    refine Ev.step (fun k => spec_l6Sum.l0.eq_2 ..) (evp (by omega) (evp (by omega) ?_))
    rw [rd_nat, w64s i (by omega)]
    simp only [List.getD_eq_getElem?_getD, List.getElem?_eq_getElem (show i < l.length by omega), Option.getD_some]
    rw [w64 (x := s + l[i]) (by omega) (by omega)]
    refine evr (ih (i + 1) _ (by omega) (by omega) (by omega)) ?_
    rw [hd]; simp only [isum, Int.add_assoc]
theorem l6Sum {l : List Int} {q : Int} (h : Vot l q) : Ev (fun k => spec_l6Sum.f k l q) (isum l) := by
  unfold spec_l6Sum.f
  exact evr (l6Sum_l0 h l.length 0 0 (by omega) (by omega) (by omega)) (by simp)

/-! ### spec_l2Dot -/
theorem l2Dot_l0 (a b : List Int) (M : Int) (hM : 0 ≤ M ∧ M ≤ 1000000000000) (hab : ∀ i, -M ≤ a.getD i 0 * b.getD i 0 ∧ a.getD i 0 * b.getD i 0 ≤ M) (hl : a.length ≤ 1000) (hb : a.length ≤ b.length) : ∀ (d i : Nat) (s : Int), i + d = a.length → -(M * i) ≤ s → s ≤ M * i →
    Ev (fun k => spec_l2Dot.l0 k a b s (i : Int)) (s + dot (a.drop i) (b.drop i)) := by
  intro d
  induction d with
  | zero =>
    intro i s hi h0 hs
    exact Ev.step (fun k => spec_l2Dot.l0.eq_2 ..) (evn (by omega) (evs (by rw [List.drop_of_length_le (show a.length ≤ i by omega)]; simp [dot])))
  | succ d ih =>
    intro i s hi h0 hs
    have hm := hab i
    have hMi : M * (i : Int) ≤ 1000000000000 * 1000 := Int.mul_le_mul hM.2 (by omega) (by omega) (by omega)
    have hMs : M * ((i + 1 : Nat) : Int) = M * i + M := by rw [show ((i + 1 : Nat) : Int) = (i : Int) + 1 by omega, Int.mul_add]; omega
    refine Ev.step (fun k => spec_l2Dot.l0.eq_2 ..) (evp (by omega) (evp (by omega) (evp (by omega) ?_)))
    rw [rd_nat, rd_nat, w64s i (by omega), w64 (x := a.getD i 0 * b.getD i 0) (by omega) (by omega), w64 (x := s + a.getD i 0 * b.getD i 0) (by omega) (by omega)]
    refine evr (ih (i + 1) _ (by omega) (by omega) (by omega)) ?_
    rw [List.drop_eq_getElem_cons (show i < a.length by omega), List.drop_eq_getElem_cons (show i < b.length by omega)]
    simp only [List.getD_eq_getElem?_getD, List.getElem?_eq_getElem (show i < a.length by omega), List.getElem?_eq_getElem (show i < b.length by omega), Option.getD_some, dot]; omega
theorem getD_in {l : List Int} {A : Int} (hA : 0 ≤ A) (h : ∀ x ∈ l, -A ≤ x ∧ x ≤ A) (i : Nat) : -A ≤ l.getD i 0 ∧ l.getD i 0 ≤ A := by
  by_cases hi : i < l.length
  · rw [List.getD_eq_getElem?_getD, List.getElem?_eq_getElem hi]; exact h _ (List.getElem_mem hi)
  · rw [List.getD_eq_getElem?_getD, List.getElem?_eq_none (by omega)]; simp; omega
theorem l2Dot (a b : List Int) (A B : Int) (hA : 0 ≤ A ∧ A ≤ 1000000) (hB : 0 ≤ B ∧ B ≤ 1000000) (ha : ∀ x ∈ a, -A ≤ x ∧ x ≤ A) (hb : ∀ x ∈ b, -B ≤ x ∧ x ≤ B) (hl : a.length ≤ 1000) (hab : a.length ≤ b.length) : Ev (fun k => spec_l2Dot.f k a b) (dot a b) := by
  unfold spec_l2Dot.f
  have hM : A * B ≤ 1000000 * 1000000 := Int.mul_le_mul hA.2 hB.2 hB.1 (by omega)
  have hM0 := Int.mul_nonneg hA.1 hB.1
  exact evr (l2Dot_l0 a b (A * B) ⟨hM0, by omega⟩ (fun i => mul_bd (getD_in hA.1 ha i) (getD_in hB.1 hb i)) hl hab a.length 0 0 (by omega) (by simp) (by simp)) (by simp)

/-! ### impl_product -/
theorem product_l0 (a b : List Int) (M : Int) (hM : 0 ≤ M ∧ M ≤ 1000000000000) (hab : ∀ i, -M ≤ a.getD i 0 * b.getD i 0 ∧ a.getD i 0 * b.getD i 0 ≤ M) (hl : a.length ≤ 1000) (hb : a.length ≤ b.length) : ∀ (d i : Nat) (s : Int), i + d = a.length → -(M * i) ≤ s → s ≤ M * i →
    Ev (fun k => impl_product.l0 k b s a (a.length : Int) (i : Int)) (s + dot (a.drop i) (b.drop i)) := by
  intro d
  induction d with
  | zero =>
    intro i s hi h0 hs
    exact Ev.step (fun k => impl_product.l0.eq_2 ..) (evn (by omega) (evs (by rw [List.drop_of_length_le (show a.length ≤ i by omega)]; simp [dot])))
  | succ d ih =>
    intro i s hi h0 hs
    have hm := hab i
    have hMi : M * (i : Int) ≤ 1000000000000 * 1000 := Int.mul_le_mul hM.2 (by omega) (by omega) (by omega)
    have hMs : M * ((i + 1 : Nat) : Int) = M * i + M := by rw [show ((i + 1 : Nat) : Int) = (i : Int) + 1 by omega, Int.mul_add]; omega
    refine Ev.step (fun k => impl_product.l0.eq_2 ..) (evp (by omega) (evp (by omega) (evp (by omega) (evp (by omega) ?_))))
    rw [rd_nat, rd_nat, w64s i (by omega), w64 (x := a.getD i 0 * b.getD i 0) (by omega) (by omega), w64 (x := s + a.getD i 0 * b.getD i 0) (by omega) (by omega)]
    refine evr (ih (i + 1) _ (by omega) (by omega) (by omega)) ?_
    rw [List.drop_eq_getElem_cons (show i < a.length by omega), List.drop_eq_getElem_cons (show i < b.length by omega)]
    simp only [List.getD_eq_getElem?_getD, List.getElem?_eq_getElem (show i < a.length by omega), List.getElem?_eq_getElem (show i < b.length by omega), Option.getD_some, dot]; omega
theorem getD_in' {l : List Int} {A : Int} (hA : 0 ≤ A) (h : ∀ x ∈ l, -A ≤ x ∧ x ≤ A) (i : Nat) : -A ≤ l.getD i 0 ∧ l.getD i 0 ≤ A := by
  by_cases hi : i < l.length
  · rw [List.getD_eq_getElem?_getD, List.getElem?_eq_getElem hi]; exact h _ (List.getElem_mem hi)
  · rw [List.getD_eq_getElem?_getD, List.getElem?_eq_none (by omega)]; simp; omega
theorem product (a b : List Int) (A B : Int) (hA : 0 ≤ A ∧ A ≤ 1000000) (hB : 0 ≤ B ∧ B ≤ 1000000) (ha : ∀ x ∈ a, -A ≤ x ∧ x ≤ A) (hb : ∀ x ∈ b, -B ≤ x ∧ x ≤ B) (hl : a.length ≤ 1000) (hab : a.length ≤ b.length) : Ev (fun k => impl_product.f k a b) (dot a b) := by
  unfold impl_product.f
  have hM : A * B ≤ 1000000 * 1000000 := Int.mul_le_mul hA.2 hB.2 hB.1 (by omega)
  have hM0 := Int.mul_nonneg hA.1 hB.1
  exact evr (product_l0 a b (A * B) ⟨hM0, by omega⟩ (fun i => mul_bd (getD_in' hA.1 ha i) (getD_in' hB.1 hb i)) hl hab a.length 0 0 (by omega) (by simp) (by simp)) (by simp)

/-! ### spec_l2BitPoint -/
theorem l2BitPoint_l0 (n k : Nat) (hn : n ≤ 8) (hk : k < 2 ^ 62) : ∀ (d i : Nat) (out : List Int), i + d = n → out.length = i →
    Ev (fun f => spec_l2BitPoint.l0 f (n : Int) (k : Int) out (i : Int)) (out ++ (List.range' i d).map fun i => (bit k i : Int)) := by
  intro d
  induction d with
  | zero =>
    intro i out hi ho
    exact Ev.step (fun k => spec_l2BitPoint.l0.eq_2 ..) (evn (by omega) (evs (by simp)))
  | succ d ih =>
    intro i out hi ho
    refine Ev.step (fun k => spec_l2BitPoint.l0.eq_2 ..) (evp (by omega) (evp (by omega) (evp (by omega) ?_)))
    rw [digit k i (by omega) (by omega), w64s i (by omega)]
    refine evr (ih (i + 1) _ (by omega) (by simp; omega)) ?_
    simp [List.range'_succ]
theorem l2BitPoint (n k : Nat) (hn : n ≤ 8) (hk : k < 2 ^ 62) : Ev (fun f => spec_l2BitPoint.f f (n : Int) (k : Int)) (bitPt n k) := by
  unfold spec_l2BitPoint.f bitPt
  refine evr (l2BitPoint_l0 n k hn hk n 0 [] (by omega) rfl) ?_
  rw [List.range_eq_range']; rfl

/-! ### impl_bitPoint -/
theorem bitPoint_l0 (n k : Nat) (hn : n ≤ 8) (hk : k < 2 ^ 62) : ∀ (d i : Nat) (out : List Int), i + d = n → out.length = i →
    Ev (fun f => impl_bitPoint.l0 f (k : Int) out (n : Int) (i : Int)) (out ++ (List.range' i d).map fun i => (bit k i : Int)) := by
  intro d
  induction d with
  | zero =>
    intro i out hi ho
    exact Ev.step (fun k => impl_bitPoint.l0.eq_2 ..) (evn (by omega) (evs (by simp)))
  | succ d ih =>
    intro i out hi ho
    refine Ev.step (fun k => impl_bitPoint.l0.eq_2 ..) (evp (by omega) (evp (by omega) (evp (by omega) ?_)))
    rw [digit k i (by omega) (by omega), w64s i (by omega)]
    refine evr (ih (i + 1) _ (by omega) (by simp; omega)) ?_
    simp [List.range'_succ]
theorem bitPoint (n k : Nat) (hn : n ≤ 8) (hk : k < 2 ^ 62) : Ev (fun f => impl_bitPoint.f f (n : Int) (k : Int)) (bitPt n k) := by
  unfold impl_bitPoint.f bitPt
  refine evr (bitPoint_l0 n k hn hk n 0 [] (by omega) rfl) ?_
  rw [List.range_eq_range']; rfl

/-! ### spec_l6Told spec_l6Wins -/
theorem l6Told_l0 (l : List Int) (q : Int) (h8 : l.length ≤ 8) : ∀ (d i : Nat), i + d = 2 ^ l.length →
    Ev (fun k => spec_l6Told.l0 k ((List.range i).map fun c => if winB l q c = true then 1 else 0) ((List.range (2 ^ l.length)).map (winB l q)) (i : Int)) (told l q) := by
  have hp := pow8 l.length h8
  intro d
  induction d with
  | zero =>
    intro i hi
    refine Ev.step (fun k => spec_l6Told.l0.eq_2 ..) (evn (by simp only [List.length_map, List.length_range]; omega) (evs ?_))
    rw [show i = 2 ^ l.length by omega]; rfl
  | succ d ih =>
    intro i hi
    have hs := ih (i + 1) (by omega)
    rw [List.range_succ, List.map_append] at hs
    simp only [List.map_cons, List.map_nil] at hs
    refine Ev.step (fun k => spec_l6Told.l0.eq_2 ..) (evp (by simp only [List.length_map, List.length_range]; omega) (evp (by omega) ?_))
    rw [rdOf_map _ _ _ (by omega), w64s i (by omega)]
    by_cases e : winB l q i = true
    · rw [if_pos e] at hs
      exact evp e (evp (by simp only [List.length_map, List.length_range]; omega) hs)
    · rw [if_neg e] at hs
      exact evn e (evp (by simp only [List.length_map, List.length_range]; omega) hs)
theorem l6Told {l : List Int} {q : Int} (h : Vot l q) : Ev (fun k => spec_l6Told.f k l q) (told l q) := by
  unfold spec_l6Told.f
  refine evb (l6Wins h) ?_
  have := l6Told_l0 l q h.1.2 (2 ^ l.length) 0 (by omega)
  exact this

/-! ### impl_productsOf impl_product impl_bitPoint -/
def prods (n : Nat) (w : List Int) : List Int := (List.range (2 ^ n)).map fun k => dot w (bitPt n k)
theorem prods_len (n : Nat) (w : List Int) : (prods n w).length = 2 ^ n := by simp [prods]
theorem prods_at (n : Nat) (w : List Int) (k : Nat) (h : k < 2 ^ n) : (prods n w).getD k 0 = dot w (bitPt n k) := by simp [prods, List.getD_eq_getElem?_getD, h]
theorem bitPt_01 (n k : Nat) : ∀ x ∈ bitPt n k, -1 ≤ x ∧ x ≤ 1 := bitPt_in n k
theorem dot_small (n : Nat) (w : List Int) (hn : n ≤ 4) (hw : ∀ x ∈ w, -9 ≤ x ∧ x ≤ 9) (hl : w.length = n) (k : Nat) : -36 ≤ dot w (bitPt n k) ∧ dot w (bitPt n k) ≤ 36 := by
  have := dot_bd 9 1 (by omega) (by omega) w (bitPt n k) hw (bitPt_in n k)
  omega
theorem productsOf_l0 (n : Nat) (hn : n ≤ 4) (w : List Int) (hw : ∀ x ∈ w, -9 ≤ x ∧ x ≤ 9) (hl : w.length = n) : ∀ (d c : Nat) (out : List Int), c + d = 2 ^ n → out.length = c →
    Ev (fun k => impl_productsOf.l0 k (n : Int) w out ((2 ^ n : Nat) : Int) (c : Int)) (out ++ (List.range' c d).map fun k => dot w (bitPt n k)) := by
  have hp := pow4 n hn
  intro d
  induction d with
  | zero =>
    intro c out hc ho
    exact Ev.step (fun k => impl_productsOf.l0.eq_2 ..) (evn (by omega) (evs (by simp)))
  | succ d ih =>
    intro c out hc ho
    refine Ev.step (fun k => impl_productsOf.l0.eq_2 ..) (evp (by omega) ?_)
    rw [w64s c (by omega)]
    refine evb (bitPoint n c (by omega) (by omega)) (evb (product w _ 9 1 (by omega) (by omega) hw (bitPt_in n c) (by omega) (by rw [bitPt_len]; omega)) (evp (by omega) ?_))
    refine evr (ih (c + 1) _ (by omega) (by simp; omega)) ?_
    simp [List.range'_succ]
theorem productsOf (n : Nat) (hn : n ≤ 4) (w : List Int) (hw : ∀ x ∈ w, -9 ≤ x ∧ x ≤ 9) (hl : w.length = n) : Ev (fun k => impl_productsOf.f k (n : Int) w) (prods n w) := by
  unfold impl_productsOf.f prods
  have hp := pow4 n hn
  refine evp (by omega) ?_
  rw [shl1 n (by omega)]
  refine evr (productsOf_l0 n hn w hw hl (2 ^ n) 0 [] (by omega) rfl) ?_
  rw [List.range_eq_range']; rfl

/-! ### impl_gap impl_productsOf impl_product impl_bitPoint -/
def gp (t p : List Int) : Nat → Int × Int
  | 0 => (1000000000, -1000000000)
  | i + 1 => if t.getD i 0 = 1 then (mn (gp t p i).1 (p.getD i 0), (gp t p i).2) else ((gp t p i).1, mx (gp t p i).2 (p.getD i 0))
theorem gap_l0 (t p : List Int) (hl : t.length = p.length) (hx : t.length ≤ 1048576) : ∀ (d i : Nat), i + d = t.length → Ev (fun k => impl_gap.l0 k p (gp t p i).1 (gp t p i).2 t (t.length : Int) (i : Int)) (gp t p t.length) := by
  intro d
  induction d with
  | zero =>
    intro i hi
    refine Ev.step (fun k => impl_gap.l0.eq_2 ..) (evn (by omega) (evs ?_))
    rw [show i = t.length by omega]
  | succ d ih =>
    intro i hi
    have h := ih (i + 1) (by omega)
    simp only [gp] at h
    refine Ev.step (fun k => impl_gap.l0.eq_2 ..) (evp (by omega) (evp (by omega) (evp (by omega) ?_)))
    rw [rd_nat, rd_nat, w64s i (by omega)]
    by_cases e : t.getD i 0 = 1
    · rw [if_pos e] at h
      exact evp e (evp (by omega) h)
    · rw [if_neg e] at h
      exact evn e (evp (by omega) h)
theorem gap (t p : List Int) (hl : t.length = p.length) (hx : t.length ≤ 1048576) : Ev (fun k => impl_gap.f k t p) (gp t p t.length) := by
  unfold impl_gap.f
  exact gap_l0 t p hl hx t.length 0 (by omega)
theorem gp_bd (t p : List Int) (B : Int) (hB : 0 ≤ B ∧ B ≤ 100000) (hp : ∀ i, -B ≤ p.getD i 0 ∧ p.getD i 0 ≤ B) : ∀ i, ((gp t p i).1 = 1000000000 ∨ -B ≤ (gp t p i).1 ∧ (gp t p i).1 ≤ B) ∧ ((gp t p i).2 = -1000000000 ∨ -B ≤ (gp t p i).2 ∧ (gp t p i).2 ≤ B) := by
  intro i
  induction i with
  | zero => exact ⟨.inl rfl, .inl rfl⟩
  | succ i ih =>
    have := hp i
    simp only [gp, mn, mx]
    split
    · refine ⟨.inr ?_, ih.2⟩
      simp only
      split <;> omega
    · refine ⟨ih.1, .inr ?_⟩
      simp only
      split <;> omega

/-! ### spec_l1Same -/
theorem l1Same_l0 (a b : List Int) (hl : a.length = b.length) (hx : a.length ≤ 1048576) : ∀ (d i : Nat), i + d = a.length → Ev (fun k => spec_l1Same.l0 k a b (i : Int)) (decide (a.drop i = b.drop i)) := by
  intro d
  induction d with
  | zero =>
    intro i hi
    refine Ev.step (fun k => spec_l1Same.l0.eq_2 ..) (evn (by omega) (evs ?_))
    rw [List.drop_of_length_le (by omega), List.drop_of_length_le (by omega)]; simp
  | succ d ih =>
    intro i hi
    have e1 : a.drop i = a.getD i 0 :: a.drop (i + 1) := by
      rw [List.drop_eq_getElem_cons (by omega)]; simp [List.getD_eq_getElem?_getD, List.getElem?_eq_getElem (show i < a.length by omega)]
    have e2 : b.drop i = b.getD i 0 :: b.drop (i + 1) := by
      rw [List.drop_eq_getElem_cons (by omega)]; simp [List.getD_eq_getElem?_getD, List.getElem?_eq_getElem (show i < b.length by omega)]
    refine Ev.step (fun k => spec_l1Same.l0.eq_2 ..) (evp (by omega) (evp (by omega) (evp (by omega) ?_)))
    rw [rd_nat, rd_nat, w64s i (by omega), e1, e2]
    by_cases c : a.getD i 0 = b.getD i 0
    · refine evp c (evr (ih (i + 1) (by omega)) ?_)
      rw [c]; simp only [List.cons.injEq, true_and]
    · exact evn c (evs (by simp only [List.cons.injEq, c, false_and, decide_false]))
theorem l1Same (a b : List Int) (hx : a.length ≤ 1048576) : Ev (fun k => spec_l1Same.f k a b) (decide (a = b)) := by
  unfold spec_l1Same.f
  by_cases h : a.length = b.length
  · exact evp (by omega) (evr (l1Same_l0 a b h hx a.length 0 (by omega)) (by simp))
  · exact evn (by omega) (evs (decide_eq_false (fun e => h (by rw [e]))).symm)

/-! ### spec_l4Weights spec_l1Own impl_VoteOf -/
theorem wts_small4 (m d : Nat) (hm : m ≤ 4) (hd : d ≤ 4) : (wts m d).length ≤ 6561 := by
  rw [wts_length]
  have h1 : (2 * m + 1) ^ d ≤ 9 ^ d := Nat.pow_le_pow_left (by omega) d
  have h2 : (9 : Nat) ^ d ≤ 9 ^ 4 := Nat.pow_le_pow_right (by decide) hd
  omega
theorem l4W (n : Nat) (hn : n ≤ 4) : ∀ (d : Nat) (pre : List Int), pre.length + d = n → Ev (fun k => spec_l4Weights.f k (n : Int) (n : Int) pre) ((wts n d).map fun v => pre ++ v) := by
  intro d
  induction d with
  | zero =>
    intro pre h
    exact Ev.step (fun k => spec_l4Weights.f.eq_2 ..) (evp (by omega) (evs (by simp [wts])))
  | succ d ih =>
    intro pre h
    have hw := wts_small4 n d hn (by omega)
    have key : ∀ (c : Nat) (x : Int) (out : List (List Int)), x + c = n + 1 → -(n : Int) ≤ x → out.length + c * 6561 ≤ 100000 → Ev (fun k => spec_l4Weights.l0 k (n : Int) (n : Int) pre out x) (out ++ (wfrom (wts n d) c x).map fun v => pre ++ v) := by
      intro c
      induction c with
      | zero =>
        intro x out hx _ _
        exact Ev.step (fun k => spec_l4Weights.l0.eq_2 ..) (evn (by omega) (evs (by simp [wfrom])))
      | succ c ihc =>
        intro x out hx h3 ho
        refine Ev.step (fun k => spec_l4Weights.l0.eq_2 ..) (evp (by omega) (evb (evc (l1Own pre (by omega))) (evp (by omega) (evb (ih (pre ++ [x]) (by simp; omega)) (evp (by simp; omega) ?_)))))
        rw [w64 (x := x + 1) (by omega) (by omega)]
        refine evr (ihc (x + 1) _ (by omega) (by omega) (by simp; omega)) ?_
        simp [wfrom, Function.comp_def]
    refine Ev.step (fun k => spec_l4Weights.f.eq_2 ..) (evn (by omega) ?_)
    rw [w64 (x := -(n : Int)) (by omega) (by omega)]
    exact evr (key (2 * n + 1) (-(n : Int)) [] (by omega) (by omega) (by simp; omega)) (by simp [wts])
theorem l4Weights (n : Nat) (hn : n ≤ 4) : Ev (fun k => spec_l4Weights.f k (n : Int) (n : Int) []) (wts n n) := evr (l4W n hn n [] (by simp)) (by simp)

/-! ### spec_l6Valid spec_l2Table spec_l6Game -/
def gmB (n : Int) (l : List Int) : Bool := decide (1 ≤ n) && (isTab n l && ((List.range n.toNat).all (fun i => decide (losses l i = 0)) && ends l))
theorem l6Valid (n : Int) (l : List Int) (hl : l.length < 4611686018427387904) : Ev (fun k => spec_l6Valid.f k n l) (gmB n l) := by
  unfold spec_l6Valid.f gmB
  by_cases h : 1 ≤ n
  · refine evp h (evb (l2Table n l hl) ?_)
    rw [decide_eq_true h, Bool.true_and]
    by_cases e : isTab n l = true
    · obtain ⟨m, rfl, ht⟩ := isTab_tab e
      rw [e, Bool.true_and]
      exact evp rfl (evb (l6Game ht) (evs rfl))
    · exact evn e (evs (by rw [Bool.eq_false_iff.2 e]; rfl))
  · exact evn h (evs (by rw [decide_eq_false h]; rfl))
theorem gmB_iff {n : Int} {l : List Int} (h : gmB n l = true) : ∃ m : Nat, n = m ∧ 1 ≤ m ∧ Tab m l ∧ l.getD 0 0 = 0 ∧ l.getD (l.length - 1) 0 = 1 := by
  unfold gmB at h
  simp only [Bool.and_eq_true, decide_eq_true_eq] at h
  obtain ⟨h1, h2, _, h3⟩ := h
  obtain ⟨m, rfl, ht⟩ := isTab_tab h2
  unfold ends at h3
  simp only [Bool.and_eq_true, decide_eq_true_eq, beq_iff_eq] at h3
  exact ⟨m, rfl, by omega, ht, h3.1, h3.2⟩

/-! ### spec_VoteOf impl_VoteOf impl_gap impl_productsOf impl_product impl_bitPoint -/
theorem dot_sum (l : List Int) (f : Nat → Int) : ∀ s, dot l ((List.range' s l.length).map f) = sumN (fun i => l.getD (i - s) 0 * f i) s l.length := by
  induction l with
  | nil => intro s; rfl
  | cons x l ih =>
    intro s
    rw [List.length_cons, List.range'_succ, List.map_cons]
    simp only [dot, sumN, Nat.sub_self]
    rw [ih (s + 1)]
    congr 1
    refine sumN_congr' _ _ _ _ fun k h1 h2 => ?_
    rw [show k - s = (k - (s + 1)) + 1 by omega]; rfl
theorem dot_wsum (l : List Int) (c : Nat) : dot l (bitPt l.length c) = wsum l c := by
  unfold bitPt wsum
  rw [List.range_eq_range', dot_sum]; rfl
theorem dot_const (l : List Int) (b : Int) (f : Nat → Int) : ∀ s, (∀ i, i < s + l.length → f i = b) → dot l ((List.range' s l.length).map f) = b * isum l := by
  induction l with
  | nil => intro s _; simp [dot, isum]
  | cons x l ih =>
    intro s h
    rw [List.length_cons, List.range'_succ, List.map_cons]
    simp only [dot, isum]
    rw [ih (s + 1) (fun i hi => h i (by rw [List.length_cons]; omega)), h s (by rw [List.length_cons]; omega), Int.mul_add, Int.mul_comm x b]
theorem bit_ones : ∀ n : Fin 5, ∀ i : Fin 5, i.val < n.val → bit (2 ^ n.val - 1) i.val = 1 := by decide
theorem dot_all (l : List Int) (h : l.length ≤ 4) : dot l (bitPt l.length (2 ^ l.length - 1)) = isum l := by
  unfold bitPt
  rw [List.range_eq_range', dot_const l 1 _ 0 (fun i hi => by rw [bit_ones ⟨l.length, by omega⟩ ⟨i, by omega⟩ (by simpa using hi)]; rfl), Int.one_mul]
theorem dot_none (l : List Int) : dot l (bitPt l.length 0) = 0 := by
  unfold bitPt
  rw [List.range_eq_range', dot_const l 0 _ 0 (fun i hi => by simp [bit]), Int.zero_mul]
theorem gp_le1 (t p : List Int) : ∀ i c, c < i → t.getD c 0 = 1 → (gp t p i).1 ≤ p.getD c 0 := by
  intro i
  induction i with
  | zero => intro c h; omega
  | succ i ih =>
    intro c h e
    simp only [gp, mn]
    rcases Nat.lt_or_ge c i with g | g
    · have := ih c g e
      split
      · simp only; split <;> omega
      · exact this
    · have : c = i := by omega
      subst this
      rw [if_pos e]; simp only; split <;> omega
theorem gp_le2 (t p : List Int) : ∀ i c, c < i → t.getD c 0 ≠ 1 → p.getD c 0 ≤ (gp t p i).2 := by
  intro i
  induction i with
  | zero => intro c h; omega
  | succ i ih =>
    intro c h e
    simp only [gp, mx]
    rcases Nat.lt_or_ge c i with g | g
    · have := ih c g e
      split
      · exact this
      · simp only; split <;> omega
    · have : c = i := by omega
      subst this
      rw [if_neg e]; simp only; split <;> omega
theorem gp_at1 (t p : List Int) : ∀ i, (gp t p i).1 = 1000000000 ∨ ∃ c, c < i ∧ t.getD c 0 = 1 ∧ (gp t p i).1 = p.getD c 0 := by
  intro i
  induction i with
  | zero => exact .inl rfl
  | succ i ih =>
    simp only [gp, mn]
    by_cases e : t.getD i 0 = 1
    · rw [if_pos e]; simp only
      split
      · exact .inr ⟨i, by omega, e, rfl⟩
      · rcases ih with h | ⟨c, h1, h2, h3⟩
        · exact .inl h
        · exact .inr ⟨c, by omega, h2, h3⟩
    · rw [if_neg e]; simp only
      rcases ih with h | ⟨c, h1, h2, h3⟩
      · exact .inl h
      · exact .inr ⟨c, by omega, h2, h3⟩
def gw (n : Nat) (t v : List Int) : Int × Int := gp t (prods n v) t.length
def goodW (n : Nat) (t v : List Int) : Bool := (v.all fun x => decide (0 ≤ x)) && decide ((gw n t v).1 > (gw n t v).2)
def pickW (n : Nat) (t : List Int) (o : Option (List Int)) (v : List Int) : Option (List Int) := if (o.all fun b => decide (isum v < isum b)) && goodW n t v then some v else o
def impS (n : Nat) (t : List Int) : Option (List Int) → List Int × Int × Int
  | none => ([], 0, 1000000000)
  | some v => (v, (gw n t v).2 + 1, isum v)
def speS (n : Nat) (t : List Int) : Option (List Int) → List Int × Int × Int
  | none => ([], 0, -1)
  | some v => (v, (gw n t v).2 + 1, isum v)
def okv (n : Nat) (v : List Int) : Prop := v.length = n ∧ ∀ x ∈ v, -(n : Int) ≤ x ∧ x ≤ n
def okg (n : Nat) (o : Option (List Int)) : Prop := ∀ b, o = some b → okv n b ∧ ∀ x ∈ b, 0 ≤ x
/-- A game's table. -/
def GT (n : Nat) (t : List Int) : Prop := 1 ≤ n ∧ n ≤ 4 ∧ t.length = 2 ^ n ∧ (∀ x ∈ t, 0 ≤ x ∧ x ≤ 1) ∧ t.getD 0 0 = 0 ∧ t.getD (t.length - 1) 0 = 1
theorem okv9 {n : Nat} {v : List Int} (hn : n ≤ 4) (h : okv n v) : ∀ x ∈ v, -9 ≤ x ∧ x ≤ 9 := fun x hx => by have := h.2 x hx; omega
theorem isum_bd4 {n : Nat} {v : List Int} (hn : n ≤ 4) (h : okv n v) : -36 ≤ isum v ∧ isum v ≤ 36 := by
  have h1 := dot_small n v hn (okv9 hn h) h.1 (2 ^ v.length - 1)
  rw [← h.1, dot_all v (by have := h.1; omega)] at h1
  exact h1
theorem pick_ok {n : Nat} {t : List Int} {o : Option (List Int)} {v : List Int} (ho : okg n o) (hv : okv n v) : okg n (pickW n t o v) := by
  intro b h
  unfold pickW at h
  split at h
  · rename_i c
    cases h
    unfold goodW at c
    simp only [Bool.and_eq_true, List.all_eq_true, decide_eq_true_eq] at c
    exact ⟨hv, fun x hx => c.2.1 x hx⟩
  · exact ho b h
theorem gw_bd {n : Nat} {t v : List Int} (hn : n ≤ 4) (hv : okv n v) : ((gw n t v).1 = 1000000000 ∨ -36 ≤ (gw n t v).1 ∧ (gw n t v).1 ≤ 36) ∧ ((gw n t v).2 = -1000000000 ∨ -36 ≤ (gw n t v).2 ∧ (gw n t v).2 ≤ 36) := by
  refine gp_bd t (prods n v) 36 (by omega) (fun i => ?_) t.length
  by_cases h : i < 2 ^ n
  · rw [prods_at n v i h]; exact dot_small n v hn (okv9 hn hv) hv.1 i
  · rw [List.getD_eq_getElem?_getD, List.getElem?_eq_none (by rw [prods_len]; omega)]; simp
theorem mn_fold : ∀ (l : List Int) (x : Int), (l.foldl mn x < 0) ↔ (x < 0 ∨ ∃ y ∈ l, y < 0) := by
  intro l
  induction l with
  | nil => intro x; simp
  | cons y l ih =>
    intro x
    rw [List.foldl_cons, ih (mn x y)]
    have h : mn x y < 0 ↔ (x < 0 ∨ y < 0) := by unfold mn; split <;> omega
    rw [h]; simp [or_assoc]
theorem nonneg_min (v : List Int) (h1 : 1 ≤ v.length) (h4 : v.length ≤ 4) : ∃ m, slices_Min_int_int.f v = some m ∧ (m < 0 ↔ ¬ (v.all fun x => decide (0 ≤ x)) = true) := by
  cases v with
  | nil => simp at h1
  | cons x l =>
    refine ⟨l.foldl mn x, ?_, ?_⟩
    · simp only [slices_Min_int_int.f]; rw [if_pos (by simp at h4; omega)]
    · rw [mn_fold]
      by_cases hx : x < 0
      · simp [hx]; omega
      · have h0 : 0 ≤ x := by omega
        simp [h0, hx]
theorem imp_step {n : Nat} {t : List Int} (hg : GT n t) (o : Option (List Int)) (v : List Int) (ho : okg n o) (hv : okv n v) : Ev (fun k => impl_VoteOf.step k t (n : Int) (impS n t o) v) (impS n t (pickW n t o v)) := by
  obtain ⟨h1, hn, ht, _⟩ := hg
  have hp := pow4 n hn
  have hs := isum_bd4 hn hv
  have hb := gw_bd (t := t) hn hv
  unfold impl_VoteOf.step pickW goodW
  obtain ⟨m, hm, hneg⟩ := nonneg_min v (by have := hv.1; omega) (by have := hv.1; omega)
  refine evb (evc hm) ?_
  by_cases c1 : m < 0
  · refine evp c1 (evs ?_)
    rw [Bool.eq_false_iff.2 (hneg.1 c1), Bool.false_and, Bool.and_false]; rfl
  · have ha : (v.all fun x => decide (0 ≤ x)) = true := by
      by_cases e : (v.all fun x => decide (0 ≤ x)) = true
      · exact e
      · exact absurd (hneg.2 e) c1
    rw [ha, Bool.true_and]
    refine evn c1 (evb (total v 9 (by omega) (okv9 hn hv) (by have := hv.1; omega)) ?_)
    by_cases c2 : isum v ≥ (impS n t o).2.2
    · refine evp c2 (evs ?_)
      cases o with
      | none => simp only [impS] at c2; omega
      | some b =>
        simp only [impS] at c2
        rw [show (Option.all (fun b => decide (isum v < isum b)) (some b)) = false by simp; omega, Bool.false_and]; rfl
    · have hall : (o.all fun b => decide (isum v < isum b)) = true := by
        cases o with
        | none => rfl
        | some b => simp only [impS] at c2; simp; omega
      rw [hall, Bool.true_and]
      refine evn c2 (evb (productsOf n hn v (okv9 hn hv) hv.1) (evb (gap t _ (by rw [prods_len, ht]) (by omega)) ?_))
      show Ev (fun k => if (gw n t v).1 > (gw n t v).2 then _ else _) _
      by_cases c3 : (gw n t v).1 > (gw n t v).2
      · refine evp c3 (evb (evc (copied v (by have := hv.1; omega))) (evs ?_))
        rw [decide_eq_true c3, if_pos rfl]
        show (v, wrap64 ((gw n t v).2 + 1), isum v) = (v, (gw n t v).2 + 1, isum v)
        rw [w64 (by omega) (by omega)]
      · refine evn c3 (evs ?_)
        rw [decide_eq_false c3]; rfl
theorem quo_fold {n : Nat} {t : List Int} (hg : GT n t) (v : List Int) (hv : okv n v) : ∀ c, c ≤ t.length → Ev (fun k => (List.range c).foldlM (spec_VoteOf.quo k t (n : Int) v) 1) (if (gp t (prods n v) c).2 + 1 > 1 then (gp t (prods n v) c).2 + 1 else 1) := by
  obtain ⟨h1, hn, ht, h01, _⟩ := hg
  have hp := pow4 n hn
  intro c
  induction c with
  | zero => intro _; exact evs rfl
  | succ c ih =>
    intro hc
    have e : ∀ k, (List.range (c + 1)).foldlM (spec_VoteOf.quo k t (n : Int) v) 1 = ((List.range c).foldlM (spec_VoteOf.quo k t (n : Int) v) 1).bind fun q => spec_VoteOf.quo k t (n : Int) v q c := fun k => by
      rw [List.range_succ, List.foldlM_append]; simp
    refine Ev.congr e (evb (ih (by omega)) ?_)
    have hd := dot_small n v hn (okv9 hn hv) hv.1 c
    unfold spec_VoteOf.quo
    simp only [gp, prods_at n v c (show c < 2 ^ n by omega)]
    have hx := h01 (t.getD c 0) (by rw [List.getD_eq_getElem?_getD, List.getElem?_eq_getElem (by omega)]; exact List.getElem_mem _)
    by_cases c0 : t.getD c 0 = 0
    · rw [if_neg (show ¬ t.getD c 0 = 1 by omega)]
      refine evp c0 (evb (l2BitPoint n c (by omega) (by omega)) (evb (l2Dot v _ 9 1 (by omega) (by omega) (okv9 hn hv) (bitPt_in n c) (by have := hv.1; omega) (by rw [bitPt_len]; have := hv.1; omega)) ?_))
      rw [w64 (x := dot v (bitPt n c) + 1) (by omega) (by omega)]
      refine evc ?_
      unfold spec_l1Most.f mx
      split <;> split <;> split <;> (try split) <;> first | rfl | (congr 1; omega) | (exfalso; omega)
    · rw [if_pos (show t.getD c 0 = 1 by omega)]
      exact evn c0 (evs rfl)
theorem spe_step {n : Nat} {t : List Int} (hg : GT n t) (o : Option (List Int)) (v : List Int) (ho : okg n o) (hv : okv n v) : Ev (fun k => spec_VoteOf.step k t (n : Int) (speS n t o) v) (speS n t (pickW n t o v)) := by
  have hG := hg
  obtain ⟨h1, hn, ht, h01, h0, hl⟩ := hg
  have hp := pow4 n hn
  have hs := isum_bd4 hn hv
  have hb := gw_bd (t := t) hn hv
  have hvl := hv.1
  have g0 : 0 ≤ (gw n t v).2 := by
    have := gp_le2 t (prods n v) t.length 0 (by omega) (by rw [h0]; decide)
    rw [prods_at n v 0 (by omega), ← hvl, dot_none] at this
    exact hvl ▸ this
  have g1 : (gw n t v).1 ≤ isum v := by
    have := gp_le1 t (prods n v) t.length (t.length - 1) (by omega) hl
    rw [prods_at n v _ (by omega), ht] at this
    have h2 := dot_all v (by omega)
    rw [hvl] at h2
    unfold gw
    rw [ht]
    omega
  unfold spec_VoteOf.step pickW
  refine evb (quo_fold hG v hv t.length (Nat.le_refl _)) ?_
  have hq : (if (gp t (prods n v) t.length).2 + 1 > 1 then (gp t (prods n v) t.length).2 + 1 else 1) = (gw n t v).2 + 1 := by
    unfold gw at g0 ⊢
    split <;> omega
  rw [hq]
  have hlen : v.length < 4611686018427387904 := by omega
  have hb16 : (told v ((gw n t v).2 + 1)).length ≤ 1048576 := by rw [told_len, hvl]; omega
  refine evb (l6Vote v _ hlen) ?_
  by_cases c1 : voteB v ((gw n t v).2 + 1) = true
  · have hV := (voteB_iff v _).1 c1
    have ha : (v.all fun x => decide (0 ≤ x)) = true := List.all_eq_true.2 fun x hx => decide_eq_true (hV.2.1 x hx).1
    have hgood : goodW n t v = decide ((gw n t v).1 > (gw n t v).2) := by unfold goodW; rw [ha, Bool.true_and]
    refine evp c1 (evb (l6Sum hV) ?_)
    have hcond : ((speS n t o).2.2 < 0 ∨ isum v < (speS n t o).2.2) ↔ (o.all fun b => decide (isum v < isum b)) = true := by
      cases o with
      | none => simp [speS]
      | some b =>
        have hb0 := ho b rfl
        have : 0 ≤ isum b := (isum_le 9 b (fun x hx => ⟨hb0.2 x hx, (okv9 hn hb0.1 x hx).2⟩)).1
        simp [speS]; omega
    by_cases c2 : (speS n t o).2.2 < 0 ∨ isum v < (speS n t o).2.2
    · rw [hcond.1 c2, Bool.true_and, hgood]
      refine evp c2 (evb (l6Told hV) (evb (l1Same _ _ hb16) ?_))
      have hiff : told v ((gw n t v).2 + 1) = t ↔ (gw n t v).1 > (gw n t v).2 := by
        have hat : ∀ c, c < 2 ^ n → (told v ((gw n t v).2 + 1)).getD c 0 = if dot v (bitPt n c) ≥ (gw n t v).2 + 1 then 1 else 0 := fun c hc => by
          unfold told
          rw [List.getD_eq_getElem?_getD, List.getElem?_map, List.getElem?_range (by rw [hvl]; exact hc)]
          simp only [Option.map_some, Option.getD_some, winB, decide_eq_true_eq]
          rw [← dot_wsum v c, hvl]
        constructor
        · intro e
          rcases gp_at1 t (prods n v) t.length with h | ⟨c, hc, h2, h3⟩
          · have : (gw n t v).1 = 1000000000 := h
            omega
          · rw [prods_at n v c (by omega)] at h3
            have h4 := hat c (by omega)
            rw [e, h2] at h4
            have h5 : (gw n t v).1 = dot v (bitPt n c) := h3
            split at h4
            · omega
            · cases h4
        · intro h
          apply List.ext_getElem
          · rw [told_len, hvl, ht]
          · intro c hc1 hc2
            have h4 := hat c (by omega)
            rw [List.getD_eq_getElem?_getD, List.getElem?_eq_getElem hc1, Option.getD_some] at h4
            have h6 : t.getD c 0 = t[c] := by rw [List.getD_eq_getElem?_getD, List.getElem?_eq_getElem hc2]; rfl
            have h7 := h01 t[c] (List.getElem_mem hc2)
            rw [h4]
            by_cases e1 : t[c] = 1
            · have := gp_le1 t (prods n v) t.length c hc2 (by rw [h6]; exact e1)
              rw [prods_at n v c (by omega)] at this
              have h8 : (gw n t v).1 ≤ dot v (bitPt n c) := this
              rw [if_pos (by omega), e1]
            · have := gp_le2 t (prods n v) t.length c hc2 (by rw [h6]; exact e1)
              rw [prods_at n v c (by omega)] at this
              have h8 : dot v (bitPt n c) ≤ (gw n t v).2 := this
              rw [if_neg (by omega)]; omega
      by_cases c3 : (gw n t v).1 > (gw n t v).2
      · refine evp (decide_eq_true (hiff.2 c3)) (evs ?_)
        rw [decide_eq_true c3, if_pos rfl]; rfl
      · refine evn (by rw [decide_eq_true_eq]; exact fun h => c3 (hiff.1 h)) (evs ?_)
        rw [decide_eq_false c3]; rfl
    · refine evn c2 (evs ?_)
      rw [Bool.eq_false_iff.2 (fun h => c2 (hcond.2 h)), Bool.false_and]; rfl
  · refine evn c1 (evs ?_)
    have : goodW n t v = false := by
      rw [Bool.eq_false_iff]
      intro h
      unfold goodW at h
      simp only [Bool.and_eq_true, List.all_eq_true, decide_eq_true_eq] at h
      exact c1 ((voteB_iff v _).2 ⟨⟨by omega, by omega⟩, fun x hx => ⟨h.1 x hx, by have := okv9 hn hv x hx; omega⟩, by omega, by omega⟩)
    rw [this, Bool.and_false]; rfl
theorem imp_fold {n : Nat} {t : List Int} (hg : GT n t) : ∀ (L : List (List Int)) (o : Option (List Int)), (∀ v ∈ L, okv n v) → okg n o → Ev (fun k => L.foldlM (impl_VoteOf.step k t (n : Int)) (impS n t o)) (impS n t (L.foldl (pickW n t) o)) := by
  intro L
  induction L with
  | nil => intro o _ _; exact evs rfl
  | cons v L ih =>
    intro o hL ho
    simp only [List.foldlM_cons, List.foldl_cons]
    exact evb (imp_step hg o v ho (hL v (by simp))) (ih _ (fun x hx => hL x (by simp [hx])) (pick_ok ho (hL v (by simp))))
theorem spe_fold {n : Nat} {t : List Int} (hg : GT n t) : ∀ (L : List (List Int)) (o : Option (List Int)), (∀ v ∈ L, okv n v) → okg n o → Ev (fun k => L.foldlM (spec_VoteOf.step k t (n : Int)) (speS n t o)) (speS n t (L.foldl (pickW n t) o)) := by
  intro L
  induction L with
  | nil => intro o _ _; exact evs rfl
  | cons v L ih =>
    intro o hL ho
    simp only [List.foldlM_cons, List.foldl_cons]
    exact evb (spe_step hg o v ho (hL v (by simp))) (ih _ (fun x hx => hL x (by simp [hx])) (pick_ok ho (hL v (by simp))))
theorem fold_ok {n : Nat} {t : List Int} : ∀ (L : List (List Int)) (o : Option (List Int)), (∀ v ∈ L, okv n v) → okg n o → okg n (L.foldl (pickW n t) o) := by
  intro L
  induction L with
  | nil => intro o _ ho; exact ho
  | cons v L ih => intro o hL ho; exact ih _ (fun x hx => hL x (by simp [hx])) (pick_ok ho (hL v (by simp)))
def bestW (n : Nat) (t : List Int) : Option (List Int) := (wts n n).foldl (pickW n t) none
def voteV (n : Int) (t : List Int) : List Int × Int × Bool := if gmB n t = true then (match bestW n.toNat t with | some v => (v, (gw n.toNat t v).2 + 1, true) | none => ([], 0, false)) else ([], 0, false)
theorem wts_okv (n : Nat) : ∀ v ∈ wts n n, okv n v := fun v hv => ⟨wts_len n n v hv, fun x hx => wts_bd n n v hv x hx⟩
theorem okg_none (n : Nat) : okg n none := fun b h => by cases h
theorem best_ok (n : Nat) (t : List Int) : okg n (bestW n t) := fold_ok _ _ (wts_okv n) (okg_none n)
theorem voteV_len (n : Int) (t : List Int) : (voteV n t).1.length ≤ 4 := by
  unfold voteV
  split
  · rename_i e
    obtain ⟨m, rfl, _, ht, _⟩ := gmB_iff e
    have hm := ht.1
    cases h : bestW (m : Int).toNat t with
    | none => simp
    | some v => have := ((best_ok _ t) v h).1.1; simp only [Int.toNat_natCast] at this; simp only; omega
  · simp
theorem GT_of {n : Int} {t : List Int} (h : gmB n t = true) : ∃ m : Nat, n = m ∧ GT m t := by
  obtain ⟨m, rfl, h1, ht, h2, h3⟩ := gmB_iff h
  exact ⟨m, rfl, h1, ht.1, ht.2.1, ht.2.2, h2, h3⟩
theorem sVoteOf (n : Int) (t : List Int) (hl : t.length ≤ 1048576) : Ev (fun k => spec_VoteOf.f k n t) (voteV n t) := by
  unfold spec_VoteOf.f voteV
  refine evb (l6Valid n t (by omega)) ?_
  by_cases e : gmB n t = true
  · obtain ⟨m, rfl, hg⟩ := GT_of e
    have hm := hg.2.1
    have hp := pow4 m hm
    have ht := hg.2.2.1
    have hw := wts_small4 m m hm hm
    rw [if_pos e, Int.toNat_natCast]
    refine evp e (evb (l4Weights m hm) (evp (by omega) (evb (spe_fold hg (wts m m) none (wts_okv m) (okg_none m)) (evs ?_))))
    show ((speS m t (bestW m t)).1, (speS m t (bestW m t)).2.1, decide ((speS m t (bestW m t)).2.2 ≥ 0)) = _
    cases h : bestW m t with
    | none => rfl
    | some v =>
      have hv := best_ok m t v h
      have : 0 ≤ isum v := (isum_le 9 v (fun x hx => ⟨hv.2 x hx, (okv9 hm hv.1 x hx).2⟩)).1
      exact congrArg (fun b => (v, (gw m t v).2 + 1, b)) (decide_eq_true (show isum v ≥ 0 from this))
  · rw [if_neg e]; exact evn e (evs rfl)
theorem iVoteOf (n : Int) (t : List Int) (hl : t.length ≤ 1048576) : Ev (fun k => impl_VoteOf.f k n t) (voteV n t) := by
  unfold impl_VoteOf.f voteV
  refine evb (isTable n t (by omega)) ?_
  by_cases e0 : isTab n t = true
  · obtain ⟨m, rfl, hT⟩ := isTab_tab e0
    refine evp e0 ?_
    have hgm : gmB (m : Int) t = (decide (1 ≤ (m : Int)) && ((List.range m).all (fun i => decide (losses t i = 0)) && ends t)) := by unfold gmB; rw [e0, Bool.true_and, Int.toNat_natCast]
    by_cases h1 : 1 ≤ m
    · rw [decide_eq_true (show 1 ≤ (m : Int) by omega), Bool.true_and] at hgm
      refine evb (isGame hT h1) ?_
      rw [← hgm]
      by_cases e : gmB (m : Int) t = true
      · obtain ⟨m', hmm, hg⟩ := GT_of e
        have : m' = m := by omega
        subst this
        have hm := hg.2.1
        rw [if_pos e, Int.toNat_natCast]
        refine evp e (evp (by omega) (evb (imp_fold hg (wts m' m') none (wts_okv m') (okg_none m')) ?_))
        show Ev (fun k => if (impS m' t (bestW m' t)).2.2 = 1000000000 then some ([], 0, false) else some ((impS m' t (bestW m' t)).1, (impS m' t (bestW m' t)).2.1, true)) _
        cases h : bestW m' t with
        | none => exact evp rfl (evs rfl)
        | some v =>
          have hv := best_ok m' t v h
          have := isum_bd4 hm hv.1
          exact evn (by simp only [impS]; omega) (evs rfl)
      · rw [if_neg e]; exact evn e (evs rfl)
    · have hm0 : m = 0 := by omega
      subst hm0
      rw [decide_eq_false (by omega), Bool.false_and] at hgm
      rw [hgm]
      refine evb (a := false) ?_ (evn (by decide) (evs rfl))
      unfold impl_isGame.f
      exact Ev.step (fun k => impl_isGame.l0.eq_2 ..) (evn (by omega) (evn (by omega) (evs rfl)))
  · have : gmB n t = false := by unfold gmB; rw [Bool.eq_false_iff.2 e0, Bool.false_and, Bool.and_false]
    rw [this]
    exact evn e0 (evs rfl)

/-! ### laws_FnExactVoteOf -/
theorem law (n : Int) (l : List Int) : Ev (fun k => laws_FnExactVoteOf.f k n l) true := by
  unfold laws_FnExactVoteOf.f
  by_cases h : (l.length : Int) > 1048576
  · exact evp h (evs rfl)
  refine evn h ?_
  have hs := sVoteOf n l (by omega)
  have hi := iVoteOf n l (by omega)
  have hb := voteV_len n l
  generalize voteV n l = R at *
  repeat (first
    | exact evs rfl
    | dsimp only
    | (with_reducible refine evb hs ?_)
    | (with_reducible refine evb hi ?_)
    | ((with_reducible refine evb (toIntS _ ?_) ?_); (focus (first | omega | assumption)))
    | ((with_reducible refine evb (eqIntS _ _ ?_) ?_); (focus (first | omega | assumption)))
    | ((with_reducible refine evb (markIntS _ _ ?_ ?_) ?_); (focus (first | omega | assumption)); (focus (first | omega | assumption)))
    | ((with_reducible refine evb (heldIntS _ _ ?_ ?_) ?_); (focus (first | omega | assumption)); (focus (first | omega | assumption)))
    | ((with_reducible refine evb (eqVote _ _ _ _ ?_) ?_); (focus (first | omega | assumption)))
    | ((with_reducible refine evb (markVote _ _ _ ?_ ?_) ?_); (focus (first | omega | assumption)); (focus (first | omega | assumption)))
    | ((with_reducible refine evb (heldVote _ _ _ ?_ ?_) ?_); (focus (first | omega | assumption)); (focus (first | omega | assumption)))
    | (refine evp ?_ ?_; focus (first | omega | (simp; done)))
    | (refine evn ?_ ?_; focus (first | omega | (simp; done)))
    | (with_reducible refine Ev.step (fun k => laws_FnExactVoteOf.j0.eq_2 ..) ?_)
    | (with_reducible refine Ev.step (fun k => laws_FnExactVoteOf.j1.eq_2 ..) ?_)
    | (with_reducible refine Ev.step (fun k => laws_FnExactVoteOf.j2.eq_2 ..) ?_)
    )

end Go.Proofs.Ythfkgbkhkahmdaa.LFnExactVoteOf
