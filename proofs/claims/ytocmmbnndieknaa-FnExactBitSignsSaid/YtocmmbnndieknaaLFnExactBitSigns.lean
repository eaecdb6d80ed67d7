/- Own lemmas: what the printed functions of one law come to. -/
import Derived.Test.YtocmmbnndieknaaMFnExactBitSignsx3
import Derived.Test.YtocmmbnndieknaaBase
namespace Go.Proofs.Ytocmmbnndieknaa.LFnExactBitSigns
open Go Go.RowKit Go.Proofs.Ytocmmbnndieknaa.Base Go.Proofs.Ytocmmbnndieknaa.PFnExactBitSigns Go.Proofs.YtocmmbnndieknaaW.PrintWords Go.Proofs.YtocmmbnndieknaaW.PrintLast Go.Proofs.YtocmmbnndieknaaW.PrintMore
set_option linter.unusedVariables false
set_option linter.unusedSimpArgs false
set_option maxRecDepth 4000

/-! ### laws_toIntS -/
theorem toIntS_l0 (x0 : List Int) (hx : x0.length < 4611686018427387904) : ∀ (d i : Nat) (x3 : List Int), i + d = x0.length → x3.length = x0.length →
    Ev (fun k => laws_toIntS.l0 k x0 x3 (i : Int)) (x3.take i ++ x0.drop i) := by
  intro d
  induction d with
  | zero =>
    intro i x3 hi hl
    refine Ev.step (fun k => laws_toIntS.l0.eq_2 ..) (evn (by omega) (evs ?_))
    simp [List.take_of_length_le (show x3.length ≤ i by omega), List.drop_of_length_le (show x0.length ≤ i by omega)]
  | succ d ih =>
    intro i x3 hi hl
    refine Ev.step (fun k => laws_toIntS.l0.eq_2 ..) (evp (by omega) (evp (by omega) (evp (by omega) ?_)))
    rw [w64s i (by omega), rd_nat]
    refine evr (ih (i + 1) _ (by omega) (by simpa using hl)) ?_
    rw [Int.toNat_natCast, set_take _ _ _ (by omega), List.drop_eq_getElem_cons (show i < x0.length by omega), List.append_assoc]
    simp [List.getD_eq_getElem?_getD, List.getElem?_eq_getElem (show i < x0.length by omega)]
theorem toIntS (l : List Int) (h : l.length ≤ 35184372088832) : Ev (fun k => laws_toIntS.f k l) l := by
  unfold laws_toIntS.f
  refine evp (by omega) (evp (by simpa using h) ?_)
  refine evr (toIntS_l0 l (by omega) l.length 0 _ (by omega) (by simp)) (by simp)

/-! ### laws_eqIntS -/
theorem eqIntS_l0 (a b : List Int) (hl : a.length = b.length) (hx : a.length < 4611686018427387904) : ∀ (d i : Nat), i + d = a.length →
    Ev (fun k => laws_eqIntS.l0 k a b (i : Int)) (decide (a.drop i = b.drop i)) := by
  intro d
  induction d with
  | zero =>
    intro i hi
    refine Ev.step (fun k => laws_eqIntS.l0.eq_2 ..) (evn (by omega) (evs ?_))
    simp [List.drop_of_length_le (show a.length ≤ i by omega), List.drop_of_length_le (show b.length ≤ i by omega)]
  | succ d ih =>
    intro i hi
    refine Ev.step (fun k => laws_eqIntS.l0.eq_2 ..) (evp (by omega) (evp (by omega) (evp (by omega) ?_)))
    rw [w64s i (by omega), rd_nat, rd_nat]
    have ea := List.drop_eq_getElem_cons (show i < a.length by omega)
    have eb := List.drop_eq_getElem_cons (show i < b.length by omega)
    simp only [List.getD_eq_getElem?_getD, List.getElem?_eq_getElem (show i < a.length by omega), List.getElem?_eq_getElem (show i < b.length by omega), Option.getD_some]
    by_cases e : a[i] = b[i]
    · refine evp e (evr (ih (i + 1) (by omega)) ?_)
      rw [ea, eb, e]; simp only [List.cons.injEq, true_and]
    · refine evn e (evs ?_)
      rw [ea, eb]; simp only [List.cons.injEq, e, false_and, decide_false]
theorem eqIntS (a b : List Int) (hx : a.length < 4611686018427387904) : Ev (fun k => laws_eqIntS.f k a b) (decide (a = b)) := by
  unfold laws_eqIntS.f
  by_cases h : a.length = b.length
  · refine evp (by omega) (evr (eqIntS_l0 a b h hx a.length 0 (by omega)) (by simp))
  · refine evn (by omega) (evs ?_)
    have : a ≠ b := fun e => h (by rw [e])
    simp [this]

/-! ### laws_markIntS -/
theorem markIntS_l0 (d : Nat) : ∀ (x0 : List Int) (m : Int) (i : Nat), i + d = x0.length → x0.length < 4611686018427387904 → 0 ≤ m → m + d < 4611686018427387904 →
    Ev (fun k => laws_markIntS.l0 k x0 m (i : Int)) (m + d, x0.take i ++ (List.range d).map fun j : Nat => m + (j : Int)) := by
  induction d with
  | zero =>
    intro x0 m i hi hx h0 hm
    refine Ev.step (fun k => laws_markIntS.l0.eq_2 ..) (evn (by omega) (evs ?_))
    simp [List.take_of_length_le (show x0.length ≤ i by omega)]
  | succ d ih =>
    intro x0 m i hi hx h0 hm
    refine Ev.step (fun k => laws_markIntS.l0.eq_2 ..) (evp (by omega) (evp (by omega) ?_))
    rw [w64s i (by omega), w64 (x := m + 1) (by omega) (by omega)]
    refine evr (ih _ _ (i + 1) (by simp; omega) (by simpa using hx) (by omega) (by omega)) ?_
    rw [Int.toNat_natCast, set_take _ _ _ (by omega), List.append_assoc, List.range_succ_eq_map]
    simp only [List.map_cons, List.map_map, Prod.mk.injEq]
    refine ⟨by push_cast; omega, ?_⟩
    congr 1
    simp only [List.cons_append, List.nil_append, List.cons.injEq]
    refine ⟨by simp, List.map_congr_left fun j _ => by simp; omega⟩
theorem markIntS (l : List Int) (m : Int) (h0 : 0 ≤ m) (h : m + l.length < 4611686018427387904) : Ev (fun k => laws_markIntS.f k l m) (m + l.length, marks l m) := by
  unfold laws_markIntS.f
  exact evr (markIntS_l0 l.length l m 0 (by omega) (by omega) h0 h) (by simp [marks])

/-! ### laws_heldIntS -/
theorem heldIntS_l0 (l : List Int) (m : Int) (h0 : 0 ≤ m) (hm : m + l.length < 4611686018427387904) (hv : ∀ i, i < l.length → l.getD i 0 = m + i) : ∀ (d i : Nat), i + d = l.length →
    Ev (fun k => laws_heldIntS.l0 k l (m + (i : Int)) (i : Int)) (m + l.length) := by
  intro d
  induction d with
  | zero =>
    intro i hi
    refine Ev.step (fun k => laws_heldIntS.l0.eq_2 ..) (evn (by omega) (evs ?_))
    omega
  | succ d ih =>
    intro i hi
    refine Ev.step (fun k => laws_heldIntS.l0.eq_2 ..) (evp (by omega) (evp (by omega) ?_))
    rw [w64s i (by omega), w64 (x := m + i + 1) (by omega) (by omega), rd_nat]
    refine evp (hv i (by omega)) ?_
    have := ih (i + 1) (by omega)
    rw [show m + ((i + 1 : Nat) : Int) = m + i + 1 by omega] at this
    exact this
theorem heldIntS (l : List Int) (m : Int) (h0 : 0 ≤ m) (hm : m + l.length < 4611686018427387904) : Ev (fun k => laws_heldIntS.f k (marks l m) m) (m + l.length) := by
  unfold laws_heldIntS.f
  have h := heldIntS_l0 (marks l m) m h0 (by rw [marks_length]; exact hm) (fun i hi => marks_at l m i (by rwa [marks_length] at hi)) l.length 0 (by rw [marks_length]; omega)
  rw [marks_length] at h
  simpa using h

/-! ### spec_l1In -/
theorem l1In (a b c : Int) : spec_l1In.f a b c = some (decide (b ≤ a ∧ a ≤ c)) := by
  unfold spec_l1In.f; split <;> simp_all <;> omega

/-! ### impl_within -/
theorem within (a b c : Int) : impl_within.f a b c = some (decide (b ≤ a ∧ a ≤ c)) := by
  unfold impl_within.f; split <;> simp_all <;> omega

/-! ### spec_l2Table -/
theorem l2Table_l0 (l : List Int) (hx : l.length < 4611686018427387904) : ∀ (d i : Nat), i + d = l.length →
    Ev (fun k => spec_l2Table.l0 k l (i : Int)) ((l.drop i).all fun x => decide (0 ≤ x ∧ x ≤ 1)) := by
  intro d
  induction d with
  | zero =>
    intro i hi
    refine Ev.step (fun k => spec_l2Table.l0.eq_2 ..) (evn (by omega) (evs ?_))
    simp [List.drop_of_length_le (show l.length ≤ i by omega)]
  | succ d ih =>
    intro i hi
    refine Ev.step (fun k => spec_l2Table.l0.eq_2 ..) (evp (by omega) (evp (by omega) ?_))
    rw [w64s i (by omega), rd_nat, l1In, List.drop_eq_getElem_cons (show i < l.length by omega)]
    simp only [List.getD_eq_getElem?_getD, List.getElem?_eq_getElem (show i < l.length by omega), Option.getD_some, Option.bind_some, List.all_cons]
    by_cases e : 0 ≤ l[i] ∧ l[i] ≤ 1
    · refine evp (by simpa using e) (evr (ih (i + 1) (by omega)) (by simp [e]))
    · refine evn (by simpa using e) (evs (by simp [e]))
theorem l2Table (n : Int) (l : List Int) (hx : l.length < 4611686018427387904) : Ev (fun k => spec_l2Table.f k n l) (isTab n l) := by
  unfold spec_l2Table.f isTab
  rw [l1In]
  simp only [Option.bind_some]
  by_cases h : 0 ≤ n ∧ n ≤ 4
  · refine evp (by simpa using h) (evp h.1 (Ev.step (fun k => spec_l2Table.j0.eq_2 ..) ?_))
    obtain ⟨m, rfl⟩ := Int.eq_ofNat_of_zero_le h.1
    rw [shl1 m (by omega)]
    by_cases e : l.length = 2 ^ m
    · refine evn (by simp [e]) (evr (l2Table_l0 l hx l.length 0 (by omega)) (by simp [e]; omega))
    · refine evp (by simp; exact_mod_cast e) (evs (by simp [e]))
  · refine evn (by simpa using h) (Ev.step (fun k => spec_l2Table.j0.eq_2 ..) (evp rfl (evs (by simp [h]))))

/-! ### impl_allWithin -/
theorem allWithin_l0 (lo up : Int) (l : List Int) (hx : l.length < 4611686018427387904) : ∀ (d i : Nat), i + d = l.length →
    Ev (fun k => impl_allWithin.l0 k lo up l (l.length : Int) (i : Int)) ((l.drop i).all fun x => decide (lo ≤ x ∧ x ≤ up)) := by
  intro d
  induction d with
  | zero =>
    intro i hi
    refine Ev.step (fun k => impl_allWithin.l0.eq_2 ..) (evn (by omega) (evs ?_))
    simp [List.drop_of_length_le (show l.length ≤ i by omega)]
  | succ d ih =>
    intro i hi
    refine Ev.step (fun k => impl_allWithin.l0.eq_2 ..) (evp (by omega) (evp (by omega) (evp (by omega) ?_)))
    rw [w64s i (by omega), rd_nat, within, List.drop_eq_getElem_cons (show i < l.length by omega)]
    simp only [List.getD_eq_getElem?_getD, List.getElem?_eq_getElem (show i < l.length by omega), Option.getD_some, Option.bind_some, List.all_cons]
    by_cases e : lo ≤ l[i] ∧ l[i] ≤ up
    · refine evp (by simpa using e) (evr (ih (i + 1) (by omega)) (by simp [e]))
    · refine evn (by simpa using e) (evs (by simp [e]))
theorem allWithin (l : List Int) (lo up : Int) (hx : l.length < 4611686018427387904) : Ev (fun k => impl_allWithin.f k l lo up) (l.all fun x => decide (lo ≤ x ∧ x ≤ up)) := by
  unfold impl_allWithin.f
  exact allWithin_l0 lo up l hx l.length 0 (by omega)

/-! ### impl_isTable -/
theorem isTable (n : Int) (l : List Int) (hx : l.length < 4611686018427387904) : Ev (fun k => impl_isTable.f k n l) (isTab n l) := by
  unfold impl_isTable.f isTab
  rw [within]
  simp only [Option.bind_some]
  by_cases h : 0 ≤ n ∧ n ≤ 4
  · obtain ⟨m, rfl⟩ := Int.eq_ofNat_of_zero_le h.1
    refine evp (by simpa using h) (evp h.1 ?_)
    rw [shl1 m (by omega)]
    by_cases e : l.length = 2 ^ m
    · refine evp (by exact_mod_cast e) (evb (allWithin l 0 1 hx) (evs (by simp [e]; omega)))
    · refine evn (by exact_mod_cast e) (evs (by simp [e]))
  · refine evn (by simpa using h) (evs (by simp [h]))

/-! ### spec_l5Moves -/
theorem l5Moves_l0 {m : Nat} {l : List Int} (h : Tab m l) (i : Nat) (hi : i < m) : ∀ (d j : Nat) (a b : Int), j + d = l.length → 0 ≤ a → a ≤ j → 0 ≤ b → b ≤ j →
    Ev (fun k => spec_l5Moves.l0 k l (i : Int) a b (j : Int)) (a + sumN (lost l i) j d, b + sumN (won l i) j d) := by
  have hlen := h.len
  have hm := h.1
  intro d
  induction d with
  | zero =>
    intro j a b hj _ _ _ _
    refine Ev.step (fun k => spec_l5Moves.l0.eq_2 ..) (evn (by omega) (evs ?_))
    simp [sumN]
  | succ d ih =>
    intro j a b hj ha ha' hb hb'
    refine Ev.step (fun k => spec_l5Moves.l0.eq_2 ..) (evp (by omega) (evp (by omega) ?_))
    rw [digit j i (by omega) (by omega), w64s j (by omega)]
    by_cases e : bit j i = 1
    · refine evp (by omega) (evr (ih (j + 1) a b (by omega) ha (by omega) hb (by omega)) ?_)
      simp [sumN, lost, won, e]
    · have e0 : bit j i = 0 := by have := bit_lt j i; omega
      have hlt := bit_add_lt (h.2.1 ▸ (show j < l.length by omega)) hi e0
      have hlt' : j + 2 ^ i < l.length := by rw [h.2.1]; exact hlt
      have hq := Nat.two_pow_pos i
      rw [shl1 i (by omega), w64 (x := (j : Int) + ((2 ^ i : Nat) : Int)) (by omega) (by omega), show (j : Int) + ((2 ^ i : Nat) : Int) = ((j + 2 ^ i : Nat) : Int) by omega]
      refine evn (by omega) (evp (by omega) (evp (by omega) (evp (by omega) ?_)))
      rw [rd_nat, rd_nat]
      have u := h.lost i j; have v := h.won i j
      have u' : lost l i j = l.getD j 0 * (1 - l.getD (j + 2 ^ i) 0) := by unfold lost; rw [if_neg e]
      have v' : won l i j = l.getD (j + 2 ^ i) 0 * (1 - l.getD j 0) := by unfold won; rw [if_neg e]
      have p := h.at_ j; have q := h.at_ (j + 2 ^ i)
      rw [w64 (x := 1 - l.getD (j + 2 ^ i) 0) (by omega) (by omega), w64 (x := 1 - l.getD j 0) (by omega) (by omega), ← u', ← v', w64 (x := lost l i j) (by omega) (by omega), w64 (x := won l i j) (by omega) (by omega), w64 (x := a + lost l i j) (by omega) (by omega), w64 (x := b + won l i j) (by omega) (by omega)]
      refine evr (ih (j + 1) _ _ (by omega) (by omega) (by omega) (by omega) (by omega)) ?_
      simp only [sumN, Prod.mk.injEq]; omega
theorem l5Moves {m : Nat} {l : List Int} (h : Tab m l) (i : Nat) (hi : i < m) : Ev (fun k => spec_l5Moves.f k l (i : Int)) (losses l i, gains l i) := by
  unfold spec_l5Moves.f
  exact evr (l5Moves_l0 h i hi l.length 0 0 0 (by omega) (by omega) (by omega) (by omega) (by omega)) (by simp [losses, gains])

/-! ### impl_ways -/
theorem ways_l0 {m : Nat} {l : List Int} (h : Tab m l) (i : Nat) (hi : i < m) : ∀ (d j : Nat) (a b : Int), j + d = l.length → 0 ≤ a → a ≤ j → 0 ≤ b → b ≤ j →
    Ev (fun k => impl_ways.l0 k l (i : Int) a b (l.length : Int) (j : Int)) (a + sumN (won l i) j d, b + sumN (lost l i) j d) := by
  have hlen := h.len
  have hm := h.1
  intro d
  induction d with
  | zero =>
    intro j a b hj _ _ _ _
    refine Ev.step (fun k => impl_ways.l0.eq_2 ..) (evn (by omega) (evs ?_))
    simp [sumN]
  | succ d ih =>
    intro j a b hj ha ha' hb hb'
    refine Ev.step (fun k => impl_ways.l0.eq_2 ..) (evp (by omega) (evp (by omega) ?_))
    rw [digit j i (by omega) (by omega), w64s j (by omega)]
    by_cases e : bit j i = 1
    · refine evp (by omega) (evr (ih (j + 1) a b (by omega) ha (by omega) hb (by omega)) ?_)
      simp [sumN, lost, won, e]
    · have e0 : bit j i = 0 := by have := bit_lt j i; omega
      have hlt := bit_add_lt (h.2.1 ▸ (show j < l.length by omega)) hi e0
      have hlt' : j + 2 ^ i < l.length := by rw [h.2.1]; exact hlt
      have hq := Nat.two_pow_pos i
      have hp : (2 : Nat) ^ i < 2 ^ 63 := Nat.pow_lt_pow_right (by decide) (by omega)
      rw [shl1 i (by omega), or_nat j (2 ^ i) (by omega) hp, bit_or j i e0]
      refine evn (by omega) (evp (by omega) (evp (by omega) (evp (by omega) (evp (by omega) ?_))))
      rw [rd_nat, rd_nat]
      have u' : lost l i j = l.getD j 0 * (1 - l.getD (j + 2 ^ i) 0) := by unfold lost; rw [if_neg e]
      have v' : won l i j = l.getD (j + 2 ^ i) 0 * (1 - l.getD j 0) := by unfold won; rw [if_neg e]
      have p := h.at_ j; have q := h.at_ (j + 2 ^ i)
      generalize l.getD (j + 2 ^ i) 0 = y at *; generalize l.getD j 0 = x at *
      rw [w64 (x := y - x) (by omega) (by omega)]
      obtain rfl | rfl : x = 0 ∨ x = 1 := by omega
      · obtain rfl | rfl : y = 0 ∨ y = 1 := by omega
        · refine evn (by omega) (evn (by omega) (evr (ih (j + 1) a b (by omega) ha (by omega) hb (by omega)) ?_))
          simp only [sumN, Prod.mk.injEq]; omega
        · rw [w64 (x := a + 1) (by omega) (by omega)]
          refine evp (by omega) (evr (ih (j + 1) (a + 1) b (by omega) (by omega) (by omega) hb (by omega)) ?_)
          simp only [sumN, Prod.mk.injEq]; omega
      · obtain rfl | rfl : y = 0 ∨ y = 1 := by omega
        · rw [w64 (x := b + 1) (by omega) (by omega)]
          refine evn (by omega) (evp (by omega) (evr (ih (j + 1) a (b + 1) (by omega) ha (by omega) (by omega) (by omega)) ?_))
          simp only [sumN, Prod.mk.injEq]; omega
        · refine evn (by omega) (evn (by omega) (evr (ih (j + 1) a b (by omega) ha (by omega) hb (by omega)) ?_))
          simp only [sumN, Prod.mk.injEq]; omega
theorem ways {m : Nat} {l : List Int} (h : Tab m l) (i : Nat) (hi : i < m) : Ev (fun k => impl_ways.f k l (i : Int)) (gains l i, losses l i) := by
  unfold impl_ways.f
  exact evr (ways_l0 h i hi l.length 0 0 0 (by omega) (by omega) (by omega) (by omega) (by omega)) (by simp [losses, gains])

/-! ### spec_BitSigns -/
theorem sSigns_l0 {m : Nat} {l : List Int} (h : Tab m l) : ∀ (d j : Nat) (out : List Int), j + d = m → out.length = j →
    Ev (fun k => spec_BitSigns.l0 k (m : Int) l out (j : Int)) (if (List.range' j d).any (both l) = true then ([], false) else (out ++ (List.range' j d).map (sign1 l), true)) := by
  have hm := h.1
  intro d
  induction d with
  | zero =>
    intro j out hj ho
    exact Ev.step (fun k => spec_BitSigns.l0.eq_2 ..) (evn (by omega) (evs (by simp)))
  | succ d ih =>
    intro j out hj ho
    have u := h.losses j; have v := h.gains j
    refine Ev.step (fun k => spec_BitSigns.l0.eq_2 ..) (evp (by omega) (evb (l5Moves h j (by omega)) ?_))
    have nxt : ∀ x, x = sign1 l j → both l j = false → Ev (fun k => spec_BitSigns.l0 k (m : Int) l (out ++ [x]) (wrap64 ((j : Int) + 1))) (if (List.range' j (d + 1)).any (both l) = true then ([], false) else (out ++ (List.range' j (d + 1)).map (sign1 l), true)) := by
      intro x hx hb
      rw [w64s j (by omega)]
      refine evr (ih (j + 1) _ (by omega) (by simp; omega)) ?_
      rw [List.range'_succ, List.any_cons, hb, Bool.false_or]; simp [hx]
    by_cases a : losses l j > 0
    · refine evp a (Ev.step (fun k => spec_BitSigns.j1.eq_2 ..) ?_)
      by_cases b : gains l j > 0
      · exact evp (by simpa using b) (evs (by rw [if_pos (by simp [List.range'_succ, both, a, b])]))
      · refine evn (by simpa using b) (evp a (evp (by omega) (nxt _ ?_ ?_)))
        · simp [sign1, a]
        · simp [both]; omega
    · refine evn a (Ev.step (fun k => spec_BitSigns.j1.eq_2 ..) (evn (by simp) (evn a ?_)))
      by_cases b : gains l j > 0
      · refine evp b (evp (by omega) (nxt _ ?_ ?_))
        · unfold sign1; rw [if_neg (by omega), if_pos (by omega)]
        · simp [both]; omega
      · refine evn b (evp (by omega) (nxt _ ?_ ?_))
        · unfold sign1; rw [if_neg (by omega), if_neg (by omega)]
        · simp [both]; omega
theorem sSigns (n : Int) (l : List Int) (hx : l.length < 4611686018427387904) : Ev (fun k => spec_BitSigns.f k n l) (signs n l) := by
  unfold spec_BitSigns.f signs
  refine evb (evc rfl) (evb (l2Table n l hx) ?_)
  by_cases e : isTab n l = true
  · obtain ⟨m, rfl, h⟩ := isTab_tab e
    refine evp e (evr (sSigns_l0 h m 0 [] (by omega) rfl) ?_)
    simp [e, List.range_eq_range']
  · refine evn e (evs (by simp [e]))

/-! ### impl_BitSigns -/
theorem iSigns_l0 {m : Nat} {l : List Int} (h : Tab m l) : ∀ (d j : Nat) (out : List Int), j + d = m → out.length = j →
    Ev (fun k => impl_BitSigns.l0 k l out (m : Int) (j : Int)) (if (List.range' j d).any (both l) = true then ([], false) else (out ++ (List.range' j d).map (sign1 l), true)) := by
  have hm := h.1
  intro d
  induction d with
  | zero =>
    intro j out hj ho
    exact Ev.step (fun k => impl_BitSigns.l0.eq_2 ..) (evn (by omega) (evs (by simp)))
  | succ d ih =>
    intro j out hj ho
    have u := h.losses j; have v := h.gains j
    refine Ev.step (fun k => impl_BitSigns.l0.eq_2 ..) (evp (by omega) (evb (ways h j (by omega)) ?_))
    have nxt : both l j = false → Ev (fun k => impl_BitSigns.l0 k l (out ++ [wrap64 (mn (gains l j) 1 - mn (losses l j) 1)]) (m : Int) (wrap64 ((j : Int) + 1))) (if (List.range' j (d + 1)).any (both l) = true then ([], false) else (out ++ (List.range' j (d + 1)).map (sign1 l), true)) := by
      intro hb
      have hx : wrap64 (mn (gains l j) 1 - mn (losses l j) 1) = sign1 l j := by
        have e1 : mn (gains l j) 1 = if gains l j > 0 then 1 else 0 := by unfold mn; split <;> split <;> omega
        have e2 : mn (losses l j) 1 = if losses l j > 0 then 1 else 0 := by unfold mn; split <;> split <;> omega
        have hb' : ¬ (0 < losses l j ∧ 0 < gains l j) := by simpa [both] using hb
        rw [e1, e2]; unfold sign1
        by_cases a : losses l j > 0
        · rw [if_neg (show ¬ gains l j > 0 by omega), if_pos a, if_pos a]; exact w64 (by omega) (by omega)
        · by_cases b : gains l j > 0
          · rw [if_pos b, if_neg a, if_neg (show ¬ 0 < losses l j from a)]; exact w64 (by omega) (by omega)
          · rw [if_neg b, if_neg a, if_neg (show ¬ 0 < losses l j from a)]; exact w64 (by omega) (by omega)
      rw [w64s j (by omega), hx]
      refine evr (ih (j + 1) _ (by omega) (by simp; omega)) ?_
      rw [List.range'_succ, List.any_cons, hb, Bool.false_or]; simp
    by_cases b : gains l j > 0
    · refine evp b ?_
      by_cases a : losses l j > 0
      · exact evp a (evs (by rw [if_pos (by simp [List.range'_succ, both, a, b])]))
      · exact evn a (evp (by omega) (nxt (by simp [both]; omega)))
    · exact evn b (evp (by omega) (nxt (by simp [both]; omega)))
theorem iSigns (n : Int) (l : List Int) (hx : l.length < 4611686018427387904) : Ev (fun k => impl_BitSigns.f k n l) (signs n l) := by
  unfold impl_BitSigns.f signs
  refine evb (isTable n l hx) ?_
  by_cases e : isTab n l = true
  · obtain ⟨m, rfl, h⟩ := isTab_tab e
    refine evp e (evr (iSigns_l0 h m 0 [] (by omega) rfl) ?_)
    simp [e, List.range_eq_range']
  · refine evn e (evs (by simp [e]))

/-! ### laws_FnExactBitSigns -/
theorem law (n : Int) (l : List Int) : Ev (fun k => laws_FnExactBitSigns.f k n l) true := by
  unfold laws_FnExactBitSigns.f
  by_cases h : (l.length : Int) > 1048576
  · exact evp h (evs rfl)
  have hs := sSigns n l (by omega)
  have hi := iSigns n l (by omega)
  have hb := signs_len n l
  generalize signs n l = R at *
  repeat (first
    | exact evs rfl
    | (with_reducible refine evb hs ?_)
    | (with_reducible refine evb hi ?_)
    | ((with_reducible refine evb (toIntS _ ?_) ?_); (focus omega))
    | ((with_reducible refine evb (eqIntS _ _ ?_) ?_); (focus omega))
    | ((with_reducible refine evb (markIntS _ _ ?_ ?_) ?_); (focus omega); (focus omega))
    | ((with_reducible refine evb (heldIntS _ _ ?_ ?_) ?_); (focus omega); (focus omega))
    | (refine evp ?_ ?_; focus (first | omega | (simp; done)))
    | (refine evn ?_ ?_; focus (first | omega | (simp; done)))
    | (with_reducible refine Ev.step (fun k => laws_FnExactBitSigns.j0.eq_2 ..) ?_)
    | (with_reducible refine Ev.step (fun k => laws_FnExactBitSigns.j1.eq_2 ..) ?_)
    | (with_reducible refine Ev.step (fun k => laws_FnExactBitSigns.j2.eq_2 ..) ?_)
    )

end Go.Proofs.Ytocmmbnndieknaa.LFnExactBitSigns
