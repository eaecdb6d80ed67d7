/- Own lemmas: what the printed functions of one law come to. -/
import Derived.Test.YtocmmbnndieknaaMFnExactIsGamex2
import Derived.Test.YtocmmbnndieknaaBase
namespace Go.Proofs.Ytocmmbnndieknaa.LFnExactIsGame
open Go Go.RowKit Go.Proofs.Ytocmmbnndieknaa.Base Go.Proofs.Ytocmmbnndieknaa.PFnExactIsGame Go.Proofs.YtocmmbnndieknaaW.PrintWords Go.Proofs.YtocmmbnndieknaaW.PrintLast Go.Proofs.YtocmmbnndieknaaW.PrintMore
set_option linter.unusedVariables false
set_option linter.unusedSimpArgs false
set_option maxRecDepth 4000

/-! ### laws_toIntS -/
theorem toIntS_l0 (x0 : List Int) (hx : x0.length < 4611686018427387904) : ∀ (d i : Nat) (x3 : List Int), i + d = x0.length → x3.length = x0.length →
    Ev (fun k => laws_toIntS.l0 k x0 x3 (i : Int)) (x3.take i ++ x0.drop i) := by
  intro d
  induction d with
  | zero =>
    intro i x3 hi hl
    refine Ev.step (fun k => laws_toIntS.l0.eq_2 ..) (evn (by omega) (evs ?_))
    simp [List.take_of_length_le (show x3.length ≤ i by omega), List.drop_of_length_le (show x0.length ≤ i by omega)]
  | succ d ih =>
    intro i x3 hi hl
    refine Ev.step (fun k => laws_toIntS.l0.eq_2 ..) (evp (by omega) (evp (by omega) (evp (by omega) ?_)))
    rw [w64s i (by omega), rd_nat]
    refine evr (ih (i + 1) _ (by omega) (by simpa using hl)) ?_
    rw [Int.toNat_natCast, set_take _ _ _ (by omega), List.drop_eq_getElem_cons (show i < x0.length by omega), List.append_assoc]
    simp [List.getD_eq_getElem?_getD, List.getElem?_eq_getElem (show i < x0.length by omega)]
theorem toIntS (l : List Int) (h : l.length ≤ 35184372088832) : Ev (fun k => laws_toIntS.f k l) l := by
  unfold laws_toIntS.f
  refine evp (by omega) (evp (by simpa using h) ?_)
  refine evr (toIntS_l0 l (by omega) l.length 0 _ (by omega) (by simp)) (by simp)

/-! ### laws_eqIntS -/
theorem eqIntS_l0 (a b : List Int) (hl : a.length = b.length) (hx : a.length < 4611686018427387904) : ∀ (d i : Nat), i + d = a.length →
    Ev (fun k => laws_eqIntS.l0 k a b (i : Int)) (decide (a.drop i = b.drop i)) := by
  intro d
  induction d with
  | zero =>
    intro i hi
    refine Ev.step (fun k => laws_eqIntS.l0.eq_2 ..) (evn (by omega) (evs ?_))
    simp [List.drop_of_length_le (show a.length ≤ i by omega), List.drop_of_length_le (show b.length ≤ i by omega)]
  | succ d ih =>
    intro i hi
    refine Ev.step (fun k => laws_eqIntS.l0.eq_2 ..) (evp (by omega) (evp (by omega) (evp (by omega) ?_)))
    rw [w64s i (by omega), rd_nat, rd_nat]
    have ea := List.drop_eq_getElem_cons (show i < a.length by omega)
    have eb := List.drop_eq_getElem_cons (show i < b.length by omega)
    simp only [List.getD_eq_getElem?_getD, List.getElem?_eq_getElem (show i < a.length by omega), List.getElem?_eq_getElem (show i < b.length by omega), Option.getD_some]
    by_cases e : a[i] = b[i]
    · refine evp e (evr (ih (i + 1) (by omega)) ?_)
      rw [ea, eb, e]; simp only [List.cons.injEq, true_and]
    · refine evn e (evs ?_)
      rw [ea, eb]; simp only [List.cons.injEq, e, false_and, decide_false]
theorem eqIntS (a b : List Int) (hx : a.length < 4611686018427387904) : Ev (fun k => laws_eqIntS.f k a b) (decide (a = b)) := by
  unfold laws_eqIntS.f
  by_cases h : a.length = b.length
  · refine evp (by omega) (evr (eqIntS_l0 a b h hx a.length 0 (by omega)) (by simp))
  · refine evn (by omega) (evs ?_)
    have : a ≠ b := fun e => h (by rw [e])
    simp [this]

/-! ### spec_l1In -/
theorem l1In (a b c : Int) : spec_l1In.f a b c = some (decide (b ≤ a ∧ a ≤ c)) := by
  unfold spec_l1In.f; split <;> simp_all <;> omega

/-! ### impl_within -/
theorem within (a b c : Int) : impl_within.f a b c = some (decide (b ≤ a ∧ a ≤ c)) := by
  unfold impl_within.f; split <;> simp_all <;> omega

/-! ### spec_l2Table -/
theorem l2Table_l0 (l : List Int) (hx : l.length < 4611686018427387904) : ∀ (d i : Nat), i + d = l.length →
    Ev (fun k => spec_l2Table.l0 k l (i : Int)) ((l.drop i).all fun x => decide (0 ≤ x ∧ x ≤ 1)) := by
  intro d
  induction d with
  | zero =>
    intro i hi
    refine Ev.step (fun k => spec_l2Table.l0.eq_2 ..) (evn (by omega) (evs ?_))
    simp [List.drop_of_length_le (show l.length ≤ i by omega)]
  | succ d ih =>
    intro i hi
    refine Ev.step (fun k => spec_l2Table.l0.eq_2 ..) (evp (by omega) (evp (by omega) ?_))
    rw [w64s i (by omega), rd_nat, l1In, List.drop_eq_getElem_cons (show i < l.length by omega)]
    simp only [List.getD_eq_getElem?_getD, List.getElem?_eq_getElem (show i < l.length by omega), Option.getD_some, Option.bind_some, List.all_cons]
    by_cases e : 0 ≤ l[i] ∧ l[i] ≤ 1
    · refine evp (by simpa using e) (evr (ih (i + 1) (by omega)) (by simp [e]))
    · refine evn (by simpa using e) (evs (by simp [e]))
theorem l2Table (n : Int) (l : List Int) (hx : l.length < 4611686018427387904) : Ev (fun k => spec_l2Table.f k n l) (isTab n l) := by
  unfold spec_l2Table.f isTab
  rw [l1In]
  simp only [Option.bind_some]
  by_cases h : 0 ≤ n ∧ n ≤ 4
  · refine evp (by simpa using h) (evp h.1 (Ev.step (fun k => spec_l2Table.j0.eq_2 ..) ?_))
    obtain ⟨m, rfl⟩ := Int.eq_ofNat_of_zero_le h.1
    rw [shl1 m (by omega)]
    by_cases e : l.length = 2 ^ m
    · refine evn (by simp [e]) (evr (l2Table_l0 l hx l.length 0 (by omega)) (by simp [e]; omega))
    · refine evp (by simp; exact_mod_cast e) (evs (by simp [e]))
  · refine evn (by simpa using h) (Ev.step (fun k => spec_l2Table.j0.eq_2 ..) (evp rfl (evs (by simp [h]))))

/-! ### impl_allWithin -/
theorem allWithin_l0 (lo up : Int) (l : List Int) (hx : l.length < 4611686018427387904) : ∀ (d i : Nat), i + d = l.length →
    Ev (fun k => impl_allWithin.l0 k lo up l (l.length : Int) (i : Int)) ((l.drop i).all fun x => decide (lo ≤ x ∧ x ≤ up)) := by
  intro d
  induction d with
  | zero =>
    intro i hi
    refine Ev.step (fun k => impl_allWithin.l0.eq_2 ..) (evn (by omega) (evs ?_))
    simp [List.drop_of_length_le (show l.length ≤ i by omega)]
  | succ d ih =>
    intro i hi
    refine Ev.step (fun k => impl_allWithin.l0.eq_2 ..) (evp (by omega) (evp (by omega) (evp (by omega) ?_)))
    rw [w64s i (by omega), rd_nat, within, List.drop_eq_getElem_cons (show i < l.length by omega)]
    simp only [List.getD_eq_getElem?_getD, List.getElem?_eq_getElem (show i < l.length by omega), Option.getD_some, Option.bind_some, List.all_cons]
    by_cases e : lo ≤ l[i] ∧ l[i] ≤ up
    · refine evp (by simpa using e) (evr (ih (i + 1) (by omega)) (by simp [e]))
    · refine evn (by simpa using e) (evs (by simp [e]))
theorem allWithin (l : List Int) (lo up : Int) (hx : l.length < 4611686018427387904) : Ev (fun k => impl_allWithin.f k l lo up) (l.all fun x => decide (lo ≤ x ∧ x ≤ up)) := by
  unfold impl_allWithin.f
  exact allWithin_l0 lo up l hx l.length 0 (by omega)

/-! ### impl_isTable -/
theorem isTable (n : Int) (l : List Int) (hx : l.length < 4611686018427387904) : Ev (fun k => impl_isTable.f k n l) (isTab n l) := by
  unfold impl_isTable.f isTab
  rw [within]
  simp only [Option.bind_some]
  by_cases h : 0 ≤ n ∧ n ≤ 4
  · obtain ⟨m, rfl⟩ := Int.eq_ofNat_of_zero_le h.1
    refine evp (by simpa using h) (evp h.1 ?_)
    rw [shl1 m (by omega)]
    by_cases e : l.length = 2 ^ m
    · refine evp (by exact_mod_cast e) (evb (allWithin l 0 1 hx) (evs (by simp [e]; omega)))
    · refine evn (by exact_mod_cast e) (evs (by simp [e]))
  · refine evn (by simpa using h) (evs (by simp [h]))

/-! ### impl_ways -/
theorem ways_l0 {m : Nat} {l : List Int} (h : Tab m l) (i : Nat) (hi : i < m) : ∀ (d j : Nat) (a b : Int), j + d = l.length → 0 ≤ a → a ≤ j → 0 ≤ b → b ≤ j →
    Ev (fun k => impl_ways.l0 k l (i : Int) a b (l.length : Int) (j : Int)) (a + sumN (won l i) j d, b + sumN (lost l i) j d) := by
  have hlen := h.len
  have hm := h.1
  intro d
  induction d with
  | zero =>
    intro j a b hj _ _ _ _
    refine Ev.step (fun k => impl_ways.l0.eq_2 ..) (evn (by omega) (evs ?_))
    simp [sumN]
  | succ d ih =>
    intro j a b hj ha ha' hb hb'
    refine Ev.step (fun k => impl_ways.l0.eq_2 ..) (evp (by omega) (evp (by omega) ?_))
    rw [digit j i (by omega) (by omega), w64s j (by omega)]
    by_cases e : bit j i = 1
    · refine evp (by omega) (evr (ih (j + 1) a b (by omega) ha (by omega) hb (by omega)) ?_)
      simp [sumN, lost, won, e]
    · have e0 : bit j i = 0 := by have := bit_lt j i; omega
      have hlt := bit_add_lt (h.2.1 ▸ (show j < l.length by omega)) hi e0
      have hlt' : j + 2 ^ i < l.length := by rw [h.2.1]; exact hlt
      have hq := Nat.two_pow_pos i
      have hp : (2 : Nat) ^ i < 2 ^ 63 := Nat.pow_lt_pow_right (by decide) (by omega)
      rw [shl1 i (by omega), or_nat j (2 ^ i) (by omega) hp, bit_or j i e0]
      refine evn (by omega) (evp (by omega) (evp (by omega) (evp (by omega) (evp (by omega) ?_))))
      rw [rd_nat, rd_nat]
      have u' : lost l i j = l.getD j 0 * (1 - l.getD (j + 2 ^ i) 0) := by unfold lost; rw [if_neg e]
      have v' : won l i j = l.getD (j + 2 ^ i) 0 * (1 - l.getD j 0) := by unfold won; rw [if_neg e]
      have p := h.at_ j; have q := h.at_ (j + 2 ^ i)
      generalize l.getD (j + 2 ^ i) 0 = y at *; generalize l.getD j 0 = x at *
      rw [w64 (x := y - x) (by omega) (by omega)]
      obtain rfl | rfl : x = 0 ∨ x = 1 := by omega
      · obtain rfl | rfl : y = 0 ∨ y = 1 := by omega
        · refine evn (by omega) (evn (by omega) (evr (ih (j + 1) a b (by omega) ha (by omega) hb (by omega)) ?_))
          simp only [sumN, Prod.mk.injEq]; omega
        · rw [w64 (x := a + 1) (by omega) (by omega)]
          refine evp (by omega) (evr (ih (j + 1) (a + 1) b (by omega) (by omega) (by omega) hb (by omega)) ?_)
          simp only [sumN, Prod.mk.injEq]; omega
      · obtain rfl | rfl : y = 0 ∨ y = 1 := by omega
        · rw [w64 (x := b + 1) (by omega) (by omega)]
          refine evn (by omega) (evp (by omega) (evr (ih (j + 1) a (b + 1) (by omega) ha (by omega) (by omega) (by omega)) ?_))
          simp only [sumN, Prod.mk.injEq]; omega
        · refine evn (by omega) (evn (by omega) (evr (ih (j + 1) a b (by omega) ha (by omega) hb (by omega)) ?_))
          simp only [sumN, Prod.mk.injEq]; omega
theorem ways {m : Nat} {l : List Int} (h : Tab m l) (i : Nat) (hi : i < m) : Ev (fun k => impl_ways.f k l (i : Int)) (gains l i, losses l i) := by
  unfold impl_ways.f
  exact evr (ways_l0 h i hi l.length 0 0 0 (by omega) (by omega) (by omega) (by omega) (by omega)) (by simp [losses, gains])

/-! ### spec_l6Game -/
theorem l6Game_l1 {m : Nat} {l : List Int} (h : Tab m l) (j : Nat) (hj : j < l.length) (r : Bool) (hr : Ev (fun k => spec_l6Game.l0 k (m : Int) l ((j + 1 : Nat) : Int)) r) : ∀ (d i : Nat), i + d = m →
    Ev (fun k => spec_l6Game.l1 k (m : Int) l (j : Int) (i : Int)) ((List.range' i d).all (rises l j) && r) := by
  have hlen := h.len
  have hm := h.1
  intro d
  induction d with
  | zero =>
    intro i hi
    refine Ev.step (fun k => spec_l6Game.l1.eq_2 ..) (evn (by omega) ?_)
    rw [w64s j (by omega)]
    exact evr hr (by simp)
  | succ d ih =>
    intro i hi
    have hq := Nat.two_pow_pos i
    have hp : (2 : Nat) ^ i < 2 ^ 63 := Nat.pow_lt_pow_right (by decide) (by omega)
    have ho : j ||| 2 ^ i < l.length := by rw [h.2.1]; exact Nat.or_lt_two_pow (h.2.1 ▸ hj) (Nat.pow_lt_pow_right (by decide) (by omega))
    refine Ev.step (fun k => spec_l6Game.l1.eq_2 ..) (evp (by omega) (evp (by omega) (evp (by omega) (evp (by omega) ?_))))
    rw [shl1 i (by omega), or_nat j (2 ^ i) (by omega) hp, w64s i (by omega), rd_nat, rd_nat]
    refine evp (by omega) (evp (by omega) ?_)
    by_cases e : l.getD j 0 > l.getD (j ||| 2 ^ i) 0
    · refine evp e (evs ?_)
      have : rises l j i = false := by unfold rises; exact decide_eq_false (by omega)
      simp [List.range'_succ, this]
    · refine evn e (evr (ih (i + 1) (by omega)) ?_)
      have : rises l j i = true := by unfold rises; exact decide_eq_true (by omega)
      simp [List.range'_succ, this]
theorem l6Game_l0 {m : Nat} {l : List Int} (h : Tab m l) : ∀ (d j : Nat), j + d = l.length →
    Ev (fun k => spec_l6Game.l0 k (m : Int) l (j : Int)) ((List.range' j d).all (fun c => (List.range m).all (rises l c)) && ends l) := by
  have hlen := h.len
  have hpos : 0 < l.length := by rw [h.2.1]; exact Nat.two_pow_pos m
  intro d
  induction d with
  | zero =>
    intro j hj
    refine Ev.step (fun k => spec_l6Game.l0.eq_2 ..) (evn (by omega) (evp (by omega) ?_))
    rw [w64 (x := (l.length : Int) - 1) (by omega) (by omega), show (l.length : Int) - 1 = ((l.length - 1 : Nat) : Int) by omega, rd_nat, show rd l 0 = l.getD 0 0 from rfl]
    by_cases e : l.getD 0 0 = 0
    · exact evp e (evp (by omega) (evp (by omega) (evs (by unfold ends; rw [decide_eq_true e]; simp))))
    · exact evn e (evs (by unfold ends; rw [decide_eq_false e]; simp))
  | succ d ih =>
    intro j hj
    refine Ev.step (fun k => spec_l6Game.l0.eq_2 ..) (evp (by omega) ?_)
    refine evr (l6Game_l1 h j (by omega) _ (ih (j + 1) (by omega)) m 0 (by omega)) ?_
    rw [List.range'_succ, List.all_cons, List.range_eq_range', Bool.and_assoc]
theorem l6Game {m : Nat} {l : List Int} (h : Tab m l) : Ev (fun k => spec_l6Game.f k (m : Int) l) ((List.range m).all (fun i => decide (losses l i = 0)) && ends l) := by
  unfold spec_l6Game.f
  refine evr (l6Game_l0 h l.length 0 (by omega)) ?_
  rw [← List.range_eq_range', game_rises h]

/-! ### spec_IsGame -/
theorem sGame (n : Int) (l : List Int) (hx : l.length < 4611686018427387904) : Ev (fun k => spec_IsGame.f k n l) (game n l) := by
  unfold spec_IsGame.f game
  by_cases h : n < 1
  · exact evp h (evs (by simp [h]))
  refine evn h (evb (l2Table n l hx) ?_)
  by_cases e : isTab n l = true
  · obtain ⟨m, rfl, ht⟩ := isTab_tab e
    exact evp e (evb (l6Game ht) (evs (by rw [if_neg (by simp [e]; omega)]; rfl)))
  · exact evn e (evs (by rw [if_pos (.inr (by simpa using e))]))

/-! ### impl_isGame -/
theorem isGame_l0 {m : Nat} {l : List Int} (h : Tab m l) (h1 : 1 ≤ m) : ∀ (d i : Nat), i + d = m →
    Ev (fun k => impl_isGame.l0 k (m : Int) l (m : Int) (i : Int)) ((List.range' i d).all (fun i => decide (losses l i = 0)) && ends l) := by
  have hlen := h.len
  have hm := h.1
  have hpos : 0 < l.length := by rw [h.2.1]; exact Nat.two_pow_pos m
  intro d
  induction d with
  | zero =>
    intro i hi
    refine Ev.step (fun k => impl_isGame.l0.eq_2 ..) (evn (by omega) (evp (by omega) (evp (by omega) ?_)))
    rw [w64 (x := (l.length : Int) - 1) (by omega) (by omega), show (l.length : Int) - 1 = ((l.length - 1 : Nat) : Int) by omega, rd_nat, show rd l 0 = l.getD 0 0 from rfl]
    by_cases e : l.getD 0 0 = 0
    · exact evp e (evp (by omega) (evp (by omega) (evs (by unfold ends; rw [decide_eq_true e]; simp))))
    · exact evn e (evs (by unfold ends; rw [decide_eq_false e]; simp))
  | succ d ih =>
    intro i hi
    have v := h.losses i
    refine Ev.step (fun k => impl_isGame.l0.eq_2 ..) (evp (by omega) (evb (ways h i (by omega)) ?_))
    rw [w64s i (by omega)]
    by_cases e : losses l i = 0
    · refine evn (by show ¬ losses l i > 0; omega) (evr (ih (i + 1) (by omega)) ?_)
      simp [List.range'_succ, e]
    · refine evp (by show losses l i > 0; omega) (evs ?_)
      simp [List.range'_succ, e]
theorem isGame {m : Nat} {l : List Int} (h : Tab m l) (h1 : 1 ≤ m) : Ev (fun k => impl_isGame.f k (m : Int) l) ((List.range m).all (fun i => decide (losses l i = 0)) && ends l) := by
  unfold impl_isGame.f
  refine evr (isGame_l0 h h1 m 0 (by omega)) ?_
  rw [← List.range_eq_range']

/-! ### impl_IsGame -/
theorem iGame (n : Int) (l : List Int) (hx : l.length < 4611686018427387904) : Ev (fun k => impl_IsGame.f k n l) (game n l) := by
  unfold impl_IsGame.f game
  by_cases h : n = 0
  · exact evp h (evs (by simp [h]))
  refine evn h (evb (isTable n l hx) ?_)
  by_cases e : isTab n l = true
  · obtain ⟨m, rfl, ht⟩ := isTab_tab e
    exact evp e (evb (isGame ht (by omega)) (evs (by rw [if_neg (by simp [e]; omega)]; rfl)))
  · exact evn e (evs (by rw [if_pos (.inr (by simpa using e))]))

/-! ### laws_FnExactIsGame -/
theorem law (n : Int) (l : List Int) : Ev (fun k => laws_FnExactIsGame.f k n l) true := by
  unfold laws_FnExactIsGame.f
  by_cases h : (l.length : Int) > 1048576
  · exact evp h (evs rfl)
  have hs := sGame n l (by omega)
  have hi := iGame n l (by omega)
  generalize game n l = R at *
  repeat (first
    | exact evs rfl
    | (with_reducible refine evb hs ?_)
    | (with_reducible refine evb hi ?_)
    | ((with_reducible refine evb (toIntS _ ?_) ?_); (focus omega))
    | ((with_reducible refine evb (eqIntS _ _ ?_) ?_); (focus omega))
    | (refine evp ?_ ?_; focus (first | omega | (simp; done)))
    | (refine evn ?_ ?_; focus (first | omega | (simp; done)))
    | (with_reducible refine Ev.step (fun k => laws_FnExactIsGame.j0.eq_2 ..) ?_)
    )

end Go.Proofs.Ytocmmbnndieknaa.LFnExactIsGame
