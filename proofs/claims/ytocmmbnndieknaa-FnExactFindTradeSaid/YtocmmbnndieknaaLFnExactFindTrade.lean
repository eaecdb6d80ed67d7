/- Own lemmas: what the printed functions of one law come to. -/
import Derived.Test.YtocmmbnndieknaaMFnExactFindTradex5
import Derived.Test.YtocmmbnndieknaaBase
namespace Go.Proofs.Ytocmmbnndieknaa.LFnExactFindTrade
open Go Go.RowKit Go.Proofs.Ytocmmbnndieknaa.Base Go.Proofs.Ytocmmbnndieknaa.PFnExactFindTrade Go.Proofs.YtocmmbnndieknaaW.PrintWords Go.Proofs.YtocmmbnndieknaaW.PrintLast Go.Proofs.YtocmmbnndieknaaW.PrintMore
set_option linter.unusedVariables false
set_option linter.unusedSimpArgs false
set_option maxRecDepth 4000

/-! ### laws_toIntS -/
theorem toIntS_l0 (x0 : List Int) (hx : x0.length < 4611686018427387904) : ∀ (d i : Nat) (x3 : List Int), i + d = x0.length → x3.length = x0.length →
    Ev (fun k => laws_toIntS.l0 k x0 x3 (i : Int)) (x3.take i ++ x0.drop i) := by
  intro d
  induction d with
  | zero =>
    intro i x3 hi hl
    refine Ev.step (fun k => laws_toIntS.l0.eq_2 ..) (evn (by omega) (evs ?_))
    simp [List.take_of_length_le (show x3.length ≤ i by omega), List.drop_of_length_le (show x0.length ≤ i by omega)]
  | succ d ih =>
    intro i x3 hi hl
    refine Ev.step (fun k => laws_toIntS.l0.eq_2 ..) (evp (by omega) (evp (by omega) (evp (by omega) ?_)))
    rw [w64s i (by omega), rd_nat]
    refine evr (ih (i + 1) _ (by omega) (by simpa using hl)) ?_
    rw [Int.toNat_natCast, set_take _ _ _ (by omega), List.drop_eq_getElem_cons (show i < x0.length by omega), List.append_assoc]
    simp [List.getD_eq_getElem?_getD, List.getElem?_eq_getElem (show i < x0.length by omega)]
theorem toIntS (l : List Int) (h : l.length ≤ 35184372088832) : Ev (fun k => laws_toIntS.f k l) l := by
  unfold laws_toIntS.f
  refine evp (by omega) (evp (by simpa using h) ?_)
  refine evr (toIntS_l0 l (by omega) l.length 0 _ (by omega) (by simp)) (by simp)

/-! ### laws_eqIntS -/
theorem eqIntS_l0 (a b : List Int) (hl : a.length = b.length) (hx : a.length < 4611686018427387904) : ∀ (d i : Nat), i + d = a.length →
    Ev (fun k => laws_eqIntS.l0 k a b (i : Int)) (decide (a.drop i = b.drop i)) := by
  intro d
  induction d with
  | zero =>
    intro i hi
    refine Ev.step (fun k => laws_eqIntS.l0.eq_2 ..) (evn (by omega) (evs ?_))
    simp [List.drop_of_length_le (show a.length ≤ i by omega), List.drop_of_length_le (show b.length ≤ i by omega)]
  | succ d ih =>
    intro i hi
    refine Ev.step (fun k => laws_eqIntS.l0.eq_2 ..) (evp (by omega) (evp (by omega) (evp (by omega) ?_)))
    rw [w64s i (by omega), rd_nat, rd_nat]
    have ea := List.drop_eq_getElem_cons (show i < a.length by omega)
    have eb := List.drop_eq_getElem_cons (show i < b.length by omega)
    simp only [List.getD_eq_getElem?_getD, List.getElem?_eq_getElem (show i < a.length by omega), List.getElem?_eq_getElem (show i < b.length by omega), Option.getD_some]
    by_cases e : a[i] = b[i]
    · refine evp e (evr (ih (i + 1) (by omega)) ?_)
      rw [ea, eb, e]; simp only [List.cons.injEq, true_and]
    · refine evn e (evs ?_)
      rw [ea, eb]; simp only [List.cons.injEq, e, false_and, decide_false]
theorem eqIntS (a b : List Int) (hx : a.length < 4611686018427387904) : Ev (fun k => laws_eqIntS.f k a b) (decide (a = b)) := by
  unfold laws_eqIntS.f
  by_cases h : a.length = b.length
  · refine evp (by omega) (evr (eqIntS_l0 a b h hx a.length 0 (by omega)) (by simp))
  · refine evn (by omega) (evs ?_)
    have : a ≠ b := fun e => h (by rw [e])
    simp [this]

/-! ### laws_markIntS -/
theorem markIntS_l0 (d : Nat) : ∀ (x0 : List Int) (m : Int) (i : Nat), i + d = x0.length → x0.length < 4611686018427387904 → 0 ≤ m → m + d < 4611686018427387904 →
    Ev (fun k => laws_markIntS.l0 k x0 m (i : Int)) (m + d, x0.take i ++ (List.range d).map fun j : Nat => m + (j : Int)) := by
  induction d with
  | zero =>
    intro x0 m i hi hx h0 hm
    refine Ev.step (fun k => laws_markIntS.l0.eq_2 ..) (evn (by omega) (evs ?_))
    simp [List.take_of_length_le (show x0.length ≤ i by omega)]
  | succ d ih =>
    intro x0 m i hi hx h0 hm
    refine Ev.step (fun k => laws_markIntS.l0.eq_2 ..) (evp (by omega) (evp (by omega) ?_))
    rw [w64s i (by omega), w64 (x := m + 1) (by omega) (by omega)]
    refine evr (ih _ _ (i + 1) (by simp; omega) (by simpa using hx) (by omega) (by omega)) ?_
    rw [Int.toNat_natCast, set_take _ _ _ (by omega), List.append_assoc, List.range_succ_eq_map]
    simp only [List.map_cons, List.map_map, Prod.mk.injEq]
    refine ⟨by push_cast; omega, ?_⟩
    congr 1
    simp only [List.cons_append, List.nil_append, List.cons.injEq]
    refine ⟨by simp, List.map_congr_left fun j _ => by simp; omega⟩
theorem markIntS (l : List Int) (m : Int) (h0 : 0 ≤ m) (h : m + l.length < 4611686018427387904) : Ev (fun k => laws_markIntS.f k l m) (m + l.length, marks l m) := by
  unfold laws_markIntS.f
  exact evr (markIntS_l0 l.length l m 0 (by omega) (by omega) h0 h) (by simp [marks])

/-! ### laws_heldIntS -/
theorem heldIntS_l0 (l : List Int) (m : Int) (h0 : 0 ≤ m) (hm : m + l.length < 4611686018427387904) (hv : ∀ i, i < l.length → l.getD i 0 = m + i) : ∀ (d i : Nat), i + d = l.length →
    Ev (fun k => laws_heldIntS.l0 k l (m + (i : Int)) (i : Int)) (m + l.length) := by
  intro d
  induction d with
  | zero =>
    intro i hi
    refine Ev.step (fun k => laws_heldIntS.l0.eq_2 ..) (evn (by omega) (evs ?_))
    omega
  | succ d ih =>
    intro i hi
    refine Ev.step (fun k => laws_heldIntS.l0.eq_2 ..) (evp (by omega) (evp (by omega) ?_))
    rw [w64s i (by omega), w64 (x := m + i + 1) (by omega) (by omega), rd_nat]
    refine evp (hv i (by omega)) ?_
    have := ih (i + 1) (by omega)
    rw [show m + ((i + 1 : Nat) : Int) = m + i + 1 by omega] at this
    exact this
theorem heldIntS (l : List Int) (m : Int) (h0 : 0 ≤ m) (hm : m + l.length < 4611686018427387904) : Ev (fun k => laws_heldIntS.f k (marks l m) m) (m + l.length) := by
  unfold laws_heldIntS.f
  have h := heldIntS_l0 (marks l m) m h0 (by rw [marks_length]; exact hm) (fun i hi => marks_at l m i (by rwa [marks_length] at hi)) l.length 0 (by rw [marks_length]; omega)
  rw [marks_length] at h
  simpa using h

/-! ### spec_l1In -/
theorem l1In (a b c : Int) : spec_l1In.f a b c = some (decide (b ≤ a ∧ a ≤ c)) := by
  unfold spec_l1In.f; split <;> simp_all <;> omega

/-! ### impl_within -/
theorem within (a b c : Int) : impl_within.f a b c = some (decide (b ≤ a ∧ a ≤ c)) := by
  unfold impl_within.f; split <;> simp_all <;> omega

/-! ### spec_l2Table -/
theorem l2Table_l0 (l : List Int) (hx : l.length < 4611686018427387904) : ∀ (d i : Nat), i + d = l.length →
    Ev (fun k => spec_l2Table.l0 k l (i : Int)) ((l.drop i).all fun x => decide (0 ≤ x ∧ x ≤ 1)) := by
  intro d
  induction d with
  | zero =>
    intro i hi
    refine Ev.step (fun k => spec_l2Table.l0.eq_2 ..) (evn (by omega) (evs ?_))
    simp [List.drop_of_length_le (show l.length ≤ i by omega)]
  | succ d ih =>
    intro i hi
    refine Ev.step (fun k => spec_l2Table.l0.eq_2 ..) (evp (by omega) (evp (by omega) ?_))
    rw [w64s i (by omega), rd_nat, l1In, List.drop_eq_getElem_cons (show i < l.length by omega)]
    simp only [List.getD_eq_getElem?_getD, List.getElem?_eq_getElem (show i < l.length by omega), Option.getD_some, Option.bind_some, List.all_cons]
    by_cases e : 0 ≤ l[i] ∧ l[i] ≤ 1
    · refine evp (by simpa using e) (evr (ih (i + 1) (by omega)) (by simp [e]))
    · refine evn (by simpa using e) (evs (by simp [e]))
theorem l2Table (n : Int) (l : List Int) (hx : l.length < 4611686018427387904) : Ev (fun k => spec_l2Table.f k n l) (isTab n l) := by
  unfold spec_l2Table.f isTab
  rw [l1In]
  simp only [Option.bind_some]
  by_cases h : 0 ≤ n ∧ n ≤ 4
  · refine evp (by simpa using h) (evp h.1 (Ev.step (fun k => spec_l2Table.j0.eq_2 ..) ?_))
    obtain ⟨m, rfl⟩ := Int.eq_ofNat_of_zero_le h.1
    rw [shl1 m (by omega)]
    by_cases e : l.length = 2 ^ m
    · refine evn (by simp [e]) (evr (l2Table_l0 l hx l.length 0 (by omega)) (by simp [e]; omega))
    · refine evp (by simp; exact_mod_cast e) (evs (by simp [e]))
  · refine evn (by simpa using h) (Ev.step (fun k => spec_l2Table.j0.eq_2 ..) (evp rfl (evs (by simp [h]))))

/-! ### impl_allWithin -/
theorem allWithin_l0 (lo up : Int) (l : List Int) (hx : l.length < 4611686018427387904) : ∀ (d i : Nat), i + d = l.length →
    Ev (fun k => impl_allWithin.l0 k lo up l (l.length : Int) (i : Int)) ((l.drop i).all fun x => decide (lo ≤ x ∧ x ≤ up)) := by
  intro d
  induction d with
  | zero =>
    intro i hi
    refine Ev.step (fun k => impl_allWithin.l0.eq_2 ..) (evn (by omega) (evs ?_))
    simp [List.drop_of_length_le (show l.length ≤ i by omega)]
  | succ d ih =>
    intro i hi
    refine Ev.step (fun k => impl_allWithin.l0.eq_2 ..) (evp (by omega) (evp (by omega) (evp (by omega) ?_)))
    rw [w64s i (by omega), rd_nat, within, List.drop_eq_getElem_cons (show i < l.length by omega)]
    simp only [List.getD_eq_getElem?_getD, List.getElem?_eq_getElem (show i < l.length by omega), Option.getD_some, Option.bind_some, List.all_cons]
    by_cases e : lo ≤ l[i] ∧ l[i] ≤ up
    · refine evp (by simpa using e) (evr (ih (i + 1) (by omega)) (by simp [e]))
    · refine evn (by simpa using e) (evs (by simp [e]))
theorem allWithin (l : List Int) (lo up : Int) (hx : l.length < 4611686018427387904) : Ev (fun k => impl_allWithin.f k l lo up) (l.all fun x => decide (lo ≤ x ∧ x ≤ up)) := by
  unfold impl_allWithin.f
  exact allWithin_l0 lo up l hx l.length 0 (by omega)

/-! ### impl_isTable -/
theorem isTable (n : Int) (l : List Int) (hx : l.length < 4611686018427387904) : Ev (fun k => impl_isTable.f k n l) (isTab n l) := by
  unfold impl_isTable.f isTab
  rw [within]
  simp only [Option.bind_some]
  by_cases h : 0 ≤ n ∧ n ≤ 4
  · obtain ⟨m, rfl⟩ := Int.eq_ofNat_of_zero_le h.1
    refine evp (by simpa using h) (evp h.1 ?_)
    rw [shl1 m (by omega)]
    by_cases e : l.length = 2 ^ m
    · refine evp (by exact_mod_cast e) (evb (allWithin l 0 1 hx) (evs (by simp [e]; omega)))
    · refine evn (by exact_mod_cast e) (evs (by simp [e]))
  · refine evn (by simpa using h) (evs (by simp [h]))

/-! ### impl_sameSum -/
theorem sameSum (a b c d : Nat) (ha : a < 2 ^ 63) (hb : b < 2 ^ 63) (hc : c < 2 ^ 63) (hd : d < 2 ^ 63) :
    impl_sameSum.f (a : Int) (b : Int) (c : Int) (d : Int) = some (decide (a &&& b = c &&& d) && decide (a ||| b = c ||| d)) := by
  unfold impl_sameSum.f
  rw [and_nat a b ha hb, and_nat c d hc hd, or_nat a b ha hb, or_nat c d hc hd]
  by_cases e : a &&& b = c &&& d
  · rw [if_pos (by rw [e]), decide_eq_true e, Bool.true_and]
    by_cases e' : a ||| b = c ||| d
    · simp [e']
    · rw [decide_eq_false e']; congr 1; simp only [beq_eq_false_iff_ne, ne_eq]; omega
  · rw [if_neg (by omega), decide_eq_false e, Bool.false_and]

/-! ### impl_FindTrade -/
def finI (r : Option (List Int)) : List Int × Bool := (r.getD [], r.isSome)
theorem iFind_l3 {m : Nat} {l : List Int} (h : Tab m l) (x x' : Int) (a b c : Nat) (ha : a < l.length) (hb : b < l.length) (hc : c < l.length) (r : Option (List Int))
    (hr : Ev (fun k => impl_FindTrade.l2 k l (l.length : Int) (a : Int) (b : Int) x x' (l.length : Int) ((c + 1 : Nat) : Int)) (finI r)) : ∀ (n d : Nat), d + n = l.length →
    Ev (fun k => impl_FindTrade.l3 k l (l.length : Int) (a : Int) (b : Int) (c : Int) (d : Int) x x' (l.length : Int) (c : Int)) (finI (s3 l a b c d n r)) := by
  have hlen := h.len
  intro n
  induction n with
  | zero =>
    intro d hd
    refine Ev.step (fun k => impl_FindTrade.l3.eq_2 ..) (evn (by omega) ?_)
    rw [w64s c (by omega)]
    exact hr
  | succ n ih =>
    intro d hd
    have p1 := h.at_ a; have p2 := h.at_ b; have p3 := h.at_ c; have p4 := h.at_ d
    refine Ev.step (fun k => impl_FindTrade.l3.eq_2 ..) (evp (by omega) (evp (by omega) (evp (by omega) (evp (by omega) (evp (by omega) ?_)))))
    rw [rd_nat, rd_nat, rd_nat, rd_nat, w64s d (by omega), w64 (x := l.getD a 0 + l.getD b 0) (by omega) (by omega), w64 (x := l.getD c 0 + l.getD d 0) (by omega) (by omega)]
    have no : tcond l a b c d = false → Ev (fun k => impl_FindTrade.l3 k l (l.length : Int) (a : Int) (b : Int) (c : Int) ((d + 1 : Nat) : Int) x x' (l.length : Int) (c : Int)) (finI (s3 l a b c d (n + 1) r)) := by
      intro e
      refine evr (ih (d + 1) (by omega)) ?_
      simp only [s3]; rw [if_neg (by simp [e])]
    by_cases e1 : l.getD a 0 + l.getD b 0 = 2
    · refine evp e1 (evp (by omega) (evp (by omega) (evp (by omega) (evp (by omega) ?_))))
      by_cases e2 : l.getD c 0 + l.getD d 0 = 0
      · refine evp e2 ?_
        rw [sameSum a b c d (by omega) (by omega) (by omega) (by omega)]
        simp only [Option.bind_some]
        by_cases e3 : (decide (a &&& b = c &&& d) && decide (a ||| b = c ||| d)) = true
        · refine evp e3 (evs ?_)
          simp only [s3]; rw [if_pos (by unfold tcond; rw [decide_eq_true e1, decide_eq_true e2, e3]; rfl)]; rfl
        · exact evn e3 (no (by unfold tcond; rw [decide_eq_true e1, decide_eq_true e2]; simpa using e3))
      · exact evn e2 (no (by unfold tcond; rw [decide_eq_false e2]; simp))
    · exact evn e1 (no (by unfold tcond; rw [decide_eq_false e1]; simp))
theorem iFind_l2 {m : Nat} {l : List Int} (h : Tab m l) (x x' : Int) (a b : Nat) (hx' : x' = (a : Int)) (ha : a < l.length) (hb : b < l.length) (r : Option (List Int))
    (hr : Ev (fun k => impl_FindTrade.l1 k l (l.length : Int) (a : Int) ((b + 1 : Nat) : Int) x x') (finI r)) : ∀ (n c : Nat), c + n = l.length →
    Ev (fun k => impl_FindTrade.l2 k l (l.length : Int) (a : Int) (b : Int) x x' (l.length : Int) (c : Int)) (finI (s2 l a b c n r)) := by
  have hlen := h.len
  intro n
  induction n with
  | zero =>
    intro c hc
    refine Ev.step (fun k => impl_FindTrade.l2.eq_2 ..) (evn (by omega) ?_)
    rw [w64s b (by omega)]
    exact hr
  | succ n ih =>
    intro c hc
    refine Ev.step (fun k => impl_FindTrade.l2.eq_2 ..) (evp (by omega) ?_)
    exact iFind_l3 h x x' a b c ha hb (by omega) _ (ih (c + 1) (by omega)) (l.length - c) c (by omega)
theorem iFind_l1 {m : Nat} {l : List Int} (h : Tab m l) (a : Nat) (ha : a < l.length) (r : Option (List Int))
    (hr : Ev (fun k => impl_FindTrade.l0 k l (l.length : Int) (l.length : Int) ((a + 1 : Nat) : Int)) (finI r)) : ∀ (n b : Nat), b + n = l.length →
    Ev (fun k => impl_FindTrade.l1 k l (l.length : Int) (a : Int) (b : Int) (l.length : Int) (a : Int)) (finI (s1 l a b n r)) := by
  have hlen := h.len
  intro n
  induction n with
  | zero =>
    intro b hb
    refine Ev.step (fun k => impl_FindTrade.l1.eq_2 ..) (evn (by omega) ?_)
    rw [w64s a (by omega)]
    exact hr
  | succ n ih =>
    intro b hb
    refine Ev.step (fun k => impl_FindTrade.l1.eq_2 ..) (evp (by omega) ?_)
    exact iFind_l2 h _ _ a b rfl ha (by omega) _ (ih (b + 1) (by omega)) l.length 0 (by omega)
theorem iFind_l0 {m : Nat} {l : List Int} (h : Tab m l) : ∀ (n a : Nat), a + n = l.length →
    Ev (fun k => impl_FindTrade.l0 k l (l.length : Int) (l.length : Int) (a : Int)) (finI (s0 l a n)) := by
  intro n
  induction n with
  | zero =>
    intro a ha
    exact Ev.step (fun k => impl_FindTrade.l0.eq_2 ..) (evn (by omega) (evs rfl))
  | succ n ih =>
    intro a ha
    refine Ev.step (fun k => impl_FindTrade.l0.eq_2 ..) (evp (by omega) ?_)
    exact iFind_l1 h a (by omega) _ (ih (a + 1) (by omega)) (l.length - a) a (by omega)
theorem iFind (n : Int) (l : List Int) (hx : l.length < 4611686018427387904) : Ev (fun k => impl_FindTrade.f k n l) (trade n l) := by
  unfold impl_FindTrade.f trade
  refine evb (isTable n l hx) ?_
  by_cases e : isTab n l = true
  · obtain ⟨m, rfl, h⟩ := isTab_tab e
    refine evp e (evr (iFind_l0 h l.length 0 (by omega)) ?_)
    rw [if_pos e]; rfl
  · refine evn e (evs (by simp [e]))

/-! ### spec_l5Trade -/
theorem l5Trade_l1 (m : Nat) (hm : m ≤ 4) (a b c d : Nat) (ha : a < 2 ^ 62) (hb : b < 2 ^ 62) (hc : c < 2 ^ 62) (hd : d < 2 ^ 62) : ∀ (n i : Nat), i + n = m →
    Ev (fun k => spec_l5Trade.l1 k (m : Int) [(a : Int), (b : Int), (c : Int), (d : Int)] (i : Int)) ((List.range' i n).all fun i => decide (bit a i + bit b i = bit c i + bit d i)) := by
  intro n
  induction n with
  | zero =>
    intro i hi
    exact Ev.step (fun k => spec_l5Trade.l1.eq_2 ..) (evn (by omega) (evs (by simp)))
  | succ n ih =>
    intro i hi
    have u1 := bit_lt a i; have u2 := bit_lt b i; have u3 := bit_lt c i; have u4 := bit_lt d i
    refine Ev.step (fun k => spec_l5Trade.l1.eq_2 ..) (evp (by omega) (evp (by simp) (evp (by omega) (evp (by simp) (evp (by simp) (evp (by simp) ?_))))))
    rw [show rd [(a : Int), (b : Int), (c : Int), (d : Int)] 0 = (a : Int) from rfl, show rd [(a : Int), (b : Int), (c : Int), (d : Int)] 1 = (b : Int) from rfl, show rd [(a : Int), (b : Int), (c : Int), (d : Int)] 2 = (c : Int) from rfl, show rd [(a : Int), (b : Int), (c : Int), (d : Int)] 3 = (d : Int) from rfl,
      digit a i (by omega) (by omega), digit b i (by omega) (by omega), digit c i (by omega) (by omega), digit d i (by omega) (by omega), w64s i (by omega), w64 (x := (bit a i : Int) + (bit b i : Int)) (by omega) (by omega), w64 (x := (bit c i : Int) + (bit d i : Int)) (by omega) (by omega)]
    by_cases e : bit a i + bit b i = bit c i + bit d i
    · refine evp (by omega) (evr (ih (i + 1) (by omega)) ?_)
      simp [List.range'_succ, e]
    · refine evn (by omega) (evs ?_)
      simp [List.range'_succ, e]
theorem l5Trade {m : Nat} {l : List Int} (h : Tab m l) (a b c d : Nat) (ha : a < l.length) (hb : b < l.length) (hc : c < l.length) (hd : d < l.length) (hab : a ≤ b) (hcd : c ≤ d) :
    Ev (fun k => spec_l5Trade.f k (m : Int) l [(a : Int), (b : Int), (c : Int), (d : Int)]) (tcond l a b c d) := by
  have hlen := h.len
  have r0 : rd [(a : Int), (b : Int), (c : Int), (d : Int)] 0 = (a : Int) := rfl
  have r1 : rd [(a : Int), (b : Int), (c : Int), (d : Int)] 1 = (b : Int) := rfl
  have r2 : rd [(a : Int), (b : Int), (c : Int), (d : Int)] 2 = (c : Int) := rfl
  have r3 : rd [(a : Int), (b : Int), (c : Int), (d : Int)] 3 = (d : Int) := rfl
  have hw : wrap64 ((l.length : Int) - 1) = (l.length : Int) - 1 := w64 (by omega) (by omega)
  have ok : ∀ x : Nat, x < l.length → decide (0 ≤ (x : Int) ∧ (x : Int) ≤ (l.length : Int) - 1) = true := fun x hx => by simp; omega
  have p1 := h.at_ a; have p2 := h.at_ b; have p3 := h.at_ c; have p4 := h.at_ d
  have W1 : wrap64 (0 + 1) = 1 := w64 (by omega) (by omega)
  have W2 : wrap64 (1 + 1) = 2 := w64 (by omega) (by omega)
  have W3 : wrap64 (2 + 1) = 3 := w64 (by omega) (by omega)
  have W4 : wrap64 (3 + 1) = 4 := w64 (by omega) (by omega)
  unfold spec_l5Trade.f
  refine Ev.step (fun k => spec_l5Trade.l0.eq_2 ..) (evp (by simp) (evp (by decide) ?_))
  rw [r0, hw, l1In, W1]; simp only [Option.bind_some]
  refine evp (ok a ha) (Ev.step (fun k => spec_l5Trade.l0.eq_2 ..) (evp (by simp) (evp (by decide) ?_)))
  rw [r1, hw, l1In, W2]; simp only [Option.bind_some]
  refine evp (ok b hb) (Ev.step (fun k => spec_l5Trade.l0.eq_2 ..) (evp (by simp) (evp (by decide) ?_)))
  rw [r2, hw, l1In, W3]; simp only [Option.bind_some]
  refine evp (ok c hc) (Ev.step (fun k => spec_l5Trade.l0.eq_2 ..) (evp (by simp) (evp (by decide) ?_)))
  rw [r3, hw, l1In, W4]; simp only [Option.bind_some]
  refine evp (ok d hd) (Ev.step (fun k => spec_l5Trade.l0.eq_2 ..) (evn (by simp) (evp (by simp) (evp (by simp) (evp (by simp) ?_)))))
  rw [r0, r1, r2, r3, rd_nat, rd_nat, rd_nat, rd_nat, w64 (x := l.getD a 0 + l.getD b 0) (by omega) (by omega), w64 (x := l.getD c 0 + l.getD d 0) (by omega) (by omega)]
  refine evn (by omega) (evp (by simp) (evp (by simp) (evn (by omega) (evp (by omega) (evp (by omega) (evp (by omega) (evp (by omega) ?_)))))))
  by_cases e1 : l.getD a 0 + l.getD b 0 = 2
  · refine evp e1 (evp (by omega) (evp (by omega) (evp (by omega) (evp (by omega) (Ev.step (fun k => spec_l5Trade.j1.eq_2 ..) ?_)))))
    by_cases e2 : l.getD c 0 + l.getD d 0 = 0
    · refine evn (by simpa using e2) (evr (l5Trade_l1 m h.1 a b c d (by omega) (by omega) (by omega) (by omega) m 0 (by omega)) ?_)
      unfold tcond
      rw [decide_eq_true e1, decide_eq_true e2, Bool.true_and, Bool.true_and, ← List.range_eq_range', Bool.eq_iff_iff]
      have := same_sum (h.2.1 ▸ ha) (h.2.1 ▸ hb) (h.2.1 ▸ hc) (h.2.1 ▸ hd)
      simpa using this
    · refine evp (by simpa using e2) (evs ?_)
      unfold tcond; rw [decide_eq_false e2]; simp
  · refine evn e1 (Ev.step (fun k => spec_l5Trade.j1.eq_2 ..) (evp rfl (evs ?_)))
    unfold tcond; rw [decide_eq_false e1]; simp

/-! ### spec_l5Find -/
def finS (r : Option (List Int)) : List Int := r.getD []
theorem sFind_l3 {m : Nat} {l : List Int} (h : Tab m l) (a b c : Nat) (hab : a ≤ b) (ha : a < l.length) (hb : b < l.length) (hc : c < l.length) (r : Option (List Int))
    (hr : Ev (fun k => spec_l5Find.l2 k (m : Int) l (a : Int) (b : Int) ((c + 1 : Nat) : Int)) (finS r)) : ∀ (n d : Nat), d + n = l.length → c ≤ d →
    Ev (fun k => spec_l5Find.l3 k (m : Int) l (a : Int) (b : Int) (c : Int) (d : Int)) (finS (s3 l a b c d n r)) := by
  have hlen := h.len
  intro n
  induction n with
  | zero =>
    intro d hd hcd
    refine Ev.step (fun k => spec_l5Find.l3.eq_2 ..) (evn (by omega) ?_)
    rw [w64s c (by omega)]
    exact hr
  | succ n ih =>
    intro d hd hcd
    refine Ev.step (fun k => spec_l5Find.l3.eq_2 ..) (evp (by omega) (evb (evc rfl) (evb (l5Trade h a b c d ha hb hc (by omega) hab hcd) ?_)))
    rw [w64s d (by omega)]
    by_cases e : tcond l a b c d = true
    · refine evp e (evs ?_)
      simp only [s3]; rw [if_pos e]; rfl
    · refine evn e (evr (ih (d + 1) (by omega) (by omega)) ?_)
      simp only [s3]; rw [if_neg e]
theorem sFind_l2 {m : Nat} {l : List Int} (h : Tab m l) (a b : Nat) (hab : a ≤ b) (ha : a < l.length) (hb : b < l.length) (r : Option (List Int))
    (hr : Ev (fun k => spec_l5Find.l1 k (m : Int) l (a : Int) ((b + 1 : Nat) : Int)) (finS r)) : ∀ (n c : Nat), c + n = l.length →
    Ev (fun k => spec_l5Find.l2 k (m : Int) l (a : Int) (b : Int) (c : Int)) (finS (s2 l a b c n r)) := by
  have hlen := h.len
  intro n
  induction n with
  | zero =>
    intro c hc
    refine Ev.step (fun k => spec_l5Find.l2.eq_2 ..) (evn (by omega) (Ev.step (fun k => spec_l5Find.j3.eq_2 ..) (evn (by simp) ?_)))
    rw [w64s b (by omega)]
    exact hr
  | succ n ih =>
    intro c hc
    have p1 := h.at_ a; have p2 := h.at_ b
    refine Ev.step (fun k => spec_l5Find.l2.eq_2 ..) (evp (by omega) (evp (by omega) (evp (by omega) ?_)))
    rw [rd_nat, rd_nat]
    have no : l.getD a 0 + l.getD b 0 ≠ 2 → Ev (fun k => spec_l5Find.l1 k (m : Int) l (a : Int) (wrap64 ((b : Int) + 1))) (finS (s2 l a b c (n + 1) r)) := by
      intro e
      rw [w64s b (by omega), s2_no l a b e]
      exact hr
    by_cases e1 : l.getD a 0 = 1
    · refine evp e1 (evp (by omega) (evp (by omega) (Ev.step (fun k => spec_l5Find.j3.eq_2 ..) ?_)))
      by_cases e2 : l.getD b 0 = 1
      · refine evp (by simpa using e2) ?_
        exact sFind_l3 h a b c hab ha hb (by omega) _ (ih (c + 1) (by omega)) (l.length - c) c (by omega) (Nat.le_refl _)
      · exact evn (by simpa using e2) (no (by omega))
    · exact evn e1 (Ev.step (fun k => spec_l5Find.j3.eq_2 ..) (evn (by simp) (no (by omega))))
theorem sFind_l1 {m : Nat} {l : List Int} (h : Tab m l) (a : Nat) (ha : a < l.length) (r : Option (List Int))
    (hr : Ev (fun k => spec_l5Find.l0 k (m : Int) l ((a + 1 : Nat) : Int)) (finS r)) : ∀ (n b : Nat), b + n = l.length → a ≤ b →
    Ev (fun k => spec_l5Find.l1 k (m : Int) l (a : Int) (b : Int)) (finS (s1 l a b n r)) := by
  have hlen := h.len
  intro n
  induction n with
  | zero =>
    intro b hb hab
    refine Ev.step (fun k => spec_l5Find.l1.eq_2 ..) (evn (by omega) ?_)
    rw [w64s a (by omega)]
    exact hr
  | succ n ih =>
    intro b hb hab
    refine Ev.step (fun k => spec_l5Find.l1.eq_2 ..) (evp (by omega) ?_)
    exact sFind_l2 h a b hab ha (by omega) _ (ih (b + 1) (by omega) (by omega)) l.length 0 (by omega)
theorem sFind_l0 {m : Nat} {l : List Int} (h : Tab m l) : ∀ (n a : Nat), a + n = l.length →
    Ev (fun k => spec_l5Find.l0 k (m : Int) l (a : Int)) (finS (s0 l a n)) := by
  intro n
  induction n with
  | zero =>
    intro a ha
    exact Ev.step (fun k => spec_l5Find.l0.eq_2 ..) (evn (by omega) (evs rfl))
  | succ n ih =>
    intro a ha
    refine Ev.step (fun k => spec_l5Find.l0.eq_2 ..) (evp (by omega) ?_)
    exact sFind_l1 h a (by omega) _ (ih (a + 1) (by omega)) (l.length - a) a (by omega) (Nat.le_refl _)
theorem l5Find {m : Nat} {l : List Int} (h : Tab m l) : Ev (fun k => spec_l5Find.f k (m : Int) l) ((s0 l 0 l.length).getD []) := by
  unfold spec_l5Find.f
  exact sFind_l0 h l.length 0 (by omega)

/-! ### spec_FindTrade -/
theorem sFind (n : Int) (l : List Int) (hx : l.length < 4611686018427387904) : Ev (fun k => spec_FindTrade.f k n l) (trade n l) := by
  unfold spec_FindTrade.f trade
  refine evb (l2Table n l hx) ?_
  by_cases e : isTab n l = true
  · obtain ⟨m, rfl, h⟩ := isTab_tab e
    refine evp e (evb (l5Find h) (evs ?_))
    rw [if_pos e]
    cases e' : s0 l 0 l.length with
    | none => rfl
    | some t => have := s0_len l _ _ t e'; simp; omega
  · refine evn e (evs (by simp [e]))

/-! ### laws_FnExactFindTrade -/
theorem law (n : Int) (l : List Int) : Ev (fun k => laws_FnExactFindTrade.f k n l) true := by
  unfold laws_FnExactFindTrade.f
  by_cases h : (l.length : Int) > 1048576
  · exact evp h (evs rfl)
  have hs := sFind n l (by omega)
  have hi := iFind n l (by omega)
  have hb := trade_len n l
  generalize trade n l = R at *
  repeat (first
    | exact evs rfl
    | (with_reducible refine evb hs ?_)
    | (with_reducible refine evb hi ?_)
    | ((with_reducible refine evb (toIntS _ ?_) ?_); (focus omega))
    | ((with_reducible refine evb (eqIntS _ _ ?_) ?_); (focus omega))
    | ((with_reducible refine evb (markIntS _ _ ?_ ?_) ?_); (focus omega); (focus omega))
    | ((with_reducible refine evb (heldIntS _ _ ?_ ?_) ?_); (focus omega); (focus omega))
    | (refine evp ?_ ?_; focus (first | omega | (simp; done)))
    | (refine evn ?_ ?_; focus (first | omega | (simp; done)))
    | (with_reducible refine Ev.step (fun k => laws_FnExactFindTrade.j0.eq_2 ..) ?_)
    | (with_reducible refine Ev.step (fun k => laws_FnExactFindTrade.j1.eq_2 ..) ?_)
    | (with_reducible refine Ev.step (fun k => laws_FnExactFindTrade.j2.eq_2 ..) ?_)
    )

end Go.Proofs.Ytocmmbnndieknaa.LFnExactFindTrade
