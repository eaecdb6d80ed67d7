/- Own lemmas: what the printed functions of one law come to. -/
import Derived.Test.YtocmmbnndieknaaMFnExactFlipBitsx4
import Derived.Test.YtocmmbnndieknaaBase
namespace Go.Proofs.Ytocmmbnndieknaa.LFnExactFlipBits
open Go Go.RowKit Go.Proofs.Ytocmmbnndieknaa.Base Go.Proofs.Ytocmmbnndieknaa.PFnExactFlipBits Go.Proofs.YtocmmbnndieknaaW.PrintWords Go.Proofs.YtocmmbnndieknaaW.PrintLast Go.Proofs.YtocmmbnndieknaaW.PrintMore
set_option linter.unusedVariables false
set_option linter.unusedSimpArgs false
set_option maxRecDepth 4000

/-! ### laws_toIntS -/
theorem toIntS_l0 (x0 : List Int) (hx : x0.length < 4611686018427387904) : ∀ (d i : Nat) (x3 : List Int), i + d = x0.length → x3.length = x0.length →
    Ev (fun k => laws_toIntS.l0 k x0 x3 (i : Int)) (x3.take i ++ x0.drop i) := by
  intro d
  induction d with
  | zero =>
    intro i x3 hi hl
    refine Ev.step (fun k => laws_toIntS.l0.eq_2 ..) (evn (by omega) (evs ?_))
    simp [List.take_of_length_le (show x3.length ≤ i by omega), List.drop_of_length_le (show x0.length ≤ i by omega)]
  | succ d ih =>
    intro i x3 hi hl
    refine Ev.step (fun k => laws_toIntS.l0.eq_2 ..) (evp (by omega) (evp (by omega) (evp (by omega) ?_)))
    rw [w64s i (by omega), rd_nat]
    refine evr (ih (i + 1) _ (by omega) (by simpa using hl)) ?_
    rw [Int.toNat_natCast, set_take _ _ _ (by omega), List.drop_eq_getElem_cons (show i < x0.length by omega), List.append_assoc]
    simp [List.getD_eq_getElem?_getD, List.getElem?_eq_getElem (show i < x0.length by omega)]
theorem toIntS (l : List Int) (h : l.length ≤ 35184372088832) : Ev (fun k => laws_toIntS.f k l) l := by
  unfold laws_toIntS.f
  refine evp (by omega) (evp (by simpa using h) ?_)
  refine evr (toIntS_l0 l (by omega) l.length 0 _ (by omega) (by simp)) (by simp)

/-! ### laws_eqIntS -/
theorem eqIntS_l0 (a b : List Int) (hl : a.length = b.length) (hx : a.length < 4611686018427387904) : ∀ (d i : Nat), i + d = a.length →
    Ev (fun k => laws_eqIntS.l0 k a b (i : Int)) (decide (a.drop i = b.drop i)) := by
  intro d
  induction d with
  | zero =>
    intro i hi
    refine Ev.step (fun k => laws_eqIntS.l0.eq_2 ..) (evn (by omega) (evs ?_))
    simp [List.drop_of_length_le (show a.length ≤ i by omega), List.drop_of_length_le (show b.length ≤ i by omega)]
  | succ d ih =>
    intro i hi
    refine Ev.step (fun k => laws_eqIntS.l0.eq_2 ..) (evp (by omega) (evp (by omega) (evp (by omega) ?_)))
    rw [w64s i (by omega), rd_nat, rd_nat]
    have ea := List.drop_eq_getElem_cons (show i < a.length by omega)
    have eb := List.drop_eq_getElem_cons (show i < b.length by omega)
    simp only [List.getD_eq_getElem?_getD, List.getElem?_eq_getElem (show i < a.length by omega), List.getElem?_eq_getElem (show i < b.length by omega), Option.getD_some]
    by_cases e : a[i] = b[i]
    · refine evp e (evr (ih (i + 1) (by omega)) ?_)
      rw [ea, eb, e]; simp only [List.cons.injEq, true_and]
    · refine evn e (evs ?_)
      rw [ea, eb]; simp only [List.cons.injEq, e, false_and, decide_false]
theorem eqIntS (a b : List Int) (hx : a.length < 4611686018427387904) : Ev (fun k => laws_eqIntS.f k a b) (decide (a = b)) := by
  unfold laws_eqIntS.f
  by_cases h : a.length = b.length
  · refine evp (by omega) (evr (eqIntS_l0 a b h hx a.length 0 (by omega)) (by simp))
  · refine evn (by omega) (evs ?_)
    have : a ≠ b := fun e => h (by rw [e])
    simp [this]

/-! ### laws_markIntS -/
theorem markIntS_l0 (d : Nat) : ∀ (x0 : List Int) (m : Int) (i : Nat), i + d = x0.length → x0.length < 4611686018427387904 → 0 ≤ m → m + d < 4611686018427387904 →
    Ev (fun k => laws_markIntS.l0 k x0 m (i : Int)) (m + d, x0.take i ++ (List.range d).map fun j : Nat => m + (j : Int)) := by
  induction d with
  | zero =>
    intro x0 m i hi hx h0 hm
    refine Ev.step (fun k => laws_markIntS.l0.eq_2 ..) (evn (by omega) (evs ?_))
    simp [List.take_of_length_le (show x0.length ≤ i by omega)]
  | succ d ih =>
    intro x0 m i hi hx h0 hm
    refine Ev.step (fun k => laws_markIntS.l0.eq_2 ..) (evp (by omega) (evp (by omega) ?_))
    rw [w64s i (by omega), w64 (x := m + 1) (by omega) (by omega)]
    refine evr (ih _ _ (i + 1) (by simp; omega) (by simpa using hx) (by omega) (by omega)) ?_
    rw [Int.toNat_natCast, set_take _ _ _ (by omega), List.append_assoc, List.range_succ_eq_map]
    simp only [List.map_cons, List.map_map, Prod.mk.injEq]
    refine ⟨by push_cast; omega, ?_⟩
    congr 1
    simp only [List.cons_append, List.nil_append, List.cons.injEq]
    refine ⟨by simp, List.map_congr_left fun j _ => by simp; omega⟩
theorem markIntS (l : List Int) (m : Int) (h0 : 0 ≤ m) (h : m + l.length < 4611686018427387904) : Ev (fun k => laws_markIntS.f k l m) (m + l.length, marks l m) := by
  unfold laws_markIntS.f
  exact evr (markIntS_l0 l.length l m 0 (by omega) (by omega) h0 h) (by simp [marks])

/-! ### laws_heldIntS -/
theorem heldIntS_l0 (l : List Int) (m : Int) (h0 : 0 ≤ m) (hm : m + l.length < 4611686018427387904) (hv : ∀ i, i < l.length → l.getD i 0 = m + i) : ∀ (d i : Nat), i + d = l.length →
    Ev (fun k => laws_heldIntS.l0 k l (m + (i : Int)) (i : Int)) (m + l.length) := by
  intro d
  induction d with
  | zero =>
    intro i hi
    refine Ev.step (fun k => laws_heldIntS.l0.eq_2 ..) (evn (by omega) (evs ?_))
    omega
  | succ d ih =>
    intro i hi
    refine Ev.step (fun k => laws_heldIntS.l0.eq_2 ..) (evp (by omega) (evp (by omega) ?_))
    rw [w64s i (by omega), w64 (x := m + i + 1) (by omega) (by omega), rd_nat]
    refine evp (hv i (by omega)) ?_
    have := ih (i + 1) (by omega)
    rw [show m + ((i + 1 : Nat) : Int) = m + i + 1 by omega] at this
    exact this
theorem heldIntS (l : List Int) (m : Int) (h0 : 0 ≤ m) (hm : m + l.length < 4611686018427387904) : Ev (fun k => laws_heldIntS.f k (marks l m) m) (m + l.length) := by
  unfold laws_heldIntS.f
  have h := heldIntS_l0 (marks l m) m h0 (by rw [marks_length]; exact hm) (fun i hi => marks_at l m i (by rwa [marks_length] at hi)) l.length 0 (by rw [marks_length]; omega)
  rw [marks_length] at h
  simpa using h

/-! ### spec_l1In -/
theorem l1In (a b c : Int) : spec_l1In.f a b c = some (decide (b ≤ a ∧ a ≤ c)) := by
  unfold spec_l1In.f; split <;> simp_all <;> omega

/-! ### impl_within -/
theorem within (a b c : Int) : impl_within.f a b c = some (decide (b ≤ a ∧ a ≤ c)) := by
  unfold impl_within.f; split <;> simp_all <;> omega

/-! ### spec_l2Table -/
theorem l2Table_l0 (l : List Int) (hx : l.length < 4611686018427387904) : ∀ (d i : Nat), i + d = l.length →
    Ev (fun k => spec_l2Table.l0 k l (i : Int)) ((l.drop i).all fun x => decide (0 ≤ x ∧ x ≤ 1)) := by
  intro d
  induction d with
  | zero =>
    intro i hi
    refine Ev.step (fun k => spec_l2Table.l0.eq_2 ..) (evn (by omega) (evs ?_))
    simp [List.drop_of_length_le (show l.length ≤ i by omega)]
  | succ d ih =>
    intro i hi
    refine Ev.step (fun k => spec_l2Table.l0.eq_2 ..) (evp (by omega) (evp (by omega) ?_))
    rw [w64s i (by omega), rd_nat, l1In, List.drop_eq_getElem_cons (show i < l.length by omega)]
    simp only [List.getD_eq_getElem?_getD, List.getElem?_eq_getElem (show i < l.length by omega), Option.getD_some, Option.bind_some, List.all_cons]
    by_cases e : 0 ≤ l[i] ∧ l[i] ≤ 1
    · refine evp (by simpa using e) (evr (ih (i + 1) (by omega)) (by simp [e]))
    · refine evn (by simpa using e) (evs (by simp [e]))
theorem l2Table (n : Int) (l : List Int) (hx : l.length < 4611686018427387904) : Ev (fun k => spec_l2Table.f k n l) (isTab n l) := by
  unfold spec_l2Table.f isTab
  rw [l1In]
  simp only [Option.bind_some]
  by_cases h : 0 ≤ n ∧ n ≤ 4
  · refine evp (by simpa using h) (evp h.1 (Ev.step (fun k => spec_l2Table.j0.eq_2 ..) ?_))
    obtain ⟨m, rfl⟩ := Int.eq_ofNat_of_zero_le h.1
    rw [shl1 m (by omega)]
    by_cases e : l.length = 2 ^ m
    · refine evn (by simp [e]) (evr (l2Table_l0 l hx l.length 0 (by omega)) (by simp [e]; omega))
    · refine evp (by simp; exact_mod_cast e) (evs (by simp [e]))
  · refine evn (by simpa using h) (Ev.step (fun k => spec_l2Table.j0.eq_2 ..) (evp rfl (evs (by simp [h]))))

/-! ### impl_allWithin -/
theorem allWithin_l0 (lo up : Int) (l : List Int) (hx : l.length < 4611686018427387904) : ∀ (d i : Nat), i + d = l.length →
    Ev (fun k => impl_allWithin.l0 k lo up l (l.length : Int) (i : Int)) ((l.drop i).all fun x => decide (lo ≤ x ∧ x ≤ up)) := by
  intro d
  induction d with
  | zero =>
    intro i hi
    refine Ev.step (fun k => impl_allWithin.l0.eq_2 ..) (evn (by omega) (evs ?_))
    simp [List.drop_of_length_le (show l.length ≤ i by omega)]
  | succ d ih =>
    intro i hi
    refine Ev.step (fun k => impl_allWithin.l0.eq_2 ..) (evp (by omega) (evp (by omega) (evp (by omega) ?_)))
    rw [w64s i (by omega), rd_nat, within, List.drop_eq_getElem_cons (show i < l.length by omega)]
    simp only [List.getD_eq_getElem?_getD, List.getElem?_eq_getElem (show i < l.length by omega), Option.getD_some, Option.bind_some, List.all_cons]
    by_cases e : lo ≤ l[i] ∧ l[i] ≤ up
    · refine evp (by simpa using e) (evr (ih (i + 1) (by omega)) (by simp [e]))
    · refine evn (by simpa using e) (evs (by simp [e]))
theorem allWithin (l : List Int) (lo up : Int) (hx : l.length < 4611686018427387904) : Ev (fun k => impl_allWithin.f k l lo up) (l.all fun x => decide (lo ≤ x ∧ x ≤ up)) := by
  unfold impl_allWithin.f
  exact allWithin_l0 lo up l hx l.length 0 (by omega)

/-! ### impl_isTable -/
theorem isTable (n : Int) (l : List Int) (hx : l.length < 4611686018427387904) : Ev (fun k => impl_isTable.f k n l) (isTab n l) := by
  unfold impl_isTable.f isTab
  rw [within]
  simp only [Option.bind_some]
  by_cases h : 0 ≤ n ∧ n ≤ 4
  · obtain ⟨m, rfl⟩ := Int.eq_ofNat_of_zero_le h.1
    refine evp (by simpa using h) (evp h.1 ?_)
    rw [shl1 m (by omega)]
    by_cases e : l.length = 2 ^ m
    · refine evp (by exact_mod_cast e) (evb (allWithin l 0 1 hx) (evs (by simp [e]; omega)))
    · refine evn (by exact_mod_cast e) (evs (by simp [e]))
  · refine evn (by simpa using h) (evs (by simp [h]))

/-! ### spec_l1Rising -/
theorem l1Rising_l0 (l : List Int) (lo hi : Int) (hl : l.length < 4611686018427387904) : ∀ (d i : Nat), i + d = l.length →
    Ev (fun k => spec_l1Rising.l0 k l lo hi (i : Int)) (inB lo hi (l.drop i) && riseB (l.drop (i - 1))) := by
  intro d
  induction d with
  | zero =>
    intro i hi'
    refine Ev.step (fun k => spec_l1Rising.l0.eq_2 ..) (evn (by omega) (evs ?_))
    rw [riseB_end l (i - 1) (by omega), List.drop_of_length_le (show l.length ≤ i by omega)]; rfl
  | succ d ih =>
    intro i hi'
    refine Ev.step (fun k => spec_l1Rising.l0.eq_2 ..) (evp (by omega) (evp (by omega) ?_))
    rw [rd_nat, l1In, w64s i (by omega)]; simp only [Option.bind_some]
    have hd := List.drop_eq_getElem_cons (show i < l.length by omega)
    have hg : l.getD i 0 = l[i] := by simp [List.getD_eq_getElem?_getD, List.getElem?_eq_getElem (show i < l.length by omega)]
    by_cases e : lo ≤ l.getD i 0 ∧ l.getD i 0 ≤ hi
    · refine evp (by simpa using e) ?_
      have hin : inB lo hi (l.drop i) = inB lo hi (l.drop (i + 1)) := by rw [hd]; simp only [inB, List.all_cons]; rw [← hg, decide_eq_true e, Bool.true_and]
      by_cases e0 : 0 < i
      · refine evp (by omega) ?_
        rw [w64 (x := (i : Int) - 1) (by omega) (by omega), show (i : Int) - 1 = ((i - 1 : Nat) : Int) by omega, rd_nat]
        refine evp (by omega) (evp (by omega) ?_)
        have hs := riseB_step l (i - 1) (by omega)
        rw [show i - 1 + 1 = i by omega] at hs
        by_cases e1 : l.getD (i - 1) 0 ≥ l.getD i 0
        · refine evp e1 (evs ?_)
          rw [hs, decide_eq_false (by omega)]; simp
        · refine evn e1 (evr (ih (i + 1) (by omega)) ?_)
          rw [hin, hs, decide_eq_true (show l.getD (i - 1) 0 < l.getD i 0 by omega)]; simp
      · refine evn (by omega) (evr (ih (i + 1) (by omega)) ?_)
        obtain rfl : i = 0 := by omega
        rw [hin]
    · refine evn (by simpa using e) (evs ?_)
      rw [hd]; simp only [inB, List.all_cons]; rw [← hg, decide_eq_false e]; simp
theorem l1Rising (l : List Int) (lo hi : Int) (hl : l.length < 4611686018427387904) : Ev (fun k => spec_l1Rising.f k l lo hi) (inB lo hi l && riseB l) := by
  unfold spec_l1Rising.f
  exact evr (l1Rising_l0 l lo hi hl l.length 0 (by omega)) (by simp)

/-! ### impl_rising -/
theorem rising_l0 (l : List Int) (hl : l.length < 4611686018427387904) : ∀ (d i : Nat), i + d = l.length → 1 ≤ i →
    Ev (fun k => impl_rising.l0 k l (i : Int)) (riseB (l.drop (i - 1))) := by
  intro d
  induction d with
  | zero =>
    intro i hi' h1
    refine Ev.step (fun k => impl_rising.l0.eq_2 ..) (evn (by omega) (evs ?_))
    rw [riseB_end l (i - 1) (by omega)]
  | succ d ih =>
    intro i hi' h1
    refine Ev.step (fun k => impl_rising.l0.eq_2 ..) (evp (by omega) ?_)
    rw [rd_nat, w64s i (by omega), w64 (x := (i : Int) - 1) (by omega) (by omega), show (i : Int) - 1 = ((i - 1 : Nat) : Int) by omega, rd_nat]
    refine evp (by omega) (evp (by omega) (evp (by omega) ?_))
    have hs := riseB_step l (i - 1) (by omega)
    rw [show i - 1 + 1 = i by omega] at hs
    by_cases e1 : l.getD (i - 1) 0 ≥ l.getD i 0
    · refine evp e1 (evs ?_)
      rw [hs, decide_eq_false (by omega)]; simp
    · refine evn e1 (evr (ih (i + 1) (by omega) (by omega)) ?_)
      rw [hs, decide_eq_true (show l.getD (i - 1) 0 < l.getD i 0 by omega)]; simp
theorem rising (l : List Int) (hl : l.length < 4611686018427387904) : Ev (fun k => impl_rising.f k l) (riseB l) := by
  unfold impl_rising.f
  by_cases h : l.length = 0
  · refine Ev.step (fun k => impl_rising.l0.eq_2 ..) (evn (by omega) (evs ?_))
    rw [List.eq_nil_of_length_eq_zero h]; rfl
  · exact evr (rising_l0 l hl (l.length - 1) 1 (by omega) (by omega)) (by simp)

/-! ### impl_FlipBits spec_FlipBits -/
def subs : Nat → List (List Int)
  | 0 => [[]]
  | d + 1 => subs d ++ (subs d).map ((3 - d : Int) :: ·)
theorem subs_nil : ∀ d, ([] : List Int) ∈ subs d
  | 0 => by simp [subs]
  | d + 1 => List.mem_append_left _ (subs_nil d)
theorem subs_mem : ∀ (d : Nat) (l : List Int), riseB l = true → (∀ x ∈ l, (4 : Int) - d ≤ x ∧ x ≤ 3) → l ∈ subs d := by
  intro d
  induction d with
  | zero =>
    intro l _ h
    cases l with
    | nil => exact subs_nil 0
    | cons x l => have := h x List.mem_cons_self; omega
  | succ d ih =>
    intro l hr h
    cases l with
    | nil => exact subs_nil _
    | cons x l =>
      have hx := h x List.mem_cons_self
      have hlt := riseB_lt l x hr
      by_cases e : x = 3 - d
      · subst e
        exact List.mem_append_right _ (List.mem_map.2 ⟨l, ih l (riseB_tail hr) (fun y hy => by have := hlt y hy; have := h y (List.mem_cons_of_mem _ hy); omega), rfl⟩)
      · refine List.mem_append_left _ (ih _ hr fun y hy => ?_)
        rcases List.mem_cons.1 hy with rfl | hy'
        · omega
        · have := hlt y hy'; have := h y hy; omega
def flipTo (l : List Int) (x : Int) : Int := l.foldl (fun m i => Go.bits .xor .i64 m (shl .i64 1 i)) x
theorem flip_all : ∀ l ∈ subs 4, ∀ n : Fin 5, (∀ x ∈ l, x < (n.val : Int)) → ∀ k : Fin 16, k.val < 2 ^ n.val → flipTo l (k.val : Int) = Go.bits .xor .i64 (k.val : Int) (flipMask l) ∧ 0 ≤ Go.bits .xor .i64 (k.val : Int) (flipMask l) ∧ Go.bits .xor .i64 (k.val : Int) (flipMask l) < ((2 ^ n.val : Nat) : Int) := by decide +kernel
theorem flip_at {n : Nat} {l2 : List Int} (hn : n ≤ 4) (h : setB (n : Int) l2 = true) (k : Nat) (hk : k < 2 ^ n) : flipTo l2 (k : Int) = Go.bits .xor .i64 (k : Int) (flipMask l2) ∧ 0 ≤ Go.bits .xor .i64 (k : Int) (flipMask l2) ∧ Go.bits .xor .i64 (k : Int) (flipMask l2) < ((2 ^ n : Nat) : Int) := by
  unfold setB inB at h
  simp only [Bool.and_eq_true, List.all_eq_true, decide_eq_true_eq] at h
  have hm := subs_mem 4 l2 h.2 (fun x hx => by have := h.1 x hx; omega)
  have h16 : 2 ^ n ≤ 16 := Nat.pow_le_pow_right (by decide : 0 < 2) hn
  exact flip_all l2 hm ⟨n, by omega⟩ (fun x hx => by have := h.1 x hx; simp only; omega) ⟨k, by omega⟩ hk
def flipV (n : Int) (l1 l2 : List Int) : List Int × Bool := if isTab n l1 = true ∧ setB n l2 = true then ((List.range l1.length).map fun k : Nat => rd l1 (Go.bits .xor .i64 (k : Int) (flipMask l2)), true) else ([], false)
theorem flipV_len (n : Int) (l1 l2 : List Int) : (flipV n l1 l2).1.length ≤ 16 := by
  unfold flipV
  split
  · rename_i e
    obtain ⟨m, rfl, h⟩ := isTab_tab e.1
    have := h.len
    simp; omega
  · simp
theorem iFlip (n : Int) (l1 l2 : List Int) (hl : l1.length ≤ 1048576) (hl2 : l2.length ≤ 1048576) : Ev (fun k => impl_FlipBits.f k n l1 l2) (flipV n l1 l2) := by
  unfold impl_FlipBits.f flipV
  refine evb (isTable n l1 (by omega)) ?_
  by_cases e1 : isTab n l1 = true
  · refine evp e1 (evb (rising l2 (by omega)) ?_)
    obtain ⟨m, rfl, h⟩ := isTab_tab e1
    by_cases e2 : riseB l2 = true
    · refine evp e2 (evb (allWithin l2 0 (wrap64 ((m : Int) - 1)) (by omega)) ?_)
      have hm := h.1
      rw [w64 (x := (m : Int) - 1) (by omega) (by omega)]
      by_cases e3 : (l2.all fun x => decide (0 ≤ x ∧ x ≤ (m : Int) - 1)) = true
      · have hs : setB (m : Int) l2 = true := by unfold setB inB; rw [e3, e2]; rfl
        refine evp e3 (evc ?_)
        unfold flipsOf
        rw [if_pos ⟨fun i hi => by have := List.all_eq_true.1 e3 i hi; simp at this; exact this.1, hl, fun k hk => by
          have := flip_at hm hs k (by rw [← h.2.1]; exact hk)
          rw [h.2.1]; exact this.2⟩, if_pos ⟨e1, hs⟩]
      · exact evn e3 (evs (by rw [if_neg (by unfold setB inB; simp only [Bool.and_eq_true]; exact fun h => e3 h.2.1)]))
    · exact evn e2 (evs (by rw [if_neg (by unfold setB; simp only [Bool.and_eq_true]; exact fun h => e2 h.2.2)]))
  · exact evn e1 (evs (by rw [if_neg (fun h => e1 h.1)]))
theorem sFlip_l1 (l1 l2 acc : List Int) (k : Nat) (hl2 : l2.length ≤ 1048576) (hnn : ∀ x ∈ l2, 0 ≤ x) (ha : acc.length < 17592186044416) (z : Int) (hz : 0 ≤ z ∧ z < (l1.length : Int)) (r : List Int × Bool)
    (hr : Ev (fun n => spec_FlipBits.l0 n l1 l2 (acc ++ [rd l1 z]) (wrap64 ((k : Int) + 1))) r) : ∀ (d i : Nat) (x : Int), i + d = l2.length → flipTo (l2.drop i) x = z →
    Ev (fun n => spec_FlipBits.l1 n l1 l2 acc (k : Int) x (i : Int)) r := by
  intro d
  induction d with
  | zero =>
    intro i x hi hx
    rw [List.drop_of_length_le (by omega)] at hx
    have hx' : x = z := hx
    subst hx'
    exact Ev.step (fun k => spec_FlipBits.l1.eq_2 ..) (evn (by omega) (evp hz.1 (evp hz.2 (evp ha hr))))
  | succ d ih =>
    intro i x hi hx
    have hlt : i < l2.length := by omega
    have hrd : rd l2 (i : Int) = l2[i] := by rw [rd_nat, List.getD_eq_getElem?_getD, List.getElem?_eq_getElem hlt]; rfl
    have h0 : 0 ≤ rd l2 (i : Int) := by rw [hrd]; exact hnn _ (List.getElem_mem hlt)
    refine Ev.step (fun k => spec_FlipBits.l1.eq_2 ..) (evp (by omega) (evp (by omega) (evp h0 ?_)))
    rw [w64s i (by omega)]
    refine ih (i + 1) _ (by omega) ?_
    rw [List.drop_eq_getElem_cons hlt] at hx
    rw [hrd]
    exact hx
theorem sFlip_l0 {n : Nat} {l1 l2 : List Int} (h : Tab n l1) (hs : setB (n : Int) l2 = true) (hl2 : l2.length ≤ 1048576) : ∀ (d i : Nat), i + d = l1.length →
    Ev (fun k => spec_FlipBits.l0 k l1 l2 ((List.range i).map fun k : Nat => rd l1 (Go.bits .xor .i64 (k : Int) (flipMask l2))) (i : Int)) ((List.range l1.length).map fun k : Nat => rd l1 (Go.bits .xor .i64 (k : Int) (flipMask l2)), true) := by
  intro d
  induction d with
  | zero =>
    intro i hi
    refine Ev.step (fun k => spec_FlipBits.l0.eq_2 ..) (evn (by omega) (evs ?_))
    rw [show i = l1.length by omega]
  | succ d ih =>
    intro i hi
    have hlen := h.len
    refine Ev.step (fun k => spec_FlipBits.l0.eq_2 ..) (evp (by omega) ?_)
    have hf := flip_at h.1 hs i (by rw [← h.2.1]; omega)
    refine sFlip_l1 l1 l2 _ i hl2 (fun x hx => ?_) (by simp; omega) (Go.bits .xor .i64 (i : Int) (flipMask l2)) ⟨hf.2.1, by rw [h.2.1]; exact hf.2.2⟩ _ ?_ l2.length 0 _ (by omega) (by rw [List.drop_zero]; exact hf.1)
    · unfold setB inB at hs; simp only [Bool.and_eq_true, List.all_eq_true, decide_eq_true_eq] at hs; exact (hs.1 x hx).1
    · rw [w64s i (by omega)]
      have := ih (i + 1) (by omega)
      rw [List.range_succ, List.map_append] at this
      exact this
theorem sFlip (n : Int) (l1 l2 : List Int) (hl : l1.length ≤ 1048576) (hl2 : l2.length ≤ 1048576) : Ev (fun k => spec_FlipBits.f k n l1 l2) (flipV n l1 l2) := by
  unfold spec_FlipBits.f flipV
  refine evb (evc rfl) (evb (l2Table n l1 (by omega)) ?_)
  by_cases e1 : isTab n l1 = true
  · obtain ⟨m, rfl, h⟩ := isTab_tab e1
    have hm := h.1
    rw [w64 (x := (m : Int) - 1) (by omega) (by omega)]
    refine evp e1 (evb (l1Rising l2 0 ((m : Int) - 1) (by omega)) (Ev.step (fun k => spec_FlipBits.j0.eq_2 ..) ?_))
    by_cases e2 : setB (m : Int) l2 = true
    · refine evn (by unfold setB at e2; rw [e2]; decide) ?_
      rw [if_pos ⟨e1, e2⟩]
      exact sFlip_l0 h e2 hl2 l1.length 0 (by omega)
    · refine evp (by unfold setB at e2; rw [Bool.eq_false_iff.2 e2]; rfl) (evs ?_)
      rw [if_neg (fun h => e2 h.2)]
  · exact evn e1 (Ev.step (fun k => spec_FlipBits.j0.eq_2 ..) (evp rfl (evs (by rw [if_neg (fun h => e1 h.1)]))))

/-! ### laws_FnExactFlipBits -/
theorem law (n : Int) (l1 l2 : List Int) : Ev (fun k => laws_FnExactFlipBits.f k n l1 l2) true := by
  unfold laws_FnExactFlipBits.f
  by_cases h : (l1.length : Int) > 1048576
  · exact evp h (evs rfl)
  refine evn h ?_
  by_cases h' : (l2.length : Int) > 1048576
  · exact evp h' (evs rfl)
  have hs := sFlip n l1 l2 (by omega) (by omega)
  have hi := iFlip n l1 l2 (by omega) (by omega)
  have hb := flipV_len n l1 l2
  generalize flipV n l1 l2 = R at *
  repeat (first
    | exact evs rfl
    | dsimp only
    | (with_reducible refine evb hs ?_)
    | (with_reducible refine evb hi ?_)
    | ((with_reducible refine evb (toIntS _ ?_) ?_); (focus (first | omega | assumption)))
    | ((with_reducible refine evb (eqIntS _ _ ?_) ?_); (focus (first | omega | assumption)))
    | ((with_reducible refine evb (markIntS _ _ ?_ ?_) ?_); (focus (first | omega | assumption)); (focus (first | omega | assumption)))
    | ((with_reducible refine evb (heldIntS _ _ ?_ ?_) ?_); (focus (first | omega | assumption)); (focus (first | omega | assumption)))
    | (refine evp ?_ ?_; focus (first | omega | (simp; done)))
    | (refine evn ?_ ?_; focus (first | omega | (simp; done)))
    | (with_reducible refine Ev.step (fun k => laws_FnExactFlipBits.j0.eq_2 ..) ?_)
    | (with_reducible refine Ev.step (fun k => laws_FnExactFlipBits.j1.eq_2 ..) ?_)
    | (with_reducible refine Ev.step (fun k => laws_FnExactFlipBits.j2.eq_2 ..) ?_)
    )

end Go.Proofs.Ytocmmbnndieknaa.LFnExactFlipBits
