-- Laid for this claim by a program of the session's own (wip/tool/myprint.py).
import Derived.Test.YtmfmgnpefjmieaaMFnThresholdTablesx8
namespace Go.Proofs.Ytmfmgnpefjmieaa.PFnThresholdTables
open Go.RowKit Go.Proofs.YtmfmgnpefjmieaaW.PrintWords Go.Proofs.YtmfmgnpefjmieaaW.PrintLast Go.Proofs.YtmfmgnpefjmieaaW.PrintMore
attribute [local go_sem] max2_int min2_int max_two min_two max_three min_three max_four min_four
set_option linter.unusedVariables false
set_option maxHeartbeats 8000000
set_option maxRecDepth 100000
set_option linter.unusedSimpArgs false
def spec_SizeOf.f (k : Nat) (a0 : Int) (l1 : List Int) : Option (Int × Bool) := (spec_l2Table.f k a0 l1).bind fun t381 => (if t381 = true then ((spec_l5Least.f k a0 l1).bind fun bt382 => ((spec_l5Size.f k bt382.1).bind fun t386 => (some (t386, bt382.2)))) else (some (0, false)))
theorem spec_SizeOf.calls (k : Nat) (a0 : Int) (A1 : Option Addr) (c1 : Nat) (l1 : List Int) (r1 : Int) (r2 : Bool) (w : World) (hr1 : Kd.C (Kd.int .i64) w A1 l1.length l1) (hc1 : l1.length ≤ c1) (h : spec_SizeOf.f k a0 l1 = some (r1, r2)) :
    Calls Try.prog 14 #[.int .i64 a0, .slice A1 l1.length c1] w fun e w' => e = .returned (.tuple #[.int .i64 r1, .bool r2]) ∧ Below w.heap.size w w' := by
 have HR1 := aM hr1
 have HC1 := aM hc1
 clear hr1 hc1
 have HB := aM (Below.refl w.heap.size w)
 have H : ((spec_l2Table.f k a0 l1).bind fun t381 => (if t381 = true then ((spec_l5Least.f k a0 l1).bind fun bt382 => ((spec_l5Size.f k bt382.1).bind fun t386 => (some (t386, bt382.2)))) else (some (0, false)))) = some (r1, r2) := h
 clear h
 replace H := oB.mp H
 obtain ⟨t381, A30, H⟩ := H
 have A3 := aM A30
 clear A30
 by_cases c4 : t381 = true
 rotate_left
 ·
  replace c4 := Bool.eq_false_iff.mpr c4
  subst c4
  rw [if_neg (show ¬ (false = true) by decide)] at H
  simp only [Option.some.injEq, Prod.mk.injEq] at H
  obtain ⟨rfl, rfl⟩ := H
  go_enter Try.func14, Try.ntmps14
  go_wp2_with (first | (refine yL 10 Try.func76 #[.int .i64 a0, .slice A1 l1.length c1] ?_; (with_reducible refine (spec_l2Table.calls k a0 _ _ l1 false _ (xC HR1.out) HC1.out A3.out).mono ?_); rintro e w' ⟨rfl, ⟨nd, rfl⟩⟩; refine ⟨_, rfl, ?_⟩))
  go_ret2
  exact ⟨yF, xH HB.out⟩
 subst c4
 rw [if_pos rfl] at H
 replace H := oB.mp H
 obtain ⟨⟨t382, t385⟩, A50, H⟩ := H
 (try dsimp only at H)
 have A5 := aM A50
 clear A50
 replace H := oB.mp H
 obtain ⟨t386, A60, H⟩ := H
 have A6 := aM A60
 clear A60
 simp only [Option.some.injEq, Prod.mk.injEq] at H
 obtain ⟨rfl, rfl⟩ := H
 go_enter Try.func14, Try.ntmps14
 go_wp2_with (first | (refine yL 10 Try.func76 #[.int .i64 a0, .slice A1 l1.length c1] ?_; (with_reducible refine (spec_l2Table.calls k a0 _ _ l1 true _ (xC HR1.out) HC1.out A3.out).mono ?_); rintro e w' ⟨rfl, ⟨nd, rfl⟩⟩; refine ⟨_, rfl, ?_⟩) | (refine yL 15 Try.func79 #[.int .i64 a0, .slice A1 l1.length c1] ?_; (with_reducible refine (spec_l5Least.calls k a0 _ _ l1 t382 t385 _ (xC HR1.out) HC1.out A5.out).mono ?_); rintro e w7 ⟨v383, rfl, ho0, hb⟩; refine ⟨_, rfl, ?_⟩; have HO384 := aM (Kd.V_lower (Kd.V_mono (ok' := fun k_ => True) ho0 (fun k_ hk_ => trivial)) (below_size (xH HB.out))); replace HB := yS0 HB hb; (try clear hb; try clear ho0); obtain ⟨Ao8, co8, eo8⟩ := Kd.V_slice HO384.out; subst eo8) | (refine yL 19 Try.func80 #[.slice Ao8 t382.length co8] ?_; (with_reducible refine (spec_l5Size.calls k _ _ t382 t386 _ ?side1 ((Kd.V_reads' HO384.out).2.1) A6.out).mono ?_); (case side1 => repeat (first | exact (Kd.V_reads' HO384.out).2.2 | (with_reducible refine Kd.C_alloc ?_ _) | (with_reducible refine Kd.C_drewN ?_ _) | (with_reducible refine Kd.C_drew ?_))); rintro e w' ⟨rfl, ⟨nd, rfl⟩⟩; refine ⟨_, rfl, ?_⟩))
 go_ret2
 exact ⟨yF, xH HB.out⟩
def impl_sameSum.f (a0 : Int) (a1 : Int) (a2 : Int) (a3 : Int) : Option (Bool) := if (Go.bits .and .i64 a0 a1) = (Go.bits .and .i64 a2 a3) then (some ((Go.bits .or .i64 a0 a1) == (Go.bits .or .i64 a2 a3))) else (some false)
theorem impl_sameSum.calls (a0 : Int) (a1 : Int) (a2 : Int) (a3 : Int) (r : Bool) (w : World) (h : impl_sameSum.f a0 a1 a2 a3 = some r) :
    Calls Try.prog 81 #[.int .i64 a0, .int .i64 a1, .int .i64 a2, .int .i64 a3] w fun e w' => e = .returned (.bool r) ∧ Drawn0 w w' := by
 have H : (if (Go.bits .and .i64 a0 a1) = (Go.bits .and .i64 a2 a3) then (some ((Go.bits .or .i64 a0 a1) == (Go.bits .or .i64 a2 a3))) else (some false)) = some r := h
 clear h
 obtain ⟨c5, -, H⟩ | ⟨c5, -, H⟩ := yif H
 rotate_left
 ·
  have c5b0 : ((Go.bits .and .i64 a0 a1) == (Go.bits .and .i64 a2 a3)) = false := beq_eq_false_iff_ne.mpr c5
  have c5b1 : ((Go.bits .and .i64 a0 a1) != (Go.bits .and .i64 a2 a3)) = true := bne_iff_ne.mpr c5
  obtain rfl := Option.some.inj H
  go_enter Try.func81, Try.ntmps81
  go_wp2
  go_ret
  exact ⟨yZ, yDn⟩
 have c5b0 : ((Go.bits .and .i64 a0 a1) == (Go.bits .and .i64 a2 a3)) = true := beq_iff_eq.mpr c5
 have c5b1 : ((Go.bits .and .i64 a0 a1) != (Go.bits .and .i64 a2 a3)) = false := bne_eq_false_iff_eq.mpr c5
 clear c5
 obtain rfl := Option.some.inj H
 go_enter Try.func81, Try.ntmps81
 go_wp2
 go_ret
 exact ⟨yZ, yDn⟩
mutual
def impl_FindTrade.l0 : Nat → List Int → Int → Int → Int → Option (List Int × Bool)
  | 0, _, _, _, _ => none
  | k + 1, x1, x6, x17, x18 => if x18 < x17 then (impl_FindTrade.l1 k x1 x6 x18 x18 x17 x18) else (some (([] : List Int), false))
def impl_FindTrade.l1 : Nat → List Int → Int → Int → Int → Int → Int → Option (List Int × Bool)
  | 0, _, _, _, _, _, _ => none
  | k + 1, x1, x6, x7, x8, x17, x18 => if x8 < x6 then (impl_FindTrade.l2 k x1 x6 x7 x8 x17 x18 x6 0) else (impl_FindTrade.l0 k x1 x6 x17 (wrap64 (x18 + 1)))
def impl_FindTrade.l2 : Nat → List Int → Int → Int → Int → Int → Int → Int → Int → Option (List Int × Bool)
  | 0, _, _, _, _, _, _, _, _ => none
  | k + 1, x1, x6, x7, x8, x17, x18, x27, x28 => if x28 < x27 then (impl_FindTrade.l3 k x1 x6 x7 x8 x28 x28 x17 x18 x27 x28) else (impl_FindTrade.l1 k x1 x6 x7 (wrap64 (x8 + 1)) x17 x18)
def impl_FindTrade.l3 : Nat → List Int → Int → Int → Int → Int → Int → Int → Int → Int → Int → Option (List Int × Bool)
  | 0, _, _, _, _, _, _, _, _, _, _ => none
  | k + 1, x1, x6, x7, x8, x9, x10, x17, x18, x27, x28 => if x10 < x6 then (if 0 ≤ x7 then (if x7 < (x1.length : Int) then (if 0 ≤ x8 then (if x8 < (x1.length : Int) then (if (wrap64 ((rd x1 x7) + (rd x1 x8))) = 2 then (if 0 ≤ x9 then (if x9 < (x1.length : Int) then (if 0 ≤ x10 then (if x10 < (x1.length : Int) then (if (wrap64 ((rd x1 x9) + (rd x1 x10))) = 0 then ((impl_sameSum.f x7 x8 x9 x10).bind fun t392 => (if t392 = true then (some ((([x7, x8, x9, x10] : List Int)), true)) else (impl_FindTrade.l3 k x1 x6 x7 x8 x9 (wrap64 (x10 + 1)) x17 x18 x27 x28))) else (impl_FindTrade.l3 k x1 x6 x7 x8 x9 (wrap64 (x10 + 1)) x17 x18 x27 x28)) else (none)) else (none)) else (none)) else (none)) else (impl_FindTrade.l3 k x1 x6 x7 x8 x9 (wrap64 (x10 + 1)) x17 x18 x27 x28)) else (none)) else (none)) else (none)) else (none)) else (impl_FindTrade.l2 k x1 x6 x7 x8 x17 x18 x27 (wrap64 (x28 + 1)))
end
def impl_FindTrade.f (k : Nat) (a0 : Int) (l1 : List Int) : Option (List Int × Bool) := (impl_isTable.f k a0 l1).bind fun t387 => (if t387 = true then (impl_FindTrade.l0 k l1 (l1.length : Int) (l1.length : Int) 0) else (some (([] : List Int), false)))
theorem impl_FindTrade.calls (k : Nat) (a0 : Int) (A1 : Option Addr) (c1 : Nat) (l1 : List Int) (r1 : List Int) (r2 : Bool) (w : World) (hr1 : Kd.C (Kd.int .i64) w A1 l1.length l1) (hc1 : l1.length ≤ c1) (h : impl_FindTrade.f k a0 l1 = some (r1, r2)) :
    Calls Try.prog 15 #[.int .i64 a0, .slice A1 l1.length c1] w fun e w' => ∃ v0_ : Value, e = .returned (.tuple #[v0_, .bool r2]) ∧ Kd.R (Kd.int .i64) 3 w' w.heap.size (fun _ => True) v0_ r1 ∧ Below w.heap.size w w' := by
 have HR1 := aM hr1
 have HC1 := aM hc1
 clear hr1 hc1
 have HB := aM (Below.refl w.heap.size w)
 have H : ((impl_isTable.f k a0 l1).bind fun t387 => (if t387 = true then (impl_FindTrade.l0 k l1 (l1.length : Int) (l1.length : Int) 0) else (some (([] : List Int), false)))) = some (r1, r2) := h
 clear h
 replace H := oB.mp H
 obtain ⟨t387, A30, H⟩ := H
 have A3 := aM A30
 clear A30
 by_cases c4 : t387 = true
 rotate_left
 ·
  replace c4 := Bool.eq_false_iff.mpr c4
  subst c4
  rw [if_neg (show ¬ (false = true) by decide)] at H
  simp only [Option.some.injEq, Prod.mk.injEq] at H
  obtain ⟨rfl, rfl⟩ := H
  go_enter Try.func15, Try.ntmps15
  go_wp2_with (first | (go_at_call 74; (with_reducible refine (impl_isTable.calls k a0 _ _ l1 false _ (xC HR1.out) HC1.out A3.out).mono ?_); rintro e w' ⟨rfl, ⟨nd, rfl⟩⟩; (try exact yDr)))
  repeat (go_quiet (first | (go_at_call 74; (with_reducible refine (impl_isTable.calls k a0 _ _ l1 false _ (xC HR1.out) HC1.out A3.out).mono ?_); rintro e w' ⟨rfl, ⟨nd, rfl⟩⟩; (try exact yDr))); try go_wp2_with (first | (go_at_call 74; (with_reducible refine (impl_isTable.calls k a0 _ _ l1 false _ (xC HR1.out) HC1.out A3.out).mono ?_); rintro e w' ⟨rfl, ⟨nd, rfl⟩⟩; (try exact yDr))))
  go_ret2
  exact ⟨_, yF, yNi, xH HB.out⟩
 subst c4
 rw [if_pos rfl] at H
 have H' := aM H
 clear H
 go_enter Try.func15, Try.ntmps15
 go_wp2_with (first | (go_at_call 74; (with_reducible refine (impl_isTable.calls k a0 _ _ l1 true _ (xC HR1.out) HC1.out A3.out).mono ?_); rintro e w' ⟨rfl, ⟨nd, rfl⟩⟩; (try exact yDr)))
 repeat (go_quiet (first | (go_at_call 74; (with_reducible refine (impl_isTable.calls k a0 _ _ l1 true _ (xC HR1.out) HC1.out A3.out).mono ?_); rintro e w' ⟨rfl, ⟨nd, rfl⟩⟩; (try exact yDr))); try go_wp2_with (first | (go_at_call 74; (with_reducible refine (impl_isTable.calls k a0 _ _ l1 true _ (xC HR1.out) HC1.out A3.out).mono ?_); rintro e w' ⟨rfl, ⟨nd, rfl⟩⟩; (try exact yDr))))
 go_loopg [18] k (fun kq v18 w' => ∃ (x18_1 : Int), v18 = .int .i64 x18_1 ∧ Aside0 (impl_FindTrade.l0 kq l1 (l1.length : Int) (l1.length : Int) x18_1 = some (r1, r2)) ∧ Aside0 (kq ≤ k) ∧ Aside0 (Below w.heap.size w w'))
 case atStart => exact ⟨(0), yZ, H', ⟨Nat.le_refl _⟩, ⟨xH HB.out⟩⟩
 case round =>
  clear H'
  try clear c1
  try clear c4
  obtain ⟨x18_1, rfl, HA, HK1, HB⟩ := hrel
  cases gk with
  | zero => exact absurd HA.out (by simp [impl_FindTrade.l0])
  | succ k1 =>
   have H := HA.out
   clear HA
   simp only [impl_FindTrade.l0] at H
   obtain ⟨c5, c5b0, H⟩ | ⟨-, c5b0, H⟩ := yif H
   rotate_left
   ·
    simp only [Option.some.injEq, Prod.mk.injEq] at H
    obtain ⟨rfl, rfl⟩ := H
    go_wp2
    repeat (go_quiet (fail); try go_wp2)
    go_ret2
    exact ⟨_, yF, yNi, xH HB.out⟩
   clear c5
   have H' := aM H
   clear H
   go_wp2
   repeat (go_quiet (fail); try go_wp2)
   go_loopg [8] k1 (fun kq v8 w' => ∃ (x8_2 : Int), v8 = .int .i64 x8_2 ∧ Aside0 (impl_FindTrade.l1 kq l1 (l1.length : Int) x18_1 x8_2 (l1.length : Int) x18_1 = some (r1, r2)) ∧ Aside0 (kq ≤ k1) ∧ Aside0 (Below w.heap.size w w'))
   case atStart => exact ⟨(x18_1), yZ, H', ⟨Nat.le_refl _⟩, ⟨xH HB.out⟩⟩
   case round =>
    clear H'
    try clear c5
    try clear c5b0
    obtain ⟨x8_2, rfl, HA, HK2, HB⟩ := hrel
    cases gk with
    | zero => exact absurd HA.out (by simp [impl_FindTrade.l1])
    | succ k2 =>
     have H := HA.out
     clear HA
     simp only [impl_FindTrade.l1] at H
     obtain ⟨c6, c6b0, H⟩ | ⟨-, c6b0, H⟩ := yif H
     rotate_left
     ·
      have H' := aM H
      clear H
      go_wp2
      repeat (go_quiet (fail); try go_wp2)
      go_roundg k2
      case measure => have := HK1.out; have := HK2.out; omega
      case rel => exact ⟨(wrap64 (x18_1 + 1)), yZ, H', ⟨by have := HK1.out; have := HK2.out; omega⟩, ⟨xH HB.out⟩⟩
     clear c6
     have H' := aM H
     clear H
     go_wp2
     repeat (go_quiet (fail); try go_wp2)
     go_loopg [28] k2 (fun kq v28 w' => ∃ (x28_3 : Int), v28 = .int .i64 x28_3 ∧ Aside0 (impl_FindTrade.l2 kq l1 (l1.length : Int) x18_1 x8_2 (l1.length : Int) x18_1 (l1.length : Int) x28_3 = some (r1, r2)) ∧ Aside0 (kq ≤ k2) ∧ Aside0 (Below w.heap.size w w'))
     case atStart => exact ⟨(0), yZ, H', ⟨Nat.le_refl _⟩, ⟨xH HB.out⟩⟩
     case round =>
      clear H'
      try clear c6
      try clear c6b0
      obtain ⟨x28_3, rfl, HA, HK3, HB⟩ := hrel
      cases gk with
      | zero => exact absurd HA.out (by simp [impl_FindTrade.l2])
      | succ k3 =>
       have H := HA.out
       clear HA
       simp only [impl_FindTrade.l2] at H
       obtain ⟨c7, c7b0, H⟩ | ⟨-, c7b0, H⟩ := yif H
       rotate_left
       ·
        have H' := aM H
        clear H
        go_wp2
        repeat (go_quiet (fail); try go_wp2)
        go_roundg k3
        case measure => have := HK1.out; have := HK2.out; have := HK3.out; omega
        case rel => exact ⟨(wrap64 (x8_2 + 1)), yZ, H', ⟨by have := HK1.out; have := HK2.out; have := HK3.out; omega⟩, ⟨xH HB.out⟩⟩
       clear c7
       have H' := aM H
       clear H
       go_wp2
       repeat (go_quiet (fail); try go_wp2)
       go_loopg [10] k3 (fun kq v10 w' => ∃ (x10_4 : Int), v10 = .int .i64 x10_4 ∧ Aside0 (impl_FindTrade.l3 kq l1 (l1.length : Int) x18_1 x8_2 x28_3 x10_4 (l1.length : Int) x18_1 (l1.length : Int) x28_3 = some (r1, r2)) ∧ Aside0 (kq ≤ k3) ∧ Aside0 (Below w.heap.size w w'))
       case atStart => exact ⟨(x28_3), yZ, H', ⟨Nat.le_refl _⟩, ⟨xH HB.out⟩⟩
       case round =>
        clear H'
        try clear c7
        try clear c7b0
        obtain ⟨x10_4, rfl, HA, HK4, HB⟩ := hrel
        cases gk with
        | zero => exact absurd HA.out (by simp [impl_FindTrade.l3])
        | succ k4 =>
         have H := HA.out
         clear HA
         simp only [impl_FindTrade.l3] at H
         obtain ⟨-, c8b0, H⟩ | ⟨-, c8b0, H⟩ := yif H
         rotate_left
         ·
          have H' := aM H
          clear H
          go_wp2
          repeat (go_quiet (fail); try go_wp2)
          go_roundg k4
          case measure => have := HK1.out; have := HK2.out; have := HK3.out; have := HK4.out; omega
          case rel => exact ⟨(wrap64 (x28_3 + 1)), yZ, H', ⟨by have := HK1.out; have := HK2.out; have := HK3.out; have := HK4.out; omega⟩, ⟨xH HB.out⟩⟩
         obtain ⟨-, c9b0, H⟩ | ⟨c9, -, H⟩ := yif H
         rotate_left
         · exact absurd H (by simp)
         obtain ⟨-, c10b0, H⟩ | ⟨c10, -, H⟩ := yif H
         rotate_left
         · exact absurd H (by simp)
         obtain ⟨-, c11b0, H⟩ | ⟨c11, -, H⟩ := yif H
         rotate_left
         · exact absurd H (by simp)
         obtain ⟨-, c12b0, H⟩ | ⟨c12, -, H⟩ := yif H
         rotate_left
         · exact absurd H (by simp)
         obtain ⟨c13, -, H⟩ | ⟨c13, -, H⟩ := yif H
         rotate_left
         ·
          have c13b0 : ((wrap64 ((rd l1 x18_1) + (rd l1 x8_2))) == 2) = false := beq_eq_false_iff_ne.mpr c13
          have c13i0 : ((IntKind.i64.wrap ((rd l1 x18_1) + (rd l1 x8_2))) == 2) = false := by rw [i64_w]; exact c13b0
          have c13b1 : ((wrap64 ((rd l1 x18_1) + (rd l1 x8_2))) != 2) = true := bne_iff_ne.mpr c13
          have H' := aM H
          clear H
          obtain ⟨ad388, e388, hx388_0, p388, q388⟩ := yi HR1.out x18_1
          cases e388
          replace hx388_0 := yc HB hx388_0
          obtain ⟨ad389, e389, hx389_0, p389, q389⟩ := yi HR1.out x8_2
          obtain rfl : ad388 = ad389 := (by injection e389)
          replace hx389_0 := yc HB hx389_0
          go_wp2
          repeat (go_quiet (fail); try go_wp2)
          go_roundg k4
          case measure => have := HK1.out; have := HK2.out; have := HK3.out; have := HK4.out; omega
          case rel => exact ⟨(wrap64 (x10_4 + 1)), yZ, H', ⟨by have := HK1.out; have := HK2.out; have := HK3.out; have := HK4.out; omega⟩, ⟨xH HB.out⟩⟩
         have c13b0 : ((wrap64 ((rd l1 x18_1) + (rd l1 x8_2))) == 2) = true := beq_iff_eq.mpr c13
         have c13i0 : ((IntKind.i64.wrap ((rd l1 x18_1) + (rd l1 x8_2))) == 2) = true := by rw [i64_w]; exact c13b0
         have c13b1 : ((wrap64 ((rd l1 x18_1) + (rd l1 x8_2))) != 2) = false := bne_eq_false_iff_eq.mpr c13
         clear c13
         obtain ⟨-, c14b0, H⟩ | ⟨c14, -, H⟩ := yif H
         rotate_left
         · exact absurd H (by simp)
         obtain ⟨-, c15b0, H⟩ | ⟨c15, -, H⟩ := yif H
         rotate_left
         · exact absurd H (by simp)
         obtain ⟨-, c16b0, H⟩ | ⟨c16, -, H⟩ := yif H
         rotate_left
         · exact absurd H (by simp)
         obtain ⟨-, c17b0, H⟩ | ⟨c17, -, H⟩ := yif H
         rotate_left
         · exact absurd H (by simp)
         obtain ⟨c18, -, H⟩ | ⟨c18, -, H⟩ := yif H
         rotate_left
         ·
          have c18b0 : ((wrap64 ((rd l1 x28_3) + (rd l1 x10_4))) == 0) = false := beq_eq_false_iff_ne.mpr c18
          have c18i0 : ((IntKind.i64.wrap ((rd l1 x28_3) + (rd l1 x10_4))) == 0) = false := by rw [i64_w]; exact c18b0
          have c18b1 : ((wrap64 ((rd l1 x28_3) + (rd l1 x10_4))) != 0) = true := bne_iff_ne.mpr c18
          have H' := aM H
          clear H
          obtain ⟨ad388, e388, hx388_0, p388, q388⟩ := yi HR1.out x18_1
          cases e388
          replace hx388_0 := yc HB hx388_0
          obtain ⟨ad389, e389, hx389_0, p389, q389⟩ := yi HR1.out x8_2
          obtain rfl : ad388 = ad389 := (by injection e389)
          replace hx389_0 := yc HB hx389_0
          obtain ⟨ad390, e390, hx390_0, p390, q390⟩ := yi HR1.out x28_3
          obtain rfl : ad388 = ad390 := (by injection e390)
          replace hx390_0 := yc HB hx390_0
          obtain ⟨ad391, e391, hx391_0, p391, q391⟩ := yi HR1.out x10_4
          obtain rfl : ad388 = ad391 := (by injection e391)
          replace hx391_0 := yc HB hx391_0
          go_wp2
          repeat (go_quiet (fail); try go_wp2)
          go_roundg k4
          case measure => have := HK1.out; have := HK2.out; have := HK3.out; have := HK4.out; omega
          case rel => exact ⟨(wrap64 (x10_4 + 1)), yZ, H', ⟨by have := HK1.out; have := HK2.out; have := HK3.out; have := HK4.out; omega⟩, ⟨xH HB.out⟩⟩
         have c18b0 : ((wrap64 ((rd l1 x28_3) + (rd l1 x10_4))) == 0) = true := beq_iff_eq.mpr c18
         have c18i0 : ((IntKind.i64.wrap ((rd l1 x28_3) + (rd l1 x10_4))) == 0) = true := by rw [i64_w]; exact c18b0
         have c18b1 : ((wrap64 ((rd l1 x28_3) + (rd l1 x10_4))) != 0) = false := bne_eq_false_iff_eq.mpr c18
         clear c18
         replace H := oB.mp H
         obtain ⟨t392, A190, H⟩ := H
         have A19 := aM A190
         clear A190
         by_cases c20 : t392 = true
         rotate_left
         ·
          replace c20 := Bool.eq_false_iff.mpr c20
          subst c20
          rw [if_neg (show ¬ (false = true) by decide)] at H
          have H' := aM H
          clear H
          obtain ⟨ad388, e388, hx388_0, p388, q388⟩ := yi HR1.out x18_1
          cases e388
          replace hx388_0 := yc HB hx388_0
          obtain ⟨ad389, e389, hx389_0, p389, q389⟩ := yi HR1.out x8_2
          obtain rfl : ad388 = ad389 := (by injection e389)
          replace hx389_0 := yc HB hx389_0
          obtain ⟨ad390, e390, hx390_0, p390, q390⟩ := yi HR1.out x28_3
          obtain rfl : ad388 = ad390 := (by injection e390)
          replace hx390_0 := yc HB hx390_0
          obtain ⟨ad391, e391, hx391_0, p391, q391⟩ := yi HR1.out x10_4
          obtain rfl : ad388 = ad391 := (by injection e391)
          replace hx391_0 := yc HB hx391_0
          go_wp2_with (first | (go_at_call 81; (with_reducible refine (impl_sameSum.calls x18_1 x8_2 x28_3 x10_4 false _ A19.out).mono ?_); rintro e w' ⟨rfl, ⟨nd, rfl⟩⟩; (try exact yDr)))
          repeat (go_quiet (first | (go_at_call 81; (with_reducible refine (impl_sameSum.calls x18_1 x8_2 x28_3 x10_4 false _ A19.out).mono ?_); rintro e w' ⟨rfl, ⟨nd, rfl⟩⟩; (try exact yDr))); try go_wp2_with (first | (go_at_call 81; (with_reducible refine (impl_sameSum.calls x18_1 x8_2 x28_3 x10_4 false _ A19.out).mono ?_); rintro e w' ⟨rfl, ⟨nd, rfl⟩⟩; (try exact yDr))))
          go_roundg k4
          case measure => have := HK1.out; have := HK2.out; have := HK3.out; have := HK4.out; omega
          case rel => exact ⟨(wrap64 (x10_4 + 1)), yZ, H', ⟨by have := HK1.out; have := HK2.out; have := HK3.out; have := HK4.out; omega⟩, ⟨xH HB.out⟩⟩
         subst c20
         rw [if_pos rfl] at H
         obtain ⟨y393, hy393⟩ := yE (([x18_1, x8_2, x28_3, x10_4] : List Int) : List Int)
         replace H : (some (y393, true)) = some (r1, r2) := yI hy393 H
         have Ny393 := aM hy393
         clear hy393
         simp only [Option.some.injEq, Prod.mk.injEq] at H
         obtain ⟨rfl, rfl⟩ := H
         obtain ⟨ad388, e388, hx388_0, p388, q388⟩ := yi HR1.out x18_1
         cases e388
         replace hx388_0 := yc HB hx388_0
         obtain ⟨ad389, e389, hx389_0, p389, q389⟩ := yi HR1.out x8_2
         obtain rfl : ad388 = ad389 := (by injection e389)
         replace hx389_0 := yc HB hx389_0
         obtain ⟨ad390, e390, hx390_0, p390, q390⟩ := yi HR1.out x28_3
         obtain rfl : ad388 = ad390 := (by injection e390)
         replace hx390_0 := yc HB hx390_0
         obtain ⟨ad391, e391, hx391_0, p391, q391⟩ := yi HR1.out x10_4
         obtain rfl : ad388 = ad391 := (by injection e391)
         replace hx391_0 := yc HB hx391_0
         go_wp2_with (first | (go_at_call 81; (with_reducible refine (impl_sameSum.calls x18_1 x8_2 x28_3 x10_4 true _ A19.out).mono ?_); rintro e w' ⟨rfl, ⟨nd, rfl⟩⟩; (try exact yDr)) | ((with_reducible refine gate_dst (N := 70) rfl ?_); refine Kd.R_lit (Kd.int .i64) _ 3 ?hg (N := 70) ?hd (xs := ([x18_1, x8_2, x28_3, x10_4] : List Int)) (inner := [.int .i64 x18_1, .int .i64 x8_2, .int .i64 x28_3, .int .i64 x10_4]) (ok := fun _ => True) (okp := fun _ => True) ?hr ?hp (fun _ hk => hk) trivial (Below.refl _ _) (Nat.le_refl _) (by simp) ?_; (case hd => rfl); (case hg => rfl); (case hr => first | (go_simp; done) | (go_simp; rfl)); (case hp => exact (Reps.one (show Kd.M (Kd.int .i64) _ _ _ x18_1 [.int .i64 x18_1] from rfl) (Reps.one (show Kd.M (Kd.int .i64) _ _ _ x8_2 [.int .i64 x8_2] from rfl) (Reps.one (show Kd.M (Kd.int .i64) _ _ _ x28_3 [.int .i64 x28_3] from rfl) (Reps.one (show Kd.M (Kd.int .i64) _ _ _ x10_4 [.int .i64 x10_4] from rfl) (Reps.none _ _)))))); intro v394 w21 ho22 hb hg_ hnew_; clear hg_ hnew_; (first | rw [← Ny393.out] at ho22 | (simp only [Int.reduceToNat] at ho22; rw [← Ny393.out] at ho22)); have HO395 := aM (Kd.R_lower ho22 (below_size (xH HB.out))); replace HB := yS0 HB hb; clear hb ho22))
         repeat (go_quiet (first | (go_at_call 81; (with_reducible refine (impl_sameSum.calls x18_1 x8_2 x28_3 x10_4 true _ A19.out).mono ?_); rintro e w' ⟨rfl, ⟨nd, rfl⟩⟩; (try exact yDr)) | ((with_reducible refine gate_dst (N := 70) rfl ?_); refine Kd.R_lit (Kd.int .i64) _ 3 ?hg (N := 70) ?hd (xs := ([x18_1, x8_2, x28_3, x10_4] : List Int)) (inner := [.int .i64 x18_1, .int .i64 x8_2, .int .i64 x28_3, .int .i64 x10_4]) (ok := fun _ => True) (okp := fun _ => True) ?hr ?hp (fun _ hk => hk) trivial (Below.refl _ _) (Nat.le_refl _) (by simp) ?_; (case hd => rfl); (case hg => rfl); (case hr => first | (go_simp; done) | (go_simp; rfl)); (case hp => exact (Reps.one (show Kd.M (Kd.int .i64) _ _ _ x18_1 [.int .i64 x18_1] from rfl) (Reps.one (show Kd.M (Kd.int .i64) _ _ _ x8_2 [.int .i64 x8_2] from rfl) (Reps.one (show Kd.M (Kd.int .i64) _ _ _ x28_3 [.int .i64 x28_3] from rfl) (Reps.one (show Kd.M (Kd.int .i64) _ _ _ x10_4 [.int .i64 x10_4] from rfl) (Reps.none _ _)))))); intro v394 w21 ho22 hb hg_ hnew_; clear hg_ hnew_; (first | rw [← Ny393.out] at ho22 | (simp only [Int.reduceToNat] at ho22; rw [← Ny393.out] at ho22)); have HO395 := aM (Kd.R_lower ho22 (below_size (xH HB.out))); replace HB := yS0 HB hb; clear hb ho22)); try go_wp2_with (first | (go_at_call 81; (with_reducible refine (impl_sameSum.calls x18_1 x8_2 x28_3 x10_4 true _ A19.out).mono ?_); rintro e w' ⟨rfl, ⟨nd, rfl⟩⟩; (try exact yDr)) | ((with_reducible refine gate_dst (N := 70) rfl ?_); refine Kd.R_lit (Kd.int .i64) _ 3 ?hg (N := 70) ?hd (xs := ([x18_1, x8_2, x28_3, x10_4] : List Int)) (inner := [.int .i64 x18_1, .int .i64 x8_2, .int .i64 x28_3, .int .i64 x10_4]) (ok := fun _ => True) (okp := fun _ => True) ?hr ?hp (fun _ hk => hk) trivial (Below.refl _ _) (Nat.le_refl _) (by simp) ?_; (case hd => rfl); (case hg => rfl); (case hr => first | (go_simp; done) | (go_simp; rfl)); (case hp => exact (Reps.one (show Kd.M (Kd.int .i64) _ _ _ x18_1 [.int .i64 x18_1] from rfl) (Reps.one (show Kd.M (Kd.int .i64) _ _ _ x8_2 [.int .i64 x8_2] from rfl) (Reps.one (show Kd.M (Kd.int .i64) _ _ _ x28_3 [.int .i64 x28_3] from rfl) (Reps.one (show Kd.M (Kd.int .i64) _ _ _ x10_4 [.int .i64 x10_4] from rfl) (Reps.none _ _)))))); intro v394 w21 ho22 hb hg_ hnew_; clear hg_ hnew_; (first | rw [← Ny393.out] at ho22 | (simp only [Int.reduceToNat] at ho22; rw [← Ny393.out] at ho22)); have HO395 := aM (Kd.R_lower ho22 (below_size (xH HB.out))); replace HB := yS0 HB hb; clear hb ho22)))
         go_ret2
         exact ⟨_, yF, xR HO395.out, xH HB.out⟩
end Go.Proofs.Ytmfmgnpefjmieaa.PFnThresholdTables
