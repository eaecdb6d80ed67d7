-- Laid for this claim by a program of the session's own (wip/tool/myprint.py).
import Derived.Test.YtmfmgnpefjmieaaMFnThresholdTablesx2
namespace Go.Proofs.Ytmfmgnpefjmieaa.PFnThresholdTables
open Go.RowKit Go.Proofs.YtmfmgnpefjmieaaW.PrintWords Go.Proofs.YtmfmgnpefjmieaaW.PrintLast Go.Proofs.YtmfmgnpefjmieaaW.PrintMore
attribute [local go_sem] max2_int min2_int max_two min_two max_three min_three max_four min_four
set_option linter.unusedVariables false
set_option maxHeartbeats 8000000
set_option maxRecDepth 100000
set_option linter.unusedSimpArgs false
mutual
def spec_l5Trade.l0 : Nat → Int → List Int → List Int → Int → Option (Bool)
  | 0, _, _, _, _ => none
  | k + 1, x0, x1, x2, x7 => if x7 < (x2.length : Int) then (if 0 ≤ x7 then ((spec_l1In.f (rd x2 x7) 0 (wrap64 ((x1.length : Int) - 1))).bind fun t397 => (if t397 = true then (spec_l5Trade.l0 k x0 x1 x2 (wrap64 (x7 + 1))) else (some false))) else (none)) else (if (x2.length : Int) = 4 then (if 0 < (x2.length : Int) then (if 1 < (x2.length : Int) then (if (rd x2 0) > (rd x2 1) then (spec_l5Trade.j1 k x0 x2 true) else (if 2 < (x2.length : Int) then (if 3 < (x2.length : Int) then (if (rd x2 2) > (rd x2 3) then (spec_l5Trade.j1 k x0 x2 true) else (if 0 ≤ (rd x2 0) then (if (rd x2 0) < (x1.length : Int) then (if 0 ≤ (rd x2 1) then (if (rd x2 1) < (x1.length : Int) then (if (wrap64 ((rd x1 (rd x2 0)) + (rd x1 (rd x2 1)))) = 2 then (if 0 ≤ (rd x2 2) then (if (rd x2 2) < (x1.length : Int) then (if 0 ≤ (rd x2 3) then (if (rd x2 3) < (x1.length : Int) then (spec_l5Trade.j1 k x0 x2 ((wrap64 ((rd x1 (rd x2 2)) + (rd x1 (rd x2 3)))) != 0)) else (none)) else (none)) else (none)) else (none)) else (spec_l5Trade.j1 k x0 x2 true)) else (none)) else (none)) else (none)) else (none))) else (none)) else (none))) else (none)) else (none)) else (spec_l5Trade.j1 k x0 x2 true))
def spec_l5Trade.j1 : Nat → Int → List Int → Bool → Option (Bool)
  | 0, _, _, _ => none
  | k + 1, x0, x2, x76 => if x76 = true then (some false) else (spec_l5Trade.l1 k x0 x2 0)
def spec_l5Trade.l1 : Nat → Int → List Int → Int → Option (Bool)
  | 0, _, _, _ => none
  | k + 1, x0, x2, x8 => if x8 < x0 then (if 0 < (x2.length : Int) then (if 0 ≤ x8 then (if 1 < (x2.length : Int) then (if 2 < (x2.length : Int) then (if 3 < (x2.length : Int) then (if (wrap64 ((Go.bits .and .i64 (shr .i64 (rd x2 0) x8) 1) + (Go.bits .and .i64 (shr .i64 (rd x2 1) x8) 1))) = (wrap64 ((Go.bits .and .i64 (shr .i64 (rd x2 2) x8) 1) + (Go.bits .and .i64 (shr .i64 (rd x2 3) x8) 1))) then (spec_l5Trade.l1 k x0 x2 (wrap64 (x8 + 1))) else (some false)) else (none)) else (none)) else (none)) else (none)) else (none)) else (some true)
end
def spec_l5Trade.f (k : Nat) (a0 : Int) (l1 : List Int) (l2 : List Int) : Option (Bool) := spec_l5Trade.l0 k a0 l1 l2 0
theorem spec_l5Trade.calls (k : Nat) (a0 : Int) (A1 : Option Addr) (c1 : Nat) (l1 : List Int) (A2 : Option Addr) (c2 : Nat) (l2 : List Int) (r : Bool) (w : World) (hr1 : Kd.C (Kd.int .i64) w A1 l1.length l1) (hc1 : l1.length ≤ c1) (hr2 : Kd.C (Kd.int .i64) w A2 l2.length l2) (hc2 : l2.length ≤ c2) (h : spec_l5Trade.f k a0 l1 l2 = some r) :
    Calls Try.prog 89 #[.int .i64 a0, .slice A1 l1.length c1, .slice A2 l2.length c2] w fun e w' => e = .returned (.bool r) ∧ Drawn0 w w' := by
 have HR1 := aM hr1
 have HC1 := aM hc1
 clear hr1 hc1
 have HR2 := aM hr2
 have HC2 := aM hc2
 clear hr2 hc2
 have H : (spec_l5Trade.l0 k a0 l1 l2 0) = some r := h
 clear h
 have H' := aM H
 clear H
 go_enter Try.func89, Try.ntmps89
 go_wp2
 repeat (go_quiet (fail); try go_wp2)
 go_loopg [7] k (fun kq v7 w' => ∃ (x7_1 : Int), v7 = .int .i64 x7_1 ∧ Aside0 (spec_l5Trade.l0 kq a0 l1 l2 x7_1 = some r) ∧ Aside0 (kq ≤ k) ∧ Drawn0 w w')
 case atStart => exact ⟨(0), yZ, H', ⟨Nat.le_refl _⟩, yDn⟩
 case round =>
  clear H'
  try clear c1
  try clear c2
  obtain ⟨x7_1, rfl, HA, HK1, ⟨m1, rfl⟩⟩ := hrel
  cases gk with
  | zero => exact absurd HA.out (by simp [spec_l5Trade.l0])
  | succ k1 =>
   have H := HA.out
   clear HA
   simp only [spec_l5Trade.l0] at H
   obtain ⟨-, c4b0, H⟩ | ⟨c4, c4b0, H⟩ := yif H
   ·
    obtain ⟨-, c5b0, H⟩ | ⟨c5, -, H⟩ := yif H
    rotate_left
    · exact absurd H (by simp)
    replace H := oB.mp H
    obtain ⟨t397, A60, H⟩ := H
    have A6 := aM A60
    clear A60
    by_cases c7 : t397 = true
    rotate_left
    ·
     replace c7 := Bool.eq_false_iff.mpr c7
     subst c7
     rw [if_neg (show ¬ (false = true) by decide)] at H
     obtain rfl := Option.some.inj H
     obtain ⟨ad396, e396, hx396_0, p396, q396⟩ := yi HR2.out x7_1
     cases e396
     go_wp2_with (first | (go_at_call 111; (with_reducible refine (spec_l1In.calls (rd l2 x7_1) 0 (wrap64 ((l1.length : Int) - 1)) false _ A6.out).mono ?_); rintro e w' ⟨rfl, ⟨nd, rfl⟩⟩; (try exact yDr)))
     repeat (go_quiet (first | (go_at_call 111; (with_reducible refine (spec_l1In.calls (rd l2 x7_1) 0 (wrap64 ((l1.length : Int) - 1)) false _ A6.out).mono ?_); rintro e w' ⟨rfl, ⟨nd, rfl⟩⟩; (try exact yDr))); try go_wp2_with (first | (go_at_call 111; (with_reducible refine (spec_l1In.calls (rd l2 x7_1) 0 (wrap64 ((l1.length : Int) - 1)) false _ A6.out).mono ?_); rintro e w' ⟨rfl, ⟨nd, rfl⟩⟩; (try exact yDr))))
     go_ret
     exact ⟨yZ, yDn⟩
    subst c7
    rw [if_pos rfl] at H
    have H' := aM H
    clear H
    obtain ⟨ad396, e396, hx396_0, p396, q396⟩ := yi HR2.out x7_1
    cases e396
    go_wp2_with (first | (go_at_call 111; (with_reducible refine (spec_l1In.calls (rd l2 x7_1) 0 (wrap64 ((l1.length : Int) - 1)) true _ A6.out).mono ?_); rintro e w' ⟨rfl, ⟨nd, rfl⟩⟩; (try exact yDr)))
    repeat (go_quiet (first | (go_at_call 111; (with_reducible refine (spec_l1In.calls (rd l2 x7_1) 0 (wrap64 ((l1.length : Int) - 1)) true _ A6.out).mono ?_); rintro e w' ⟨rfl, ⟨nd, rfl⟩⟩; (try exact yDr))); try go_wp2_with (first | (go_at_call 111; (with_reducible refine (spec_l1In.calls (rd l2 x7_1) 0 (wrap64 ((l1.length : Int) - 1)) true _ A6.out).mono ?_); rintro e w' ⟨rfl, ⟨nd, rfl⟩⟩; (try exact yDr))))
    go_roundg k1
    case measure => have := HK1.out; omega
    case rel => exact ⟨(wrap64 (x7_1 + 1)), yZ, H', ⟨by have := HK1.out; omega⟩, yDn⟩
   clear c4
   have HC8 := aM H
   clear H
   go_upto_region 6 with (fail)
   repeat (go_quiet (fail); go_upto_region 6 with (fail))
   go_cut [76] (fun v76 wc => ∃ (kq : Nat) (x76_7 : Bool), v76 = .bool x76_7 ∧ Aside0 (spec_l5Trade.j1 kq a0 l2 x76_7 = some r) ∧ Aside0 (kq ≤ k1) ∧ Drawn0 w wc)
   case first =>
    have H := HC8.out
    clear HC8
    obtain ⟨c9, -, H⟩ | ⟨c9, -, H⟩ := yif H
    rotate_left
    ·
     have c9b0 : ((l2.length : Int) == 4) = false := beq_eq_false_iff_ne.mpr c9
     have c9b1 : ((l2.length : Int) != 4) = true := bne_iff_ne.mpr c9
     (first | rw [c9b0] | (simp only [i64_w, i32_w]; rw [c9b0]) | rw [c9b1] | skip)
     have H' := aM H
     clear H
     go_wp2
     repeat (go_quiet (fail); try go_wp2)
     go_meet
     case rel => exact ⟨_, (true), yZ, H', ⟨by have := HK1.out; first | omega | exact Nat.le_refl _⟩, yDn⟩
    have c9b0 : ((l2.length : Int) == 4) = true := beq_iff_eq.mpr c9
    have c9b1 : ((l2.length : Int) != 4) = false := bne_eq_false_iff_eq.mpr c9
    clear c9
    (first | rw [c9b0] | (simp only [i64_w, i32_w]; rw [c9b0]) | rw [c9b1] | skip)
    obtain ⟨c10, c10b0, H⟩ | ⟨c10, -, H⟩ := yif H
    rotate_left
    · exact absurd H (by simp)
    have c10b1 : decide (0 < l2.length) = true := decide_eq_true (by omega)
    clear c10
    obtain ⟨c11, c11b0, H⟩ | ⟨c11, -, H⟩ := yif H
    rotate_left
    · exact absurd H (by simp)
    have c11b1 : decide (1 < l2.length) = true := decide_eq_true (by omega)
    clear c11
    obtain ⟨c12, -, H⟩ | ⟨c12, -, H⟩ := yif H
    ·
     have c12b0 : decide ((rd l2 1) < (rd l2 0)) = true := decide_eq_true c12
     clear c12
     have H' := aM H
     clear H
     obtain ⟨ad398, e398, hx398_0, p398, q398⟩ := yi HR2.out 0
     cases e398
     have qi398 : (0 < l2.length) = True := eq_true (by have q_ := of_eq_true q398; omega)
     (try rw [show ((0 : Int)).toNat = 0 from rfl] at hx398_0)
     (try rw [Addr.add_zero'] at hx398_0)
     obtain ⟨ad399, e399, hx399_0, p399, q399⟩ := yi HR2.out 1
     obtain rfl : ad398 = ad399 := (by injection e399)
     (try simp only [show (1 : Int).toNat = 1 from rfl, Nat.reduceMul, Nat.reduceEqDiff, Go.Addr.add, ↓reduceIte] at hx399_0)
     have qi399 : (1 < l2.length) = True := eq_true (by have q_ := of_eq_true q399; omega)
     (try rw [show ((1 : Int)).toNat = 1 from rfl] at hx399_0)
     go_wp2
     repeat (go_quiet (fail); try go_wp2)
     go_meet
     case rel => exact ⟨_, (true), yZ, H', ⟨by have := HK1.out; first | omega | exact Nat.le_refl _⟩, yDn⟩
    have c12b0 : decide ((rd l2 1) < (rd l2 0)) = false := decide_eq_false c12
    clear c12
    obtain ⟨c13, c13b0, H⟩ | ⟨c13, -, H⟩ := yif H
    rotate_left
    · exact absurd H (by simp)
    have c13b1 : decide (2 < l2.length) = true := decide_eq_true (by omega)
    clear c13
    obtain ⟨c14, c14b0, H⟩ | ⟨c14, -, H⟩ := yif H
    rotate_left
    · exact absurd H (by simp)
    have c14b1 : decide (3 < l2.length) = true := decide_eq_true (by omega)
    clear c14
    obtain ⟨c15, -, H⟩ | ⟨c15, -, H⟩ := yif H
    ·
     have c15b0 : decide ((rd l2 3) < (rd l2 2)) = true := decide_eq_true c15
     clear c15
     have H' := aM H
     clear H
     obtain ⟨ad398, e398, hx398_0, p398, q398⟩ := yi HR2.out 0
     cases e398
     have qi398 : (0 < l2.length) = True := eq_true (by have q_ := of_eq_true q398; omega)
     (try rw [show ((0 : Int)).toNat = 0 from rfl] at hx398_0)
     (try rw [Addr.add_zero'] at hx398_0)
     obtain ⟨ad399, e399, hx399_0, p399, q399⟩ := yi HR2.out 1
     obtain rfl : ad398 = ad399 := (by injection e399)
     (try simp only [show (1 : Int).toNat = 1 from rfl, Nat.reduceMul, Nat.reduceEqDiff, Go.Addr.add, ↓reduceIte] at hx399_0)
     have qi399 : (1 < l2.length) = True := eq_true (by have q_ := of_eq_true q399; omega)
     (try rw [show ((1 : Int)).toNat = 1 from rfl] at hx399_0)
     obtain ⟨ad400, e400, hx400_0, p400, q400⟩ := yi HR2.out 2
     obtain rfl : ad398 = ad400 := (by injection e400)
     (try simp only [show (2 : Int).toNat = 2 from rfl, Nat.reduceMul, Nat.reduceEqDiff, Go.Addr.add, ↓reduceIte] at hx400_0)
     have qi400 : (2 < l2.length) = True := eq_true (by have q_ := of_eq_true q400; omega)
     (try rw [show ((2 : Int)).toNat = 2 from rfl] at hx400_0)
     obtain ⟨ad401, e401, hx401_0, p401, q401⟩ := yi HR2.out 3
     obtain rfl : ad398 = ad401 := (by injection e401)
     (try simp only [show (3 : Int).toNat = 3 from rfl, Nat.reduceMul, Nat.reduceEqDiff, Go.Addr.add, ↓reduceIte] at hx401_0)
     have qi401 : (3 < l2.length) = True := eq_true (by have q_ := of_eq_true q401; omega)
     (try rw [show ((3 : Int)).toNat = 3 from rfl] at hx401_0)
     go_wp2
     repeat (go_quiet (fail); try go_wp2)
     go_meet
     case rel => exact ⟨_, (true), yZ, H', ⟨by have := HK1.out; first | omega | exact Nat.le_refl _⟩, yDn⟩
    have c15b0 : decide ((rd l2 3) < (rd l2 2)) = false := decide_eq_false c15
    clear c15
    obtain ⟨-, c16b0, H⟩ | ⟨c16, -, H⟩ := yif H
    rotate_left
    · exact absurd H (by simp)
    obtain ⟨-, c17b0, H⟩ | ⟨c17, -, H⟩ := yif H
    rotate_left
    · exact absurd H (by simp)
    obtain ⟨-, c18b0, H⟩ | ⟨c18, -, H⟩ := yif H
    rotate_left
    · exact absurd H (by simp)
    obtain ⟨-, c19b0, H⟩ | ⟨c19, -, H⟩ := yif H
    rotate_left
    · exact absurd H (by simp)
    obtain ⟨c20, -, H⟩ | ⟨c20, -, H⟩ := yif H
    rotate_left
    ·
     have c20b0 : ((wrap64 ((rd l1 (rd l2 0)) + (rd l1 (rd l2 1)))) == 2) = false := beq_eq_false_iff_ne.mpr c20
     have c20i0 : ((IntKind.i64.wrap ((rd l1 (rd l2 0)) + (rd l1 (rd l2 1)))) == 2) = false := by rw [i64_w]; exact c20b0
     have c20b1 : ((wrap64 ((rd l1 (rd l2 0)) + (rd l1 (rd l2 1)))) != 2) = true := bne_iff_ne.mpr c20
     have H' := aM H
     clear H
     obtain ⟨ad398, e398, hx398_0, p398, q398⟩ := yi HR2.out 0
     cases e398
     have qi398 : (0 < l2.length) = True := eq_true (by have q_ := of_eq_true q398; omega)
     (try rw [show ((0 : Int)).toNat = 0 from rfl] at hx398_0)
     (try rw [Addr.add_zero'] at hx398_0)
     obtain ⟨ad399, e399, hx399_0, p399, q399⟩ := yi HR2.out 1
     obtain rfl : ad398 = ad399 := (by injection e399)
     (try simp only [show (1 : Int).toNat = 1 from rfl, Nat.reduceMul, Nat.reduceEqDiff, Go.Addr.add, ↓reduceIte] at hx399_0)
     have qi399 : (1 < l2.length) = True := eq_true (by have q_ := of_eq_true q399; omega)
     (try rw [show ((1 : Int)).toNat = 1 from rfl] at hx399_0)
     obtain ⟨ad400, e400, hx400_0, p400, q400⟩ := yi HR2.out 2
     obtain rfl : ad398 = ad400 := (by injection e400)
     (try simp only [show (2 : Int).toNat = 2 from rfl, Nat.reduceMul, Nat.reduceEqDiff, Go.Addr.add, ↓reduceIte] at hx400_0)
     have qi400 : (2 < l2.length) = True := eq_true (by have q_ := of_eq_true q400; omega)
     (try rw [show ((2 : Int)).toNat = 2 from rfl] at hx400_0)
     obtain ⟨ad401, e401, hx401_0, p401, q401⟩ := yi HR2.out 3
     obtain rfl : ad398 = ad401 := (by injection e401)
     (try simp only [show (3 : Int).toNat = 3 from rfl, Nat.reduceMul, Nat.reduceEqDiff, Go.Addr.add, ↓reduceIte] at hx401_0)
     have qi401 : (3 < l2.length) = True := eq_true (by have q_ := of_eq_true q401; omega)
     (try rw [show ((3 : Int)).toNat = 3 from rfl] at hx401_0)
     obtain ⟨ad402, e402, hx402_0, p402, q402⟩ := yi HR2.out 0
     obtain rfl : ad398 = ad402 := (by injection e402)
     have qi402 : (0 < l2.length) = True := eq_true (by have q_ := of_eq_true q402; omega)
     (try rw [show ((0 : Int)).toNat = 0 from rfl] at hx402_0)
     (try rw [Addr.add_zero'] at hx402_0)
     obtain ⟨ad403, e403, hx403_0, p403, q403⟩ := yi HR1.out (rd l2 0)
     cases e403
     obtain ⟨ad404, e404, hx404_0, p404, q404⟩ := yi HR2.out 1
     obtain rfl : ad398 = ad404 := (by injection e404)
     (try simp only [show (1 : Int).toNat = 1 from rfl, Nat.reduceMul, Nat.reduceEqDiff, Go.Addr.add, ↓reduceIte] at hx404_0)
     have qi404 : (1 < l2.length) = True := eq_true (by have q_ := of_eq_true q404; omega)
     (try rw [show ((1 : Int)).toNat = 1 from rfl] at hx404_0)
     obtain ⟨ad405, e405, hx405_0, p405, q405⟩ := yi HR1.out (rd l2 1)
     obtain rfl : ad403 = ad405 := (by injection e405)
     go_wp2
     repeat (go_quiet (fail); try go_wp2)
     go_meet
     case rel => exact ⟨_, (true), yZ, H', ⟨by have := HK1.out; first | omega | exact Nat.le_refl _⟩, yDn⟩
    have c20b0 : ((wrap64 ((rd l1 (rd l2 0)) + (rd l1 (rd l2 1)))) == 2) = true := beq_iff_eq.mpr c20
    have c20i0 : ((IntKind.i64.wrap ((rd l1 (rd l2 0)) + (rd l1 (rd l2 1)))) == 2) = true := by rw [i64_w]; exact c20b0
    have c20b1 : ((wrap64 ((rd l1 (rd l2 0)) + (rd l1 (rd l2 1)))) != 2) = false := bne_eq_false_iff_eq.mpr c20
    clear c20
    obtain ⟨-, c21b0, H⟩ | ⟨c21, -, H⟩ := yif H
    rotate_left
    · exact absurd H (by simp)
    obtain ⟨-, c22b0, H⟩ | ⟨c22, -, H⟩ := yif H
    rotate_left
    · exact absurd H (by simp)
    obtain ⟨-, c23b0, H⟩ | ⟨c23, -, H⟩ := yif H
    rotate_left
    · exact absurd H (by simp)
    obtain ⟨-, c24b0, H⟩ | ⟨c24, -, H⟩ := yif H
    rotate_left
    · exact absurd H (by simp)
    have H' := aM H
    clear H
    obtain ⟨ad398, e398, hx398_0, p398, q398⟩ := yi HR2.out 0
    cases e398
    have qi398 : (0 < l2.length) = True := eq_true (by have q_ := of_eq_true q398; omega)
    (try rw [show ((0 : Int)).toNat = 0 from rfl] at hx398_0)
    (try rw [Addr.add_zero'] at hx398_0)
    obtain ⟨ad399, e399, hx399_0, p399, q399⟩ := yi HR2.out 1
    obtain rfl : ad398 = ad399 := (by injection e399)
    (try simp only [show (1 : Int).toNat = 1 from rfl, Nat.reduceMul, Nat.reduceEqDiff, Go.Addr.add, ↓reduceIte] at hx399_0)
    have qi399 : (1 < l2.length) = True := eq_true (by have q_ := of_eq_true q399; omega)
    (try rw [show ((1 : Int)).toNat = 1 from rfl] at hx399_0)
    obtain ⟨ad400, e400, hx400_0, p400, q400⟩ := yi HR2.out 2
    obtain rfl : ad398 = ad400 := (by injection e400)
    (try simp only [show (2 : Int).toNat = 2 from rfl, Nat.reduceMul, Nat.reduceEqDiff, Go.Addr.add, ↓reduceIte] at hx400_0)
    have qi400 : (2 < l2.length) = True := eq_true (by have q_ := of_eq_true q400; omega)
    (try rw [show ((2 : Int)).toNat = 2 from rfl] at hx400_0)
    obtain ⟨ad401, e401, hx401_0, p401, q401⟩ := yi HR2.out 3
    obtain rfl : ad398 = ad401 := (by injection e401)
    (try simp only [show (3 : Int).toNat = 3 from rfl, Nat.reduceMul, Nat.reduceEqDiff, Go.Addr.add, ↓reduceIte] at hx401_0)
    have qi401 : (3 < l2.length) = True := eq_true (by have q_ := of_eq_true q401; omega)
    (try rw [show ((3 : Int)).toNat = 3 from rfl] at hx401_0)
    obtain ⟨ad402, e402, hx402_0, p402, q402⟩ := yi HR2.out 0
    obtain rfl : ad398 = ad402 := (by injection e402)
    have qi402 : (0 < l2.length) = True := eq_true (by have q_ := of_eq_true q402; omega)
    (try rw [show ((0 : Int)).toNat = 0 from rfl] at hx402_0)
    (try rw [Addr.add_zero'] at hx402_0)
    obtain ⟨ad403, e403, hx403_0, p403, q403⟩ := yi HR1.out (rd l2 0)
    cases e403
    obtain ⟨ad404, e404, hx404_0, p404, q404⟩ := yi HR2.out 1
    obtain rfl : ad398 = ad404 := (by injection e404)
    (try simp only [show (1 : Int).toNat = 1 from rfl, Nat.reduceMul, Nat.reduceEqDiff, Go.Addr.add, ↓reduceIte] at hx404_0)
    have qi404 : (1 < l2.length) = True := eq_true (by have q_ := of_eq_true q404; omega)
    (try rw [show ((1 : Int)).toNat = 1 from rfl] at hx404_0)
    obtain ⟨ad405, e405, hx405_0, p405, q405⟩ := yi HR1.out (rd l2 1)
    obtain rfl : ad403 = ad405 := (by injection e405)
    obtain ⟨ad406, e406, hx406_0, p406, q406⟩ := yi HR2.out 2
    obtain rfl : ad398 = ad406 := (by injection e406)
    (try simp only [show (2 : Int).toNat = 2 from rfl, Nat.reduceMul, Nat.reduceEqDiff, Go.Addr.add, ↓reduceIte] at hx406_0)
    have qi406 : (2 < l2.length) = True := eq_true (by have q_ := of_eq_true q406; omega)
    (try rw [show ((2 : Int)).toNat = 2 from rfl] at hx406_0)
    obtain ⟨ad407, e407, hx407_0, p407, q407⟩ := yi HR1.out (rd l2 2)
    obtain rfl : ad403 = ad407 := (by injection e407)
    obtain ⟨ad408, e408, hx408_0, p408, q408⟩ := yi HR2.out 3
    obtain rfl : ad398 = ad408 := (by injection e408)
    (try simp only [show (3 : Int).toNat = 3 from rfl, Nat.reduceMul, Nat.reduceEqDiff, Go.Addr.add, ↓reduceIte] at hx408_0)
    have qi408 : (3 < l2.length) = True := eq_true (by have q_ := of_eq_true q408; omega)
    (try rw [show ((3 : Int)).toNat = 3 from rfl] at hx408_0)
    obtain ⟨ad409, e409, hx409_0, p409, q409⟩ := yi HR1.out (rd l2 3)
    obtain rfl : ad403 = ad409 := (by injection e409)
    go_wp2
    repeat (go_quiet (fail); try go_wp2)
    go_meet
    case rel => exact ⟨_, (((wrap64 ((rd l1 (rd l2 2)) + (rd l1 (rd l2 3)))) != 0)), yZ, H', ⟨by have := HK1.out; first | omega | exact Nat.le_refl _⟩, yDn⟩
   case rest =>
    clear HC8
    try clear c4
    try clear c4b0
    try clear c5
    try clear c5b0
    try clear c7
    try clear c9
    try clear c9b0
    try clear c9b1
    try clear c10
    try clear c10b0
    try clear c10b1
    try clear c11
    try clear c11b0
    try clear c11b1
    try clear c12
    try clear c12b0
    try clear c13
    try clear c13b0
    try clear c13b1
    try clear c14
    try clear c14b0
    try clear c14b1
    try clear c15
    try clear c15b0
    try clear c16
    try clear c16b0
    try clear c17
    try clear c17b0
    try clear c18
    try clear c18b0
    try clear c19
    try clear c19b0
    try clear c20
    try clear c20b0
    try clear c20b1
    try clear c21
    try clear c21b0
    try clear c22
    try clear c22b0
    try clear c23
    try clear c23b0
    try clear c24
    try clear c24b0
    try clear hx396_0
    try clear hx398_0
    try clear hx399_0
    try clear hx400_0
    try clear hx401_0
    try clear hx402_0
    try clear hx403_0
    try clear hx404_0
    try clear hx405_0
    try clear hx406_0
    try clear hx407_0
    try clear hx408_0
    try clear hx409_0
    try clear p396
    try clear p398
    try clear p399
    try clear p400
    try clear p401
    try clear p402
    try clear p403
    try clear p404
    try clear p405
    try clear p406
    try clear p407
    try clear p408
    try clear p409
    try clear q396
    try clear q398
    try clear q399
    try clear q400
    try clear q401
    try clear q402
    try clear q403
    try clear q404
    try clear q405
    try clear q406
    try clear q407
    try clear q408
    try clear q409
    obtain ⟨kq, x76_7, rfl, HA, HJ7, ⟨mc7, rfl⟩⟩ := hcut
    cases kq with
    | zero => exact absurd HA.out (by simp [spec_l5Trade.j1])
    | succ kj7 =>
     have H := HA.out
     clear HA
     simp only [spec_l5Trade.j1] at H
     by_cases c25 : x76_7 = true
     ·
      subst c25
      rw [if_pos rfl] at H
      obtain rfl := Option.some.inj H
      go_wp2
      repeat (go_quiet (fail); try go_wp2)
      go_ret
      exact ⟨yZ, yDn⟩
     replace c25 := Bool.eq_false_iff.mpr c25
     subst c25
     rw [if_neg (show ¬ (false = true) by decide)] at H
     have H' := aM H
     clear H
     go_wp2
     repeat (go_quiet (fail); try go_wp2)
     go_loopg [8] kj7 (fun kq v8 w' => ∃ (x8_3 : Int), v8 = .int .i64 x8_3 ∧ Aside0 (spec_l5Trade.l1 kq a0 l2 x8_3 = some r) ∧ Aside0 (kq ≤ kj7) ∧ Drawn0 w w')
     case atStart => exact ⟨(0), yZ, H', ⟨Nat.le_refl _⟩, yDn⟩
     case round =>
      clear H'
      try clear c25
      obtain ⟨x8_3, rfl, HA, HK3, ⟨m3, rfl⟩⟩ := hrel
      cases gk with
      | zero => exact absurd HA.out (by simp [spec_l5Trade.l1])
      | succ k3 =>
       have H := HA.out
       clear HA
       simp only [spec_l5Trade.l1] at H
       obtain ⟨-, c26b0, H⟩ | ⟨-, c26b0, H⟩ := yif H
       rotate_left
       ·
        obtain rfl := Option.some.inj H
        go_wp2
        repeat (go_quiet (fail); try go_wp2)
        go_ret
        exact ⟨yZ, yDn⟩
       obtain ⟨c27, c27b0, H⟩ | ⟨c27, -, H⟩ := yif H
       rotate_left
       · exact absurd H (by simp)
       have c27b1 : decide (0 < l2.length) = true := decide_eq_true (by omega)
       clear c27
       obtain ⟨c28, -, H⟩ | ⟨c28, -, H⟩ := yif H
       rotate_left
       · exact absurd H (by simp)
       have c28b0 := eq_true c28
       have c28b1 : decide (0 ≤ x8_3) = true := decide_eq_true c28
       clear c28
       obtain ⟨ji29, hji29⟩ := yJ ((shr .i64 (rd l2 0) x8_3))
       (first | rw [hji29] at H | simp only [hji29] at H)
       have hji29_ : ((rd l2 0) / 2 ^ min x8_3.toNat 64) = ji29 := hji29
       have hji29z : x8_3 ≤ 64 → ((rd l2 0) / 2 ^ x8_3.toNat) = ji29 := shr_small hji29
       obtain ⟨c30, c30b0, H⟩ | ⟨c30, -, H⟩ := yif H
       rotate_left
       · exact absurd H (by simp)
       have c30b1 : decide (1 < l2.length) = true := decide_eq_true (by omega)
       clear c30
       have c31b0 := eq_true (yA : 0 ≤ x8_3)
       obtain ⟨ji32, hji32⟩ := yJ ((shr .i64 (rd l2 1) x8_3))
       (first | rw [hji32] at H | simp only [hji32] at H)
       have hji32_ : ((rd l2 1) / 2 ^ min x8_3.toNat 64) = ji32 := hji32
       have hji32z : x8_3 ≤ 64 → ((rd l2 1) / 2 ^ x8_3.toNat) = ji32 := shr_small hji32
       obtain ⟨c33, c33b0, H⟩ | ⟨c33, -, H⟩ := yif H
       rotate_left
       · exact absurd H (by simp)
       have c33b1 : decide (2 < l2.length) = true := decide_eq_true (by omega)
       clear c33
       have c34b0 := eq_true (yA : 0 ≤ x8_3)
       obtain ⟨ji35, hji35⟩ := yJ ((shr .i64 (rd l2 2) x8_3))
       (first | rw [hji35] at H | simp only [hji35] at H)
       have hji35_ : ((rd l2 2) / 2 ^ min x8_3.toNat 64) = ji35 := hji35
       have hji35z : x8_3 ≤ 64 → ((rd l2 2) / 2 ^ x8_3.toNat) = ji35 := shr_small hji35
       obtain ⟨c36, c36b0, H⟩ | ⟨c36, -, H⟩ := yif H
       rotate_left
       · exact absurd H (by simp)
       have c36b1 : decide (3 < l2.length) = true := decide_eq_true (by omega)
       clear c36
       have c37b0 := eq_true (yA : 0 ≤ x8_3)
       obtain ⟨ji38, hji38⟩ := yJ ((shr .i64 (rd l2 3) x8_3))
       (first | rw [hji38] at H | simp only [hji38] at H)
       have hji38_ : ((rd l2 3) / 2 ^ min x8_3.toNat 64) = ji38 := hji38
       have hji38z : x8_3 ≤ 64 → ((rd l2 3) / 2 ^ x8_3.toNat) = ji38 := shr_small hji38
       obtain ⟨c39, -, H⟩ | ⟨c39, -, H⟩ := yif H
       rotate_left
       ·
        have c39b0 : ((wrap64 ((Go.bits .and .i64 (ji29) 1) + (Go.bits .and .i64 (ji32) 1))) == (wrap64 ((Go.bits .and .i64 (ji35) 1) + (Go.bits .and .i64 (ji38) 1)))) = false := beq_eq_false_iff_ne.mpr c39
        have c39i0 : ((IntKind.i64.wrap ((Go.bits .and .i64 (ji29) 1) + (Go.bits .and .i64 (ji32) 1))) == (wrap64 ((Go.bits .and .i64 (ji35) 1) + (Go.bits .and .i64 (ji38) 1)))) = false := by rw [i64_w]; exact c39b0
        have c39b1 : ((wrap64 ((Go.bits .and .i64 (ji29) 1) + (Go.bits .and .i64 (ji32) 1))) != (wrap64 ((Go.bits .and .i64 (ji35) 1) + (Go.bits .and .i64 (ji38) 1)))) = true := bne_iff_ne.mpr c39
        obtain rfl := Option.some.inj H
        obtain ⟨ad410, e410, hx410_0, p410, q410⟩ := yi HR2.out 0
        cases e410
        have qi410 : (0 < l2.length) = True := eq_true (by have q_ := of_eq_true q410; omega)
        (try rw [show ((0 : Int)).toNat = 0 from rfl] at hx410_0)
        (try rw [Addr.add_zero'] at hx410_0)
        obtain ⟨ad411, e411, hx411_0, p411, q411⟩ := yi HR2.out 1
        obtain rfl : ad410 = ad411 := (by injection e411)
        (try simp only [show (1 : Int).toNat = 1 from rfl, Nat.reduceMul, Nat.reduceEqDiff, Go.Addr.add, ↓reduceIte] at hx411_0)
        have qi411 : (1 < l2.length) = True := eq_true (by have q_ := of_eq_true q411; omega)
        (try rw [show ((1 : Int)).toNat = 1 from rfl] at hx411_0)
        obtain ⟨ad412, e412, hx412_0, p412, q412⟩ := yi HR2.out 2
        obtain rfl : ad410 = ad412 := (by injection e412)
        (try simp only [show (2 : Int).toNat = 2 from rfl, Nat.reduceMul, Nat.reduceEqDiff, Go.Addr.add, ↓reduceIte] at hx412_0)
        have qi412 : (2 < l2.length) = True := eq_true (by have q_ := of_eq_true q412; omega)
        (try rw [show ((2 : Int)).toNat = 2 from rfl] at hx412_0)
        obtain ⟨ad413, e413, hx413_0, p413, q413⟩ := yi HR2.out 3
        obtain rfl : ad410 = ad413 := (by injection e413)
        (try simp only [show (3 : Int).toNat = 3 from rfl, Nat.reduceMul, Nat.reduceEqDiff, Go.Addr.add, ↓reduceIte] at hx413_0)
        have qi413 : (3 < l2.length) = True := eq_true (by have q_ := of_eq_true q413; omega)
        (try rw [show ((3 : Int)).toNat = 3 from rfl] at hx413_0)
        go_wp2
        repeat (go_quiet (fail); try go_wp2)
        go_ret
        exact ⟨by first | rfl | (simp; done) | (simp only [← hji29, ← hji32, ← hji35, ← hji38] <;> (first | rfl | simp)) | (simp [*]; done), yDn⟩
       have c39b0 : ((wrap64 ((Go.bits .and .i64 (ji29) 1) + (Go.bits .and .i64 (ji32) 1))) == (wrap64 ((Go.bits .and .i64 (ji35) 1) + (Go.bits .and .i64 (ji38) 1)))) = true := beq_iff_eq.mpr c39
       have c39i0 : ((IntKind.i64.wrap ((Go.bits .and .i64 (ji29) 1) + (Go.bits .and .i64 (ji32) 1))) == (wrap64 ((Go.bits .and .i64 (ji35) 1) + (Go.bits .and .i64 (ji38) 1)))) = true := by rw [i64_w]; exact c39b0
       have c39b1 : ((wrap64 ((Go.bits .and .i64 (ji29) 1) + (Go.bits .and .i64 (ji32) 1))) != (wrap64 ((Go.bits .and .i64 (ji35) 1) + (Go.bits .and .i64 (ji38) 1)))) = false := bne_eq_false_iff_eq.mpr c39
       clear c39
       have H' := aM H
       clear H
       obtain ⟨ad410, e410, hx410_0, p410, q410⟩ := yi HR2.out 0
       cases e410
       have qi410 : (0 < l2.length) = True := eq_true (by have q_ := of_eq_true q410; omega)
       (try rw [show ((0 : Int)).toNat = 0 from rfl] at hx410_0)
       (try rw [Addr.add_zero'] at hx410_0)
       obtain ⟨ad411, e411, hx411_0, p411, q411⟩ := yi HR2.out 1
       obtain rfl : ad410 = ad411 := (by injection e411)
       (try simp only [show (1 : Int).toNat = 1 from rfl, Nat.reduceMul, Nat.reduceEqDiff, Go.Addr.add, ↓reduceIte] at hx411_0)
       have qi411 : (1 < l2.length) = True := eq_true (by have q_ := of_eq_true q411; omega)
       (try rw [show ((1 : Int)).toNat = 1 from rfl] at hx411_0)
       obtain ⟨ad412, e412, hx412_0, p412, q412⟩ := yi HR2.out 2
       obtain rfl : ad410 = ad412 := (by injection e412)
       (try simp only [show (2 : Int).toNat = 2 from rfl, Nat.reduceMul, Nat.reduceEqDiff, Go.Addr.add, ↓reduceIte] at hx412_0)
       have qi412 : (2 < l2.length) = True := eq_true (by have q_ := of_eq_true q412; omega)
       (try rw [show ((2 : Int)).toNat = 2 from rfl] at hx412_0)
       obtain ⟨ad413, e413, hx413_0, p413, q413⟩ := yi HR2.out 3
       obtain rfl : ad410 = ad413 := (by injection e413)
       (try simp only [show (3 : Int).toNat = 3 from rfl, Nat.reduceMul, Nat.reduceEqDiff, Go.Addr.add, ↓reduceIte] at hx413_0)
       have qi413 : (3 < l2.length) = True := eq_true (by have q_ := of_eq_true q413; omega)
       (try rw [show ((3 : Int)).toNat = 3 from rfl] at hx413_0)
       go_wp2
       repeat (go_quiet (fail); try go_wp2)
       go_roundg k3
       case measure => have := HK1.out; have := HJ7.out; have := HK3.out; omega
       case rel => exact ⟨(wrap64 (x8_3 + 1)), yZ, H', ⟨by have := HK1.out; have := HJ7.out; have := HK3.out; omega⟩, yDn⟩
end Go.Proofs.Ytmfmgnpefjmieaa.PFnThresholdTables
