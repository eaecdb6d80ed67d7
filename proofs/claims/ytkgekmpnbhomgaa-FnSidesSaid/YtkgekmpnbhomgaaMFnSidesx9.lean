-- Laid for this claim by a program of the session's own (wip/tool/myprint.py).
import Derived.Test.YtkgekmpnbhomgaaMFnSidesx8
namespace Go.Proofs.Ytkgekmpnbhomgaa.PFnSides
open Go.RowKit Go.Proofs.YtkgekmpnbhomgaaW.PrintWords Go.Proofs.YtkgekmpnbhomgaaW.PrintLast Go.Proofs.YtkgekmpnbhomgaaW.PrintMore
attribute [local go_sem] max2_int min2_int max_two min_two max_three min_three max_four min_four
set_option linter.unusedVariables false
set_option maxHeartbeats 8000000
set_option maxRecDepth 100000
set_option linter.unusedSimpArgs false
mutual
def spec_l2Sample.j0 : Nat → Bool → List (List Int) → List Int → Option (Bool)
  | 0, _, _, _ => none
  | k + 1, x22, x419000, x419001 => if x22 = true then (some false) else (spec_l2Sample.l0 k 0 x419000 x419001)
def spec_l2Sample.l0 : Nat → Int → List (List Int) → List Int → Option (Bool)
  | 0, _, _, _ => none
  | k + 1, x3, x419000, x419001 => if x3 < (x419000.length : Int) then (if 0 ≤ x3 then ((spec_l2Point.f k (rd_L2 x419000 x3)).bind fun t421 => (if t421 = true then (if 0 < (x419000.length : Int) then (if ((rd_L2 x419000 x3).length : Int) = ((rd_L2 x419000 0).length : Int) then (spec_l2Sample.l0 k (wrap64 (x3 + 1)) x419000 x419001) else (some false)) else (none)) else (some false))) else (none)) else (some true)
end
def spec_l2Sample.f (k : Nat) (l0_0 : List (List Int)) (l0_1 : List Int) : Option (Bool) := if (l0_0.length : Int) > 16 then (spec_l2Sample.j0 k true l0_0 l0_1) else (if (l0_1.length : Int) = (l0_0.length : Int) then ((spec_l2Labels.f k l0_1).bind fun t419 => (spec_l2Sample.j0 k (!t419) l0_0 l0_1)) else (spec_l2Sample.j0 k true l0_0 l0_1))
theorem spec_l2Sample.calls (k : Nat) (A0_0 : Option Addr) (c0_0 : Nat) (l0_0 : List (List Int)) (A0_1 : Option Addr) (c0_1 : Nat) (l0_1 : List Int) (r : Bool) (w : World) (hr0_0 : Kd.C (Kd.slice 3 (Kd.int .i64)) w A0_0 l0_0.length l0_0) (hc0_0 : l0_0.length ≤ c0_0) (hr0_1 : Kd.C (Kd.int .i64) w A0_1 l0_1.length l0_1) (hc0_1 : l0_1.length ≤ c0_1) (h : spec_l2Sample.f k l0_0 l0_1 = some r) :
    Calls Try.prog 83 #[.agg #[.slice A0_0 l0_0.length c0_0, .slice A0_1 l0_1.length c0_1]] w fun e w' => e = .returned (.bool r) ∧ Below w.heap.size w w' := by
 have hu36 := Try.underlying36; have HR0_0 := aM hr0_0; have HC0_0 := aM hc0_0; clear hr0_0 hc0_0; have HR0_1 := aM hr0_1; have HC0_1 := aM hc0_1; clear hr0_1 hc0_1; have HB := aM (Below.refl w.heap.size w); have H : (if (l0_0.length : Int) > 16 then (spec_l2Sample.j0 k true l0_0 l0_1) else (if (l0_1.length : Int) = (l0_0.length : Int) then ((spec_l2Labels.f k l0_1).bind fun t419 => (spec_l2Sample.j0 k (!t419) l0_0 l0_1)) else (spec_l2Sample.j0 k true l0_0 l0_1))) = some r := h; clear h; have HC2 := aM H; clear H; go_enter Try.func83, Try.ntmps83; go_upto_region 1 with (first | ((with_reducible refine gate_dst (N := 1) rfl ?_); (try (refine gate_guard (by rfl) ?_; dsimp only)); refine yB 1 #[.slice A0_0 l0_0.length c0_0, .slice A0_1 l0_1.length c0_1] 36 ?_; intro gb418 hg w3 hbox hb; have BK418 := aM (hbox); have GW418 := yV0 hg HB; have GE418 := yV0 hg HB; replace HB := yS0 HB hb; clear hb hbox hg))
 repeat (go_quiet (first | ((with_reducible refine gate_dst (N := 1) rfl ?_); (try (refine gate_guard (by rfl) ?_; dsimp only)); refine yB 1 #[.slice A0_0 l0_0.length c0_0, .slice A0_1 l0_1.length c0_1] 36 ?_; intro gb418 hg w3 hbox hb; have BK418 := aM (hbox); have GW418 := yV0 hg HB; have GE418 := yV0 hg HB; replace HB := yS0 HB hb; clear hb hbox hg)); go_upto_region 1 with (first | ((with_reducible refine gate_dst (N := 1) rfl ?_); (try (refine gate_guard (by rfl) ?_; dsimp only)); refine yB 1 #[.slice A0_0 l0_0.length c0_0, .slice A0_1 l0_1.length c0_1] 36 ?_; intro gb418 hg w3 hbox hb; have BK418 := aM (hbox); have GW418 := yV0 hg HB; have GE418 := yV0 hg HB; replace HB := yS0 HB hb; clear hb hbox hg)))
 (try simp only [Act.put, sA, sZ, sU]); go_cut [22] (fun v22 wc => ∃ (kq : Nat) (x22_1 : Bool), v22 = .bool x22_1 ∧ Aside0 (spec_l2Sample.j0 kq x22_1 l0_0 l0_1 = some r) ∧ Aside0 (kq ≤ k) ∧ Aside0 (wc.heap[gb418]? = some (.cells #[(.slice A0_0 l0_0.length c0_0), (.slice A0_1 l0_1.length c0_1)] 36 (0, 0))) ∧ Aside0 (Below w.heap.size w wc))
 case first =>
  have H := HC2.out; clear HC2; obtain ⟨c4, -, H⟩ | ⟨c4, -, H⟩ := yif H
  ·
   have c4b0 : decide (16 < (l0_0.length : Int)) = true := decide_eq_true c4; have c4b1 : decide (16 < l0_0.length) = true := decide_eq_true (by omega); clear c4; (first | rw [c4b0] | (simp only [i64_w, i32_w]; rw [c4b0]) | rw [c4b1] | skip); have H' := aM H; clear H; have hcz5_0 := yC0 BK418; have hcz5_1 := yC1 BK418; have hfz5_0 := bF BK418.out 0; have hfz5_1 := bF BK418.out 1; go_wp2
   repeat (go_quiet (fail); try go_wp2)
   go_meet; case rel => exact ⟨_, (true), yZ, H', ⟨yM⟩, ⟨xB BK418.out⟩, ⟨xG1 HB.out GE418.out⟩⟩
  have c4b0 : decide (16 < (l0_0.length : Int)) = false := decide_eq_false c4; have c4b1 : decide (16 < l0_0.length) = false := decide_eq_false (by omega); clear c4; (first | rw [c4b0] | (simp only [i64_w, i32_w]; rw [c4b0]) | rw [c4b1] | skip); obtain ⟨c6, -, H⟩ | ⟨c6, -, H⟩ := yif H
  rotate_left
  ·
   have c6b0 : ((l0_1.length : Int) == (l0_0.length : Int)) = false := beq_eq_false_iff_ne.mpr c6; have c6b1 : ((l0_1.length : Int) != (l0_0.length : Int)) = true := bne_iff_ne.mpr c6; have c6b2 : (l0_1.length == l0_0.length) = false := by first | simpa using c6 | (simp at c6 ⊢; omega)
   have H' := aM H; clear H; have hcz9_0 := yC0 BK418; have hcz9_1 := yC1 BK418; have hfz9_0 := bF BK418.out 0; have hfz9_1 := bF BK418.out 1; go_wp2
   repeat (go_quiet (fail); try go_wp2)
   go_meet; case rel => exact ⟨_, (true), yZ, H', ⟨yM⟩, ⟨xB BK418.out⟩, ⟨xG1 HB.out GE418.out⟩⟩
  have c6b0 : ((l0_1.length : Int) == (l0_0.length : Int)) = true := beq_iff_eq.mpr c6; have c6b1 : ((l0_1.length : Int) != (l0_0.length : Int)) = false := bne_eq_false_iff_eq.mpr c6; have c6b2 : (l0_1.length == l0_0.length) = true := by first | simpa using c6 | (simp at c6 ⊢; omega)
  clear c6; replace H := oA H; obtain ⟨t419, A7, H⟩ := H; have H' := aM H; clear H; have hcz8_0 := yC0 BK418; have hcz8_1 := yC1 BK418; have hfz8_0 := bF BK418.out 0; have hfz8_1 := bF BK418.out 1; go_wp2_with (first | (go_at_call 112; (with_reducible refine (spec_l2Labels.calls k _ _ l0_1 t419 _ (xC (Kd.C_below HR0_1.out HB.out)) HC0_1.out A7.out).mono ?_); rintro e w' ⟨rfl, ⟨nd, rfl⟩⟩; (try exact yDr)))
  repeat (go_quiet (first | (go_at_call 112; (with_reducible refine (spec_l2Labels.calls k _ _ l0_1 t419 _ (xC (Kd.C_below HR0_1.out HB.out)) HC0_1.out A7.out).mono ?_); rintro e w' ⟨rfl, ⟨nd, rfl⟩⟩; (try exact yDr))); try go_wp2_with (first | (go_at_call 112; (with_reducible refine (spec_l2Labels.calls k _ _ l0_1 t419 _ (xC (Kd.C_below HR0_1.out HB.out)) HC0_1.out A7.out).mono ?_); rintro e w' ⟨rfl, ⟨nd, rfl⟩⟩; (try exact yDr))))
  go_meet; case rel => exact ⟨_, (!t419), yZ, H', ⟨yM⟩, ⟨xB BK418.out⟩, ⟨xG1 HB.out GE418.out⟩⟩
 case rest =>
  clear HC2; try clear c4
  try clear c4b0
  try clear c4b1
  try clear c6
  try clear c6b0
  try clear c6b1
  try clear c6b2
  try clear hcz5_0
  try clear hcz5_1
  try clear hcz8_0
  try clear hcz8_1
  try clear hcz9_0
  try clear hcz9_1
  try clear hfz5_0
  try clear hfz5_1
  try clear hfz8_0
  try clear hfz8_1
  try clear hfz9_0
  try clear hfz9_1
  obtain ⟨kq, x22_1, rfl, HA, HJ1, BK418, HB⟩ := hcut; cases kq with
  | zero => exact absurd HA.out (by simp [spec_l2Sample.j0])
  | succ kj1 =>
   have H := HA.out; clear HA; simp only [spec_l2Sample.j0] at H; by_cases c10 : x22_1 = true
   ·
    subst c10; rw [if_pos rfl] at H; obtain rfl := Option.some.inj H; go_wp2
    repeat (go_quiet (fail); try go_wp2)
    go_ret; exact ⟨yF, xG1 HB.out GE418.out⟩
   replace c10 := Bool.eq_false_iff.mpr c10; subst c10; rw [if_neg (show ¬ (false = true) by decide)] at H; have H' := aM H; clear H; go_wp2
   repeat (go_quiet (fail); try go_wp2)
   go_loopg [3] kj1 (fun kq v3 w' => ∃ (x3_2 : Int), v3 = .int .i64 x3_2 ∧ Aside0 (spec_l2Sample.l0 kq x3_2 l0_0 l0_1 = some r) ∧ Aside0 (kq ≤ kj1) ∧ Aside0 (w'.heap[gb418]? = some (.cells #[(.slice A0_0 l0_0.length c0_0), (.slice A0_1 l0_1.length c0_1)] 36 (0, 0))) ∧ Aside0 (Below w.heap.size w w')); case atStart => exact ⟨(0), yZ, H', ⟨Nat.le_refl _⟩, ⟨xB BK418.out⟩, ⟨xG1 HB.out GE418.out⟩⟩
   case round =>
    clear H'; try clear c10
    obtain ⟨x3_2, rfl, HA, HK2, BK418, HB⟩ := hrel; cases gk with
    | zero => exact absurd HA.out (by simp [spec_l2Sample.l0])
    | succ k2 =>
     have H := HA.out; clear HA; simp only [spec_l2Sample.l0] at H; obtain ⟨-, c11b0, H⟩ | ⟨-, c11b0, H⟩ := yif H
     rotate_left
     ·
      obtain rfl := Option.some.inj H; have hcz20_0 : wr.cell? ⟨gb418, 0, none⟩ = some (.slice A0_0 l0_0.length c0_0) := (bC BK418.out 0).trans rfl; have hcz20_1 : wr.cell? ⟨gb418, 1, none⟩ = some (.slice A0_1 l0_1.length c0_1) := (bC BK418.out 1).trans rfl; have hfz20_0 := bF BK418.out 0; have hfz20_1 := bF BK418.out 1; go_wp2
      repeat (go_quiet (fail); try go_wp2)
      go_ret; exact ⟨yF, xG1 HB.out GE418.out⟩
     obtain ⟨-, c12b0, H⟩ | ⟨c12, -, H⟩ := yif H
     rotate_left
     · exact absurd H (by simp)
     replace H := oA H; obtain ⟨t421, A13, H⟩ := H; by_cases c14 : t421 = true
     rotate_left
     ·
      replace c14 := Bool.eq_false_iff.mpr c14; subst c14; rw [if_neg (show ¬ (false = true) by decide)] at H; obtain rfl := Option.some.inj H; have hcz19_0 : wr.cell? ⟨gb418, 0, none⟩ = some (.slice A0_0 l0_0.length c0_0) := (bC BK418.out 0).trans rfl; have hcz19_1 : wr.cell? ⟨gb418, 1, none⟩ = some (.slice A0_1 l0_1.length c0_1) := (bC BK418.out 1).trans rfl; have hfz19_0 := bF BK418.out 0; have hfz19_1 := bF BK418.out 1; have p420 : 0 ≤ (x3_2 : Int) := yA; have q420 : x3_2 < (l0_0.length : Int) := yA; obtain ⟨ad420, A420_0, c420_0, e420, hx420_0, hl420_0, hi420_0⟩ := at_L2 HR0_0.out x3_2 p420 q420; cases e420
      replace hx420_0 := yc HB hx420_0; have HR420_0 := aM hi420_0; have HC420_0 := aM hl420_0; clear hi420_0 hl420_0; replace p420 := eq_true p420; replace q420 := eq_true q420; go_wp2_with (first | (go_at_call 81; (with_reducible refine (spec_l2Point.calls k2 _ _ (rd_L2 l0_0 x3_2) false _ (xC (Kd.C_below HR420_0.out HB.out)) HC420_0.out A13.out).mono ?_); rintro e w' ⟨rfl, ⟨nd, rfl⟩⟩; (try exact yDr)))
      repeat (go_quiet (first | (go_at_call 81; (with_reducible refine (spec_l2Point.calls k2 _ _ (rd_L2 l0_0 x3_2) false _ (xC (Kd.C_below HR420_0.out HB.out)) HC420_0.out A13.out).mono ?_); rintro e w' ⟨rfl, ⟨nd, rfl⟩⟩; (try exact yDr))); try go_wp2_with (first | (go_at_call 81; (with_reducible refine (spec_l2Point.calls k2 _ _ (rd_L2 l0_0 x3_2) false _ (xC (Kd.C_below HR420_0.out HB.out)) HC420_0.out A13.out).mono ?_); rintro e w' ⟨rfl, ⟨nd, rfl⟩⟩; (try exact yDr))))
      go_ret; exact ⟨yF, xG1 HB.out GE418.out⟩
     subst c14; rw [if_pos rfl] at H; obtain ⟨c15, c15b0, H⟩ | ⟨c15, -, H⟩ := yif H
     rotate_left
     · exact absurd H (by simp)
     have c15b1 : decide (0 < l0_0.length) = true := decide_eq_true (by omega); clear c15; obtain ⟨c16, -, H⟩ | ⟨c16, -, H⟩ := yif H
     rotate_left
     ·
      have c16b0 : (((rd_L2 l0_0 x3_2).length : Int) == ((rd_L2 l0_0 0).length : Int)) = false := beq_eq_false_iff_ne.mpr c16; have c16b1 : (((rd_L2 l0_0 x3_2).length : Int) != ((rd_L2 l0_0 0).length : Int)) = true := bne_iff_ne.mpr c16; have c16b2 : ((rd_L2 l0_0 x3_2).length == (rd_L2 l0_0 0).length) = false := by first | simpa using c16 | (simp at c16 ⊢; omega)
      obtain rfl := Option.some.inj H; have hcz18_0 : wr.cell? ⟨gb418, 0, none⟩ = some (.slice A0_0 l0_0.length c0_0) := (bC BK418.out 0).trans rfl; have hcz18_1 : wr.cell? ⟨gb418, 1, none⟩ = some (.slice A0_1 l0_1.length c0_1) := (bC BK418.out 1).trans rfl; have hfz18_0 := bF BK418.out 0; have hfz18_1 := bF BK418.out 1; have p420 : 0 ≤ (x3_2 : Int) := yA; have q420 : x3_2 < (l0_0.length : Int) := yA; obtain ⟨ad420, A420_0, c420_0, e420, hx420_0, hl420_0, hi420_0⟩ := at_L2 HR0_0.out x3_2 p420 q420; cases e420
      replace hx420_0 := yc HB hx420_0; have HR420_0 := aM hi420_0; have HC420_0 := aM hl420_0; clear hi420_0 hl420_0; replace p420 := eq_true p420; replace q420 := eq_true q420; go_wp2_with (first | (go_at_call 81; (with_reducible refine (spec_l2Point.calls k2 _ _ (rd_L2 l0_0 x3_2) true _ (xC (Kd.C_below HR420_0.out HB.out)) HC420_0.out A13.out).mono ?_); rintro e w' ⟨rfl, ⟨nd, rfl⟩⟩; (try exact yDr); have p422 : 0 ≤ (x3_2 : Int) := yA; have q422 : x3_2 < (l0_0.length : Int) := yA; obtain ⟨ad422, A422_0, c422_0, e422, hx422_0, hl422_0, hi422_0⟩ := at_L2 HR0_0.out x3_2 p422 q422; obtain rfl : ad420 = ad422 := (by injection e422); replace hx422_0 := yc HB hx422_0; have HR422_0 := aM hi422_0; have HC422_0 := aM hl422_0; clear hi422_0 hl422_0; replace p422 := eq_true p422; replace q422 := eq_true q422; have ea_ := Option.some.inj (hx420_0.symm.trans hx422_0); injection ea_ with ea_ en_ ec_; subst ea_; subst ec_; clear en_; have p423 : 0 ≤ (0 : Int) := (by omega); have q423 : 0 < (l0_0.length : Int) := yA; obtain ⟨ad423, A423_0, c423_0, e423, hx423_0, hl423_0, hi423_0⟩ := at_L2 HR0_0.out 0 p423 q423; obtain rfl : ad420 = ad423 := (by injection e423); have qi423 : (0 < l0_0.length) = True := eq_true (by omega); (try rw [show ((0 : Int)).toNat = 0 from rfl] at hx423_0); (try rw [Addr.add_zero'] at hx423_0); replace hx423_0 := yc HB hx423_0; have HR423_0 := aM hi423_0; have HC423_0 := aM hl423_0; clear hi423_0 hl423_0; replace p423 := eq_true p423; replace q423 := eq_true q423))
      repeat (go_quiet (first | (go_at_call 81; (with_reducible refine (spec_l2Point.calls k2 _ _ (rd_L2 l0_0 x3_2) true _ (xC (Kd.C_below HR420_0.out HB.out)) HC420_0.out A13.out).mono ?_); rintro e w' ⟨rfl, ⟨nd, rfl⟩⟩; (try exact yDr); have p422 : 0 ≤ (x3_2 : Int) := yA; have q422 : x3_2 < (l0_0.length : Int) := yA; obtain ⟨ad422, A422_0, c422_0, e422, hx422_0, hl422_0, hi422_0⟩ := at_L2 HR0_0.out x3_2 p422 q422; obtain rfl : ad420 = ad422 := (by injection e422); replace hx422_0 := yc HB hx422_0; have HR422_0 := aM hi422_0; have HC422_0 := aM hl422_0; clear hi422_0 hl422_0; replace p422 := eq_true p422; replace q422 := eq_true q422; have ea_ := Option.some.inj (hx420_0.symm.trans hx422_0); injection ea_ with ea_ en_ ec_; subst ea_; subst ec_; clear en_; have p423 : 0 ≤ (0 : Int) := (by omega); have q423 : 0 < (l0_0.length : Int) := yA; obtain ⟨ad423, A423_0, c423_0, e423, hx423_0, hl423_0, hi423_0⟩ := at_L2 HR0_0.out 0 p423 q423; obtain rfl : ad420 = ad423 := (by injection e423); have qi423 : (0 < l0_0.length) = True := eq_true (by omega); (try rw [show ((0 : Int)).toNat = 0 from rfl] at hx423_0); (try rw [Addr.add_zero'] at hx423_0); replace hx423_0 := yc HB hx423_0; have HR423_0 := aM hi423_0; have HC423_0 := aM hl423_0; clear hi423_0 hl423_0; replace p423 := eq_true p423; replace q423 := eq_true q423)); try go_wp2_with (first | (go_at_call 81; (with_reducible refine (spec_l2Point.calls k2 _ _ (rd_L2 l0_0 x3_2) true _ (xC (Kd.C_below HR420_0.out HB.out)) HC420_0.out A13.out).mono ?_); rintro e w' ⟨rfl, ⟨nd, rfl⟩⟩; (try exact yDr); have p422 : 0 ≤ (x3_2 : Int) := yA; have q422 : x3_2 < (l0_0.length : Int) := yA; obtain ⟨ad422, A422_0, c422_0, e422, hx422_0, hl422_0, hi422_0⟩ := at_L2 HR0_0.out x3_2 p422 q422; obtain rfl : ad420 = ad422 := (by injection e422); replace hx422_0 := yc HB hx422_0; have HR422_0 := aM hi422_0; have HC422_0 := aM hl422_0; clear hi422_0 hl422_0; replace p422 := eq_true p422; replace q422 := eq_true q422; have ea_ := Option.some.inj (hx420_0.symm.trans hx422_0); injection ea_ with ea_ en_ ec_; subst ea_; subst ec_; clear en_; have p423 : 0 ≤ (0 : Int) := (by omega); have q423 : 0 < (l0_0.length : Int) := yA; obtain ⟨ad423, A423_0, c423_0, e423, hx423_0, hl423_0, hi423_0⟩ := at_L2 HR0_0.out 0 p423 q423; obtain rfl : ad420 = ad423 := (by injection e423); have qi423 : (0 < l0_0.length) = True := eq_true (by omega); (try rw [show ((0 : Int)).toNat = 0 from rfl] at hx423_0); (try rw [Addr.add_zero'] at hx423_0); replace hx423_0 := yc HB hx423_0; have HR423_0 := aM hi423_0; have HC423_0 := aM hl423_0; clear hi423_0 hl423_0; replace p423 := eq_true p423; replace q423 := eq_true q423)))
      go_ret; exact ⟨yF, xG1 HB.out GE418.out⟩
     have c16b0 : (((rd_L2 l0_0 x3_2).length : Int) == ((rd_L2 l0_0 0).length : Int)) = true := beq_iff_eq.mpr c16; have c16b1 : (((rd_L2 l0_0 x3_2).length : Int) != ((rd_L2 l0_0 0).length : Int)) = false := bne_eq_false_iff_eq.mpr c16; have c16b2 : ((rd_L2 l0_0 x3_2).length == (rd_L2 l0_0 0).length) = true := by first | simpa using c16 | (simp at c16 ⊢; omega)
     clear c16; have H' := aM H; clear H; have hcz17_0 : wr.cell? ⟨gb418, 0, none⟩ = some (.slice A0_0 l0_0.length c0_0) := (bC BK418.out 0).trans rfl; have hcz17_1 : wr.cell? ⟨gb418, 1, none⟩ = some (.slice A0_1 l0_1.length c0_1) := (bC BK418.out 1).trans rfl; have hfz17_0 := bF BK418.out 0; have hfz17_1 := bF BK418.out 1; have p420 : 0 ≤ (x3_2 : Int) := yA; have q420 : x3_2 < (l0_0.length : Int) := yA; obtain ⟨ad420, A420_0, c420_0, e420, hx420_0, hl420_0, hi420_0⟩ := at_L2 HR0_0.out x3_2 p420 q420; cases e420
     replace hx420_0 := yc HB hx420_0; have HR420_0 := aM hi420_0; have HC420_0 := aM hl420_0; clear hi420_0 hl420_0; replace p420 := eq_true p420; replace q420 := eq_true q420; go_wp2_with (first | (go_at_call 81; (with_reducible refine (spec_l2Point.calls k2 _ _ (rd_L2 l0_0 x3_2) true _ (xC (Kd.C_below HR420_0.out HB.out)) HC420_0.out A13.out).mono ?_); rintro e w' ⟨rfl, ⟨nd, rfl⟩⟩; (try exact yDr); have p422 : 0 ≤ (x3_2 : Int) := yA; have q422 : x3_2 < (l0_0.length : Int) := yA; obtain ⟨ad422, A422_0, c422_0, e422, hx422_0, hl422_0, hi422_0⟩ := at_L2 HR0_0.out x3_2 p422 q422; obtain rfl : ad420 = ad422 := (by injection e422); replace hx422_0 := yc HB hx422_0; have HR422_0 := aM hi422_0; have HC422_0 := aM hl422_0; clear hi422_0 hl422_0; replace p422 := eq_true p422; replace q422 := eq_true q422; have ea_ := Option.some.inj (hx420_0.symm.trans hx422_0); injection ea_ with ea_ en_ ec_; subst ea_; subst ec_; clear en_; have p423 : 0 ≤ (0 : Int) := (by omega); have q423 : 0 < (l0_0.length : Int) := yA; obtain ⟨ad423, A423_0, c423_0, e423, hx423_0, hl423_0, hi423_0⟩ := at_L2 HR0_0.out 0 p423 q423; obtain rfl : ad420 = ad423 := (by injection e423); have qi423 : (0 < l0_0.length) = True := eq_true (by omega); (try rw [show ((0 : Int)).toNat = 0 from rfl] at hx423_0); (try rw [Addr.add_zero'] at hx423_0); replace hx423_0 := yc HB hx423_0; have HR423_0 := aM hi423_0; have HC423_0 := aM hl423_0; clear hi423_0 hl423_0; replace p423 := eq_true p423; replace q423 := eq_true q423))
     repeat (go_quiet (first | (go_at_call 81; (with_reducible refine (spec_l2Point.calls k2 _ _ (rd_L2 l0_0 x3_2) true _ (xC (Kd.C_below HR420_0.out HB.out)) HC420_0.out A13.out).mono ?_); rintro e w' ⟨rfl, ⟨nd, rfl⟩⟩; (try exact yDr); have p422 : 0 ≤ (x3_2 : Int) := yA; have q422 : x3_2 < (l0_0.length : Int) := yA; obtain ⟨ad422, A422_0, c422_0, e422, hx422_0, hl422_0, hi422_0⟩ := at_L2 HR0_0.out x3_2 p422 q422; obtain rfl : ad420 = ad422 := (by injection e422); replace hx422_0 := yc HB hx422_0; have HR422_0 := aM hi422_0; have HC422_0 := aM hl422_0; clear hi422_0 hl422_0; replace p422 := eq_true p422; replace q422 := eq_true q422; have ea_ := Option.some.inj (hx420_0.symm.trans hx422_0); injection ea_ with ea_ en_ ec_; subst ea_; subst ec_; clear en_; have p423 : 0 ≤ (0 : Int) := (by omega); have q423 : 0 < (l0_0.length : Int) := yA; obtain ⟨ad423, A423_0, c423_0, e423, hx423_0, hl423_0, hi423_0⟩ := at_L2 HR0_0.out 0 p423 q423; obtain rfl : ad420 = ad423 := (by injection e423); have qi423 : (0 < l0_0.length) = True := eq_true (by omega); (try rw [show ((0 : Int)).toNat = 0 from rfl] at hx423_0); (try rw [Addr.add_zero'] at hx423_0); replace hx423_0 := yc HB hx423_0; have HR423_0 := aM hi423_0; have HC423_0 := aM hl423_0; clear hi423_0 hl423_0; replace p423 := eq_true p423; replace q423 := eq_true q423)); try go_wp2_with (first | (go_at_call 81; (with_reducible refine (spec_l2Point.calls k2 _ _ (rd_L2 l0_0 x3_2) true _ (xC (Kd.C_below HR420_0.out HB.out)) HC420_0.out A13.out).mono ?_); rintro e w' ⟨rfl, ⟨nd, rfl⟩⟩; (try exact yDr); have p422 : 0 ≤ (x3_2 : Int) := yA; have q422 : x3_2 < (l0_0.length : Int) := yA; obtain ⟨ad422, A422_0, c422_0, e422, hx422_0, hl422_0, hi422_0⟩ := at_L2 HR0_0.out x3_2 p422 q422; obtain rfl : ad420 = ad422 := (by injection e422); replace hx422_0 := yc HB hx422_0; have HR422_0 := aM hi422_0; have HC422_0 := aM hl422_0; clear hi422_0 hl422_0; replace p422 := eq_true p422; replace q422 := eq_true q422; have ea_ := Option.some.inj (hx420_0.symm.trans hx422_0); injection ea_ with ea_ en_ ec_; subst ea_; subst ec_; clear en_; have p423 : 0 ≤ (0 : Int) := (by omega); have q423 : 0 < (l0_0.length : Int) := yA; obtain ⟨ad423, A423_0, c423_0, e423, hx423_0, hl423_0, hi423_0⟩ := at_L2 HR0_0.out 0 p423 q423; obtain rfl : ad420 = ad423 := (by injection e423); have qi423 : (0 < l0_0.length) = True := eq_true (by omega); (try rw [show ((0 : Int)).toNat = 0 from rfl] at hx423_0); (try rw [Addr.add_zero'] at hx423_0); replace hx423_0 := yc HB hx423_0; have HR423_0 := aM hi423_0; have HC423_0 := aM hl423_0; clear hi423_0 hl423_0; replace p423 := eq_true p423; replace q423 := eq_true q423)))
     go_roundg k2; case measure => have := HJ1.out; have := HK2.out; omega
     case rel => exact ⟨(wrap64 (x3_2 + 1)), yZ, H', ⟨by have := HJ1.out; have := HK2.out; omega⟩, ⟨xB BK418.out⟩, ⟨xG1 HB.out GE418.out⟩⟩
end Go.Proofs.Ytkgekmpnbhomgaa.PFnSides
