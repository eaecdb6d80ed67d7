-- Laid for this claim by a program of the session's own (wip/tool/myprint.py).
import Derived.Test.YtgidnmpppbkamaaMFnExactPlaneClassx0
import Derived.Test.YtgidnmpppbkamaaMFnExactPlaneClassx1
namespace Go.Proofs.Ytgidnmpppbkamaa.PFnExactPlaneClass
open Go.RowKit Go.Proofs.YtgidnmpppbkamaaW.PrintWords Go.Proofs.YtgidnmpppbkamaaW.PrintLast Go.Proofs.YtgidnmpppbkamaaW.PrintMore
attribute [local go_sem] max2_int min2_int max_two min_two max_three min_three max_four min_four
set_option linter.unusedVariables false
set_option maxHeartbeats 8000000
set_option maxRecDepth 100000
set_option linter.unusedSimpArgs false
mutual
def spec_l2Sample.j0 : Nat → Bool → List (List Int) → List Int → Option (Bool)
 | 0, _, _, _ => none
 | k + 1, x22, x122000, x122001 => if x22 = true then (some false) else (spec_l2Sample.l0 k 0 x122000 x122001)
def spec_l2Sample.l0 : Nat → Int → List (List Int) → List Int → Option (Bool)
 | 0, _, _, _ => none
 | k + 1, x3, x122000, x122001 => if x3 < (x122000.length : Int) then (if 0 ≤ x3 then ((spec_l2Point.f k (rd_L1 x122000 x3)).bind fun t124 => (if t124 = true then (if 0 < (x122000.length : Int) then (if ((rd_L1 x122000 x3).length : Int) = ((rd_L1 x122000 0).length : Int) then (spec_l2Sample.l0 k (wrap64 (x3 + 1)) x122000 x122001) else (some false)) else (none)) else (some false))) else (none)) else (some true)
end
def spec_l2Sample.f (k : Nat) (l0_0 : List (List Int)) (l0_1 : List Int) : Option (Bool) := if (l0_0.length : Int) > 16 then (spec_l2Sample.j0 k true l0_0 l0_1) else (if (l0_1.length : Int) = (l0_0.length : Int) then ((spec_l2Labels.f k l0_1).bind fun t122 => (spec_l2Sample.j0 k (!t122) l0_0 l0_1)) else (spec_l2Sample.j0 k true l0_0 l0_1))
theorem spec_l2Sample.calls (k : Nat) (A0_0 : Option Addr) (c0_0 : Nat) (l0_0 : List (List Int)) (A0_1 : Option Addr) (c0_1 : Nat) (l0_1 : List Int) (r : Bool) (w : World) (hr0_0 : Kd.C (Kd.slice 3 (Kd.int .i64)) w A0_0 l0_0.length l0_0) (hc0_0 : l0_0.length ≤ c0_0) (hr0_1 : Kd.C (Kd.int .i64) w A0_1 l0_1.length l0_1) (hc0_1 : l0_1.length ≤ c0_1) (h : spec_l2Sample.f k l0_0 l0_1 = some r) :
  Calls Try.prog 42 #[.agg #[.slice A0_0 l0_0.length c0_0, .slice A0_1 l0_1.length c0_1]] w fun e w' => e = .returned (.bool r) ∧ Below w.heap.size w w' := by
 have hu43 := Try.underlying43
 have HR0_0 := aM hr0_0
 have HC0_0 := aM hc0_0
 clear hr0_0 hc0_0
 have HR0_1 := aM hr0_1
 have HC0_1 := aM hc0_1
 clear hr0_1 hc0_1
 have HB := aM (Below.refl w.heap.size w)
 have H : (if (l0_0.length : Int) > 16 then (spec_l2Sample.j0 k true l0_0 l0_1) else (if (l0_1.length : Int) = (l0_0.length : Int) then ((spec_l2Labels.f k l0_1).bind fun t122 => (spec_l2Sample.j0 k (!t122) l0_0 l0_1)) else (spec_l2Sample.j0 k true l0_0 l0_1))) = some r := h
 clear h
 have HC2 := aM H
 clear H
 go_enter Try.func42, Try.ntmps42
 go_upto_region 1 with (first | ((with_reducible refine gate_dst (N := 1) rfl ?_); (try (refine gate_guard (by rfl) ?_; dsimp only)); refine yB 1 #[.slice A0_0 l0_0.length c0_0, .slice A0_1 l0_1.length c0_1] 43 ?_; intro gb121 hg w3 hbox hb; have BK121 := aM (hbox); have GW121 := yV0 hg HB; have GE121 := yV0 hg HB; replace HB := yS0 HB hb; clear hb hbox hg))
 repeat (go_quiet (first | ((with_reducible refine gate_dst (N := 1) rfl ?_); (try (refine gate_guard (by rfl) ?_; dsimp only)); refine yB 1 #[.slice A0_0 l0_0.length c0_0, .slice A0_1 l0_1.length c0_1] 43 ?_; intro gb121 hg w3 hbox hb; have BK121 := aM (hbox); have GW121 := yV0 hg HB; have GE121 := yV0 hg HB; replace HB := yS0 HB hb; clear hb hbox hg)); go_upto_region 1 with (first | ((with_reducible refine gate_dst (N := 1) rfl ?_); (try (refine gate_guard (by rfl) ?_; dsimp only)); refine yB 1 #[.slice A0_0 l0_0.length c0_0, .slice A0_1 l0_1.length c0_1] 43 ?_; intro gb121 hg w3 hbox hb; have BK121 := aM (hbox); have GW121 := yV0 hg HB; have GE121 := yV0 hg HB; replace HB := yS0 HB hb; clear hb hbox hg)))
 (try simp only [Act.put, sA, sZ, sU])
 go_cut [22] (fun v22 wc => ∃ (kq : Nat) (x22_1 : Bool), v22 = .bool x22_1 ∧ Aside0 (spec_l2Sample.j0 kq x22_1 l0_0 l0_1 = some r) ∧ Aside0 (kq ≤ k) ∧ Aside0 (wc.heap[gb121]? = some (.cells #[(.slice A0_0 l0_0.length c0_0), (.slice A0_1 l0_1.length c0_1)] 43 (0, 0))) ∧ Aside0 (Below w.heap.size w wc))
 case first =>
  have H := HC2.out
  clear HC2
  by_cases c4 : (l0_0.length : Int) > 16
  ·
   rw [if_pos c4] at H
   have c4b0 : decide (16 < (l0_0.length : Int)) = true := decide_eq_true c4
   have c4b1 : decide (16 < l0_0.length) = true := decide_eq_true (by omega)
   clear c4
   (first | rw [c4b0] | (simp only [i64_w, i32_w]; rw [c4b0]) | rw [c4b1] | skip)
   have H' := aM H
   clear H
   have hcz5_0 := yC0 BK121
   have hcz5_1 := yC1 BK121
   have hfz5_0 := bF BK121.out 0
   have hfz5_1 := bF BK121.out 1
   go_wp2
   repeat (go_quiet (fail); try go_wp2)
   go_meet
   case rel => exact ⟨_, (true), yZ, H', ⟨yM⟩, ⟨xB BK121.out⟩, ⟨xG1 HB.out GE121.out⟩⟩
  rw [if_neg c4] at H
  have c4b0 : decide (16 < (l0_0.length : Int)) = false := decide_eq_false c4
  have c4b1 : decide (16 < l0_0.length) = false := decide_eq_false (by omega)
  clear c4
  (first | rw [c4b0] | (simp only [i64_w, i32_w]; rw [c4b0]) | rw [c4b1] | skip)
  by_cases c6 : (l0_1.length : Int) = (l0_0.length : Int)
  rotate_left
  ·
   rw [if_neg c6] at H
   have c6b0 : ((l0_1.length : Int) == (l0_0.length : Int)) = false := beq_eq_false_iff_ne.mpr c6
   have c6b1 : ((l0_1.length : Int) != (l0_0.length : Int)) = true := bne_iff_ne.mpr c6
   have c6b2 : (l0_1.length == l0_0.length) = false := by first | simpa using c6 | (simp at c6 ⊢; omega)
   have H' := aM H
   clear H
   have hcz9_0 := yC0 BK121
   have hcz9_1 := yC1 BK121
   have hfz9_0 := bF BK121.out 0
   have hfz9_1 := bF BK121.out 1
   go_wp2
   repeat (go_quiet (fail); try go_wp2)
   go_meet
   case rel => exact ⟨_, (true), yZ, H', ⟨yM⟩, ⟨xB BK121.out⟩, ⟨xG1 HB.out GE121.out⟩⟩
  rw [if_pos c6] at H
  have c6b0 : ((l0_1.length : Int) == (l0_0.length : Int)) = true := beq_iff_eq.mpr c6
  have c6b1 : ((l0_1.length : Int) != (l0_0.length : Int)) = false := bne_eq_false_iff_eq.mpr c6
  have c6b2 : (l0_1.length == l0_0.length) = true := by first | simpa using c6 | (simp at c6 ⊢; omega)
  clear c6
  replace H := oB.mp H
  obtain ⟨t122, A70, H⟩ := H
  have A7 := aM A70
  clear A70
  have H' := aM H
  clear H
  have hcz8_0 := yC0 BK121
  have hcz8_1 := yC1 BK121
  have hfz8_0 := bF BK121.out 0
  have hfz8_1 := bF BK121.out 1
  go_wp2_with (first | (go_at_call 62; (with_reducible refine (spec_l2Labels.calls k _ _ l0_1 t122 _ ?side1 ?side2 A7.out).mono ?_); (case side1 => exact xC (Kd.C_below HR0_1.out HB.out)); (case side2 => exact HC0_1.out); rintro e w' ⟨rfl, ⟨nd, rfl⟩⟩; (try first | exact ⟨rfl, _, World.drewN_drewN _ _ _⟩ | exact ⟨rfl, _, Eq.trans (World.drewN_drewN _ _ _) (congrArg (World.drewN _) (Nat.add_assoc _ _ _))⟩)))
  repeat (go_quiet (first | (go_at_call 62; (with_reducible refine (spec_l2Labels.calls k _ _ l0_1 t122 _ ?side1 ?side2 A7.out).mono ?_); (case side1 => exact xC (Kd.C_below HR0_1.out HB.out)); (case side2 => exact HC0_1.out); rintro e w' ⟨rfl, ⟨nd, rfl⟩⟩; (try first | exact ⟨rfl, _, World.drewN_drewN _ _ _⟩ | exact ⟨rfl, _, Eq.trans (World.drewN_drewN _ _ _) (congrArg (World.drewN _) (Nat.add_assoc _ _ _))⟩))); try go_wp2_with (first | (go_at_call 62; (with_reducible refine (spec_l2Labels.calls k _ _ l0_1 t122 _ ?side1 ?side2 A7.out).mono ?_); (case side1 => exact xC (Kd.C_below HR0_1.out HB.out)); (case side2 => exact HC0_1.out); rintro e w' ⟨rfl, ⟨nd, rfl⟩⟩; (try first | exact ⟨rfl, _, World.drewN_drewN _ _ _⟩ | exact ⟨rfl, _, Eq.trans (World.drewN_drewN _ _ _) (congrArg (World.drewN _) (Nat.add_assoc _ _ _))⟩))))
  go_meet
  case rel => exact ⟨_, (!t122), yZ, H', ⟨yM⟩, ⟨xB BK121.out⟩, ⟨xG1 HB.out GE121.out⟩⟩
 case rest =>
  clear HC2
  try clear c4; try clear c4b0; try clear c4b1; try clear c6; try clear c6b0; try clear c6b1; try clear c6b2; try clear hcz5_0; try clear hcz5_1; try clear hcz8_0; try clear hcz8_1; try clear hcz9_0; try clear hcz9_1; try clear hfz5_0; try clear hfz5_1; try clear hfz8_0; try clear hfz8_1; try clear hfz9_0; try clear hfz9_1
  obtain ⟨kq, x22_1, rfl, HA, HJ1, BK121, HB⟩ := hcut
  cases kq with
  | zero => exact absurd HA.out (by simp [spec_l2Sample.j0])
  | succ kj1 =>
   have H := HA.out
   clear HA
   simp only [spec_l2Sample.j0] at H
   by_cases c10 : x22_1 = true
   ·
    subst c10
    rw [if_pos rfl] at H
    obtain rfl := Option.some.inj H
    go_wp2
    repeat (go_quiet (fail); try go_wp2)
    go_ret
    exact ⟨yF, xG1 HB.out GE121.out⟩
   replace c10 := Bool.eq_false_iff.mpr c10
   subst c10
   rw [if_neg (show ¬ (false = true) by decide)] at H
   have H' := aM H
   clear H
   go_wp2
   repeat (go_quiet (fail); try go_wp2)
   go_loopg [3] kj1 (fun kq v3 w' => ∃ (x3_2 : Int), v3 = .int .i64 x3_2 ∧ Aside0 (spec_l2Sample.l0 kq x3_2 l0_0 l0_1 = some r) ∧ Aside0 (kq ≤ kj1) ∧ Aside0 (w'.heap[gb121]? = some (.cells #[(.slice A0_0 l0_0.length c0_0), (.slice A0_1 l0_1.length c0_1)] 43 (0, 0))) ∧ Aside0 (Below w.heap.size w w'))
   case atStart => exact ⟨(0), yZ, H', ⟨Nat.le_refl _⟩, ⟨xB BK121.out⟩, ⟨xG1 HB.out GE121.out⟩⟩
   case round =>
    clear H'
    try clear c10
    obtain ⟨x3_2, rfl, HA, HK2, BK121, HB⟩ := hrel
    cases gk with
    | zero => exact absurd HA.out (by simp [spec_l2Sample.l0])
    | succ k2 =>
     have H := HA.out
     clear HA
     simp only [spec_l2Sample.l0] at H
     by_cases c11 : x3_2 < (l0_0.length : Int)
     rotate_left
     ·
      rw [if_neg c11] at H
      have c11b0 := decide_eq_false c11
      clear c11
      obtain rfl := Option.some.inj H
      have hcz20_0 : wr.cell? ⟨gb121, 0, none⟩ = some (.slice A0_0 l0_0.length c0_0) := (bC BK121.out 0).trans rfl
      have hcz20_1 : wr.cell? ⟨gb121, 1, none⟩ = some (.slice A0_1 l0_1.length c0_1) := (bC BK121.out 1).trans rfl
      have hfz20_0 := bF BK121.out 0
      have hfz20_1 := bF BK121.out 1
      go_wp2
      repeat (go_quiet (fail); try go_wp2)
      go_ret
      exact ⟨yF, xG1 HB.out GE121.out⟩
     rw [if_pos c11] at H
     have c11b0 := decide_eq_true c11
     clear c11
     by_cases c12 : 0 ≤ x3_2
     rotate_left
     ·
      rw [if_neg c12] at H
      exact absurd H (by simp)
     rw [if_pos c12] at H
     have c12b0 := decide_eq_true c12
     clear c12
     replace H := oB.mp H
     obtain ⟨t124, A130, H⟩ := H
     have A13 := aM A130
     clear A130
     by_cases c14 : t124 = true
     rotate_left
     ·
      replace c14 := Bool.eq_false_iff.mpr c14
      subst c14
      rw [if_neg (show ¬ (false = true) by decide)] at H
      obtain rfl := Option.some.inj H
      have hcz19_0 : wr.cell? ⟨gb121, 0, none⟩ = some (.slice A0_0 l0_0.length c0_0) := (bC BK121.out 0).trans rfl
      have hcz19_1 : wr.cell? ⟨gb121, 1, none⟩ = some (.slice A0_1 l0_1.length c0_1) := (bC BK121.out 1).trans rfl
      have hfz19_0 := bF BK121.out 0
      have hfz19_1 := bF BK121.out 1
      have p123 : 0 ≤ (x3_2 : Int) := yA
      have q123 : x3_2 < (l0_0.length : Int) := yA
      obtain ⟨ad123, A123_0, c123_0, e123, hx123_0, hl123_0, hi123_0⟩ := at_L1 HR0_0.out x3_2 p123 q123
      cases e123
      replace hx123_0 := (HB.out.cell (World.block_lt_of_cell? w _ hx123_0)).trans hx123_0
      have HR123_0 := aM hi123_0
      have HC123_0 := aM hl123_0
      clear hi123_0 hl123_0
      replace p123 := eq_true p123
      replace q123 := eq_true q123
      go_wp2_with (first | (go_at_call 63; (with_reducible refine (spec_l2Point.calls k2 _ _ (rd_L1 l0_0 x3_2) false _ ?side1 ?side2 A13.out).mono ?_); (case side1 => exact xC (Kd.C_below HR123_0.out HB.out)); (case side2 => exact HC123_0.out); rintro e w' ⟨rfl, ⟨nd, rfl⟩⟩; (try first | exact ⟨rfl, _, World.drewN_drewN _ _ _⟩ | exact ⟨rfl, _, Eq.trans (World.drewN_drewN _ _ _) (congrArg (World.drewN _) (Nat.add_assoc _ _ _))⟩)))
      repeat (go_quiet (first | (go_at_call 63; (with_reducible refine (spec_l2Point.calls k2 _ _ (rd_L1 l0_0 x3_2) false _ ?side1 ?side2 A13.out).mono ?_); (case side1 => exact xC (Kd.C_below HR123_0.out HB.out)); (case side2 => exact HC123_0.out); rintro e w' ⟨rfl, ⟨nd, rfl⟩⟩; (try first | exact ⟨rfl, _, World.drewN_drewN _ _ _⟩ | exact ⟨rfl, _, Eq.trans (World.drewN_drewN _ _ _) (congrArg (World.drewN _) (Nat.add_assoc _ _ _))⟩))); try go_wp2_with (first | (go_at_call 63; (with_reducible refine (spec_l2Point.calls k2 _ _ (rd_L1 l0_0 x3_2) false _ ?side1 ?side2 A13.out).mono ?_); (case side1 => exact xC (Kd.C_below HR123_0.out HB.out)); (case side2 => exact HC123_0.out); rintro e w' ⟨rfl, ⟨nd, rfl⟩⟩; (try first | exact ⟨rfl, _, World.drewN_drewN _ _ _⟩ | exact ⟨rfl, _, Eq.trans (World.drewN_drewN _ _ _) (congrArg (World.drewN _) (Nat.add_assoc _ _ _))⟩))))
      go_ret
      exact ⟨yF, xG1 HB.out GE121.out⟩
     subst c14
     rw [if_pos rfl] at H
     by_cases c15 : 0 < (l0_0.length : Int)
     rotate_left
     ·
      rw [if_neg c15] at H
      exact absurd H (by simp)
     rw [if_pos c15] at H
     have c15b0 := decide_eq_true c15
     have c15b1 : decide (0 < l0_0.length) = true := decide_eq_true (by omega)
     clear c15
     by_cases c16 : ((rd_L1 l0_0 x3_2).length : Int) = ((rd_L1 l0_0 0).length : Int)
     rotate_left
     ·
      rw [if_neg c16] at H
      have c16b0 : (((rd_L1 l0_0 x3_2).length : Int) == ((rd_L1 l0_0 0).length : Int)) = false := beq_eq_false_iff_ne.mpr c16
      have c16b1 : (((rd_L1 l0_0 x3_2).length : Int) != ((rd_L1 l0_0 0).length : Int)) = true := bne_iff_ne.mpr c16
      have c16b2 : ((rd_L1 l0_0 x3_2).length == (rd_L1 l0_0 0).length) = false := by first | simpa using c16 | (simp at c16 ⊢; omega)
      obtain rfl := Option.some.inj H
      have hcz18_0 : wr.cell? ⟨gb121, 0, none⟩ = some (.slice A0_0 l0_0.length c0_0) := (bC BK121.out 0).trans rfl
      have hcz18_1 : wr.cell? ⟨gb121, 1, none⟩ = some (.slice A0_1 l0_1.length c0_1) := (bC BK121.out 1).trans rfl
      have hfz18_0 := bF BK121.out 0
      have hfz18_1 := bF BK121.out 1
      have p123 : 0 ≤ (x3_2 : Int) := yA
      have q123 : x3_2 < (l0_0.length : Int) := yA
      obtain ⟨ad123, A123_0, c123_0, e123, hx123_0, hl123_0, hi123_0⟩ := at_L1 HR0_0.out x3_2 p123 q123
      cases e123
      replace hx123_0 := (HB.out.cell (World.block_lt_of_cell? w _ hx123_0)).trans hx123_0
      have HR123_0 := aM hi123_0
      have HC123_0 := aM hl123_0
      clear hi123_0 hl123_0
      replace p123 := eq_true p123
      replace q123 := eq_true q123
      go_wp2_with (first | (go_at_call 63; (with_reducible refine (spec_l2Point.calls k2 _ _ (rd_L1 l0_0 x3_2) true _ ?side1 ?side2 A13.out).mono ?_); (case side1 => exact xC (Kd.C_below HR123_0.out HB.out)); (case side2 => exact HC123_0.out); rintro e w' ⟨rfl, ⟨nd, rfl⟩⟩; (try first | exact ⟨rfl, _, World.drewN_drewN _ _ _⟩ | exact ⟨rfl, _, Eq.trans (World.drewN_drewN _ _ _) (congrArg (World.drewN _) (Nat.add_assoc _ _ _))⟩); have p125 : 0 ≤ (x3_2 : Int) := yA; have q125 : x3_2 < (l0_0.length : Int) := yA; obtain ⟨ad125, A125_0, c125_0, e125, hx125_0, hl125_0, hi125_0⟩ := at_L1 HR0_0.out x3_2 p125 q125; obtain rfl : ad123 = ad125 := (by injection e125); replace hx125_0 := (HB.out.cell (World.block_lt_of_cell? w _ hx125_0)).trans hx125_0; have HR125_0 := aM hi125_0; have HC125_0 := aM hl125_0; clear hi125_0 hl125_0; replace p125 := eq_true p125; replace q125 := eq_true q125; have ea_ := Option.some.inj (hx123_0.symm.trans hx125_0); injection ea_ with ea_ en_ ec_; subst ea_; subst ec_; clear en_; have p126 : 0 ≤ (0 : Int) := (by omega); have q126 : 0 < (l0_0.length : Int) := yA; obtain ⟨ad126, A126_0, c126_0, e126, hx126_0, hl126_0, hi126_0⟩ := at_L1 HR0_0.out 0 p126 q126; obtain rfl : ad123 = ad126 := (by injection e126); have qi126 : (0 < l0_0.length) = True := eq_true (by omega); (try rw [show ((0 : Int)).toNat = 0 from rfl] at hx126_0); (try rw [Addr.add_zero'] at hx126_0); replace hx126_0 := (HB.out.cell (World.block_lt_of_cell? w _ hx126_0)).trans hx126_0; have HR126_0 := aM hi126_0; have HC126_0 := aM hl126_0; clear hi126_0 hl126_0; replace p126 := eq_true p126; replace q126 := eq_true q126))
      repeat (go_quiet (first | (go_at_call 63; (with_reducible refine (spec_l2Point.calls k2 _ _ (rd_L1 l0_0 x3_2) true _ ?side1 ?side2 A13.out).mono ?_); (case side1 => exact xC (Kd.C_below HR123_0.out HB.out)); (case side2 => exact HC123_0.out); rintro e w' ⟨rfl, ⟨nd, rfl⟩⟩; (try first | exact ⟨rfl, _, World.drewN_drewN _ _ _⟩ | exact ⟨rfl, _, Eq.trans (World.drewN_drewN _ _ _) (congrArg (World.drewN _) (Nat.add_assoc _ _ _))⟩); have p125 : 0 ≤ (x3_2 : Int) := yA; have q125 : x3_2 < (l0_0.length : Int) := yA; obtain ⟨ad125, A125_0, c125_0, e125, hx125_0, hl125_0, hi125_0⟩ := at_L1 HR0_0.out x3_2 p125 q125; obtain rfl : ad123 = ad125 := (by injection e125); replace hx125_0 := (HB.out.cell (World.block_lt_of_cell? w _ hx125_0)).trans hx125_0; have HR125_0 := aM hi125_0; have HC125_0 := aM hl125_0; clear hi125_0 hl125_0; replace p125 := eq_true p125; replace q125 := eq_true q125; have ea_ := Option.some.inj (hx123_0.symm.trans hx125_0); injection ea_ with ea_ en_ ec_; subst ea_; subst ec_; clear en_; have p126 : 0 ≤ (0 : Int) := (by omega); have q126 : 0 < (l0_0.length : Int) := yA; obtain ⟨ad126, A126_0, c126_0, e126, hx126_0, hl126_0, hi126_0⟩ := at_L1 HR0_0.out 0 p126 q126; obtain rfl : ad123 = ad126 := (by injection e126); have qi126 : (0 < l0_0.length) = True := eq_true (by omega); (try rw [show ((0 : Int)).toNat = 0 from rfl] at hx126_0); (try rw [Addr.add_zero'] at hx126_0); replace hx126_0 := (HB.out.cell (World.block_lt_of_cell? w _ hx126_0)).trans hx126_0; have HR126_0 := aM hi126_0; have HC126_0 := aM hl126_0; clear hi126_0 hl126_0; replace p126 := eq_true p126; replace q126 := eq_true q126)); try go_wp2_with (first | (go_at_call 63; (with_reducible refine (spec_l2Point.calls k2 _ _ (rd_L1 l0_0 x3_2) true _ ?side1 ?side2 A13.out).mono ?_); (case side1 => exact xC (Kd.C_below HR123_0.out HB.out)); (case side2 => exact HC123_0.out); rintro e w' ⟨rfl, ⟨nd, rfl⟩⟩; (try first | exact ⟨rfl, _, World.drewN_drewN _ _ _⟩ | exact ⟨rfl, _, Eq.trans (World.drewN_drewN _ _ _) (congrArg (World.drewN _) (Nat.add_assoc _ _ _))⟩); have p125 : 0 ≤ (x3_2 : Int) := yA; have q125 : x3_2 < (l0_0.length : Int) := yA; obtain ⟨ad125, A125_0, c125_0, e125, hx125_0, hl125_0, hi125_0⟩ := at_L1 HR0_0.out x3_2 p125 q125; obtain rfl : ad123 = ad125 := (by injection e125); replace hx125_0 := (HB.out.cell (World.block_lt_of_cell? w _ hx125_0)).trans hx125_0; have HR125_0 := aM hi125_0; have HC125_0 := aM hl125_0; clear hi125_0 hl125_0; replace p125 := eq_true p125; replace q125 := eq_true q125; have ea_ := Option.some.inj (hx123_0.symm.trans hx125_0); injection ea_ with ea_ en_ ec_; subst ea_; subst ec_; clear en_; have p126 : 0 ≤ (0 : Int) := (by omega); have q126 : 0 < (l0_0.length : Int) := yA; obtain ⟨ad126, A126_0, c126_0, e126, hx126_0, hl126_0, hi126_0⟩ := at_L1 HR0_0.out 0 p126 q126; obtain rfl : ad123 = ad126 := (by injection e126); have qi126 : (0 < l0_0.length) = True := eq_true (by omega); (try rw [show ((0 : Int)).toNat = 0 from rfl] at hx126_0); (try rw [Addr.add_zero'] at hx126_0); replace hx126_0 := (HB.out.cell (World.block_lt_of_cell? w _ hx126_0)).trans hx126_0; have HR126_0 := aM hi126_0; have HC126_0 := aM hl126_0; clear hi126_0 hl126_0; replace p126 := eq_true p126; replace q126 := eq_true q126)))
      go_ret
      exact ⟨yF, xG1 HB.out GE121.out⟩
     rw [if_pos c16] at H
     have c16b0 : (((rd_L1 l0_0 x3_2).length : Int) == ((rd_L1 l0_0 0).length : Int)) = true := beq_iff_eq.mpr c16
     have c16b1 : (((rd_L1 l0_0 x3_2).length : Int) != ((rd_L1 l0_0 0).length : Int)) = false := bne_eq_false_iff_eq.mpr c16
     have c16b2 : ((rd_L1 l0_0 x3_2).length == (rd_L1 l0_0 0).length) = true := by first | simpa using c16 | (simp at c16 ⊢; omega)
     clear c16
     have H' := aM H
     clear H
     have hcz17_0 : wr.cell? ⟨gb121, 0, none⟩ = some (.slice A0_0 l0_0.length c0_0) := (bC BK121.out 0).trans rfl
     have hcz17_1 : wr.cell? ⟨gb121, 1, none⟩ = some (.slice A0_1 l0_1.length c0_1) := (bC BK121.out 1).trans rfl
     have hfz17_0 := bF BK121.out 0
     have hfz17_1 := bF BK121.out 1
     have p123 : 0 ≤ (x3_2 : Int) := yA
     have q123 : x3_2 < (l0_0.length : Int) := yA
     obtain ⟨ad123, A123_0, c123_0, e123, hx123_0, hl123_0, hi123_0⟩ := at_L1 HR0_0.out x3_2 p123 q123
     cases e123
     replace hx123_0 := (HB.out.cell (World.block_lt_of_cell? w _ hx123_0)).trans hx123_0
     have HR123_0 := aM hi123_0
     have HC123_0 := aM hl123_0
     clear hi123_0 hl123_0
     replace p123 := eq_true p123
     replace q123 := eq_true q123
     go_wp2_with (first | (go_at_call 63; (with_reducible refine (spec_l2Point.calls k2 _ _ (rd_L1 l0_0 x3_2) true _ ?side1 ?side2 A13.out).mono ?_); (case side1 => exact xC (Kd.C_below HR123_0.out HB.out)); (case side2 => exact HC123_0.out); rintro e w' ⟨rfl, ⟨nd, rfl⟩⟩; (try first | exact ⟨rfl, _, World.drewN_drewN _ _ _⟩ | exact ⟨rfl, _, Eq.trans (World.drewN_drewN _ _ _) (congrArg (World.drewN _) (Nat.add_assoc _ _ _))⟩); have p125 : 0 ≤ (x3_2 : Int) := yA; have q125 : x3_2 < (l0_0.length : Int) := yA; obtain ⟨ad125, A125_0, c125_0, e125, hx125_0, hl125_0, hi125_0⟩ := at_L1 HR0_0.out x3_2 p125 q125; obtain rfl : ad123 = ad125 := (by injection e125); replace hx125_0 := (HB.out.cell (World.block_lt_of_cell? w _ hx125_0)).trans hx125_0; have HR125_0 := aM hi125_0; have HC125_0 := aM hl125_0; clear hi125_0 hl125_0; replace p125 := eq_true p125; replace q125 := eq_true q125; have ea_ := Option.some.inj (hx123_0.symm.trans hx125_0); injection ea_ with ea_ en_ ec_; subst ea_; subst ec_; clear en_; have p126 : 0 ≤ (0 : Int) := (by omega); have q126 : 0 < (l0_0.length : Int) := yA; obtain ⟨ad126, A126_0, c126_0, e126, hx126_0, hl126_0, hi126_0⟩ := at_L1 HR0_0.out 0 p126 q126; obtain rfl : ad123 = ad126 := (by injection e126); have qi126 : (0 < l0_0.length) = True := eq_true (by omega); (try rw [show ((0 : Int)).toNat = 0 from rfl] at hx126_0); (try rw [Addr.add_zero'] at hx126_0); replace hx126_0 := (HB.out.cell (World.block_lt_of_cell? w _ hx126_0)).trans hx126_0; have HR126_0 := aM hi126_0; have HC126_0 := aM hl126_0; clear hi126_0 hl126_0; replace p126 := eq_true p126; replace q126 := eq_true q126))
     repeat (go_quiet (first | (go_at_call 63; (with_reducible refine (spec_l2Point.calls k2 _ _ (rd_L1 l0_0 x3_2) true _ ?side1 ?side2 A13.out).mono ?_); (case side1 => exact xC (Kd.C_below HR123_0.out HB.out)); (case side2 => exact HC123_0.out); rintro e w' ⟨rfl, ⟨nd, rfl⟩⟩; (try first | exact ⟨rfl, _, World.drewN_drewN _ _ _⟩ | exact ⟨rfl, _, Eq.trans (World.drewN_drewN _ _ _) (congrArg (World.drewN _) (Nat.add_assoc _ _ _))⟩); have p125 : 0 ≤ (x3_2 : Int) := yA; have q125 : x3_2 < (l0_0.length : Int) := yA; obtain ⟨ad125, A125_0, c125_0, e125, hx125_0, hl125_0, hi125_0⟩ := at_L1 HR0_0.out x3_2 p125 q125; obtain rfl : ad123 = ad125 := (by injection e125); replace hx125_0 := (HB.out.cell (World.block_lt_of_cell? w _ hx125_0)).trans hx125_0; have HR125_0 := aM hi125_0; have HC125_0 := aM hl125_0; clear hi125_0 hl125_0; replace p125 := eq_true p125; replace q125 := eq_true q125; have ea_ := Option.some.inj (hx123_0.symm.trans hx125_0); injection ea_ with ea_ en_ ec_; subst ea_; subst ec_; clear en_; have p126 : 0 ≤ (0 : Int) := (by omega); have q126 : 0 < (l0_0.length : Int) := yA; obtain ⟨ad126, A126_0, c126_0, e126, hx126_0, hl126_0, hi126_0⟩ := at_L1 HR0_0.out 0 p126 q126; obtain rfl : ad123 = ad126 := (by injection e126); have qi126 : (0 < l0_0.length) = True := eq_true (by omega); (try rw [show ((0 : Int)).toNat = 0 from rfl] at hx126_0); (try rw [Addr.add_zero'] at hx126_0); replace hx126_0 := (HB.out.cell (World.block_lt_of_cell? w _ hx126_0)).trans hx126_0; have HR126_0 := aM hi126_0; have HC126_0 := aM hl126_0; clear hi126_0 hl126_0; replace p126 := eq_true p126; replace q126 := eq_true q126)); try go_wp2_with (first | (go_at_call 63; (with_reducible refine (spec_l2Point.calls k2 _ _ (rd_L1 l0_0 x3_2) true _ ?side1 ?side2 A13.out).mono ?_); (case side1 => exact xC (Kd.C_below HR123_0.out HB.out)); (case side2 => exact HC123_0.out); rintro e w' ⟨rfl, ⟨nd, rfl⟩⟩; (try first | exact ⟨rfl, _, World.drewN_drewN _ _ _⟩ | exact ⟨rfl, _, Eq.trans (World.drewN_drewN _ _ _) (congrArg (World.drewN _) (Nat.add_assoc _ _ _))⟩); have p125 : 0 ≤ (x3_2 : Int) := yA; have q125 : x3_2 < (l0_0.length : Int) := yA; obtain ⟨ad125, A125_0, c125_0, e125, hx125_0, hl125_0, hi125_0⟩ := at_L1 HR0_0.out x3_2 p125 q125; obtain rfl : ad123 = ad125 := (by injection e125); replace hx125_0 := (HB.out.cell (World.block_lt_of_cell? w _ hx125_0)).trans hx125_0; have HR125_0 := aM hi125_0; have HC125_0 := aM hl125_0; clear hi125_0 hl125_0; replace p125 := eq_true p125; replace q125 := eq_true q125; have ea_ := Option.some.inj (hx123_0.symm.trans hx125_0); injection ea_ with ea_ en_ ec_; subst ea_; subst ec_; clear en_; have p126 : 0 ≤ (0 : Int) := (by omega); have q126 : 0 < (l0_0.length : Int) := yA; obtain ⟨ad126, A126_0, c126_0, e126, hx126_0, hl126_0, hi126_0⟩ := at_L1 HR0_0.out 0 p126 q126; obtain rfl : ad123 = ad126 := (by injection e126); have qi126 : (0 < l0_0.length) = True := eq_true (by omega); (try rw [show ((0 : Int)).toNat = 0 from rfl] at hx126_0); (try rw [Addr.add_zero'] at hx126_0); replace hx126_0 := (HB.out.cell (World.block_lt_of_cell? w _ hx126_0)).trans hx126_0; have HR126_0 := aM hi126_0; have HC126_0 := aM hl126_0; clear hi126_0 hl126_0; replace p126 := eq_true p126; replace q126 := eq_true q126)))
     go_roundg k2
     case measure => have := HJ1.out; have := HK2.out; omega
     case rel => exact ⟨(wrap64 (x3_2 + 1)), yZ, H', ⟨by have := HJ1.out; have := HK2.out; omega⟩, ⟨xB BK121.out⟩, ⟨xG1 HB.out GE121.out⟩⟩
def spec_l1Own.f (l0 : List Int) : Option (List Int) := (some (([] : List Int) : List Int)).bind fun y127 => (if y127.length + l0.length < 17592186044416 then (some (y127 ++ l0)) else (none))
theorem spec_l1Own.calls (A0 : Option Addr) (c0 : Nat) (l0 : List Int) (r : List Int) (w : World) (hr0 : Kd.C (Kd.int .i64) w A0 l0.length l0) (hc0 : l0.length ≤ c0) (h : spec_l1Own.f l0 = some r) :
  Calls Try.prog 95 #[.slice A0 l0.length c0] w fun e w' => ∃ v0_ : Value, e = .returned (v0_) ∧ Kd.R (Kd.int .i64) 3 w' w.heap.size (fun _ => True) v0_ r ∧ Below w.heap.size w w' := by
 have HR0 := aM hr0
 have HC0 := aM hc0
 clear hr0 hc0
 have HB := aM (Below.refl w.heap.size w)
 have H : ((some (([] : List Int) : List Int)).bind fun y127 => (if y127.length + l0.length < 17592186044416 then (some (y127 ++ l0)) else (none))) = some r := h
 clear h
 obtain ⟨y127, hy127⟩ := yE (([] : List Int) : List Int)
 replace H : (if y127.length + l0.length < 17592186044416 then (some (y127 ++ l0)) else (none)) = some r := yI hy127 H
 have Ny127 := aM hy127
 clear hy127
 by_cases c2 : y127.length + l0.length < 17592186044416
 rotate_left
 ·
  rw [if_neg c2] at H
  exact absurd H (by simp)
 rw [if_pos c2] at H
 have LMc2 := aM c2
 clear c2
 obtain ⟨y130, hy130⟩ := yE (y127 ++ l0 : List Int)
 replace H : (some y130) = some r := yI hy130 H
 have Ny130 := aM hy130
 clear hy130
 obtain rfl := Option.some.inj H
 go_enter Try.func95, Try.ntmps95
 go_wp2_with (first | ((with_reducible refine gate_dst (N := 3) rfl ?_); refine Kd.R_lit (Kd.int .i64) _ 3 ?hg (N := 3) ?hd (xs := ([] : List Int)) (inner := []) (ok := fun _ => True) (okp := fun _ => True) ?hr ?hp (fun _ hk => hk) trivial (Below.refl _ _) (Nat.le_refl _) (by simp) ?_; (case hd => rfl); (case hg => rfl); (case hr => first | (go_simp; done) | (go_simp; rfl)); (case hp => exact (Reps.none _ _)); intro v128 w3 ho4 hb hg_ hnew_; clear hg_ hnew_; (first | rw [← Ny127.out] at ho4 | (simp only [Int.reduceToNat] at ho4; rw [← Ny127.out] at ho4)); have HO129 := aM (Kd.R_lower ho4 (below_size (xH HB.out))); replace HB := yS0 HB hb; clear hb ho4) | ((with_reducible refine gate_builtin (b := .append) (xs := #[.tmp 3, .tmp 4]) rfl ?_); at_builtin; refine Kd.R_append_rows (Kd.int .i64) (w0 := w) w.heap.size rfl (.tmp 3) (.tmp 4) 22 3 (.int .i64 0) 8 rfl Try.underlying22 info3 rfl (by decide) (by omega) v128 y127 l0 _ _ _ (fun _ => True) (fun _ => False) rfl rfl ?aO ?aR (fun _ _ h => h) (fun _ h => h.elim) ?aF ?aB ?aS ?aL ?_; (case aR => exact xC (Kd.C_below HR0.out HB.out)); (case aB => exact (xH HB.out)); (case aF => exact (fun _ _ => trivial)); (case aO => exact (xR HO129.out)); (case aS => exact (below_size (xH HB.out))); (case aL => have := LMc2.out; omega); intro v131 w5 ho hb hg hat; rw [← Ny130.out] at ho; replace HB := aM (hb); have HO132 := aM (ho); clear HO129; clear ho hb hg hat))
 go_ret
 exact ⟨_, yF, xR HO132.out, by repeat (first | (with_reducible first | exact HB.out | apply eA | apply eN | apply eD) | exact HB.out)⟩
mutual
def spec_l4Choose.j0 : Nat → Int → Int → List Int → List (List Int) → Int → Option ((List (List Int)))
 | 0, _, _, _, _, _ => none
 | k + 1, x0, x1, x2, x7, x8 => spec_l4Choose.l0 k x0 x1 x2 x7 x8
def spec_l4Choose.l0 : Nat → Int → Int → List Int → List (List Int) → Int → Option ((List (List Int)))
 | 0, _, _, _, _, _ => none
 | k + 1, x0, x1, x2, x7, x9 => if x9 < x0 then ((spec_l1Own.f x2).bind fun t140 => (if t140.length < 17592186044416 then ((spec_l4Choose.f k x0 x1 (t140 ++ [x9])).bind fun t146 => (if x7.length + t146.length < 5864062014805 then (spec_l4Choose.l0 k x0 x1 x2 (x7 ++ t146) (wrap64 (x9 + 1))) else (none))) else (none))) else (some x7)
def spec_l4Choose.f : Nat → Int → Int → List Int → Option ((List (List Int)))
 | 0, _, _, _ => none
 | k + 1, a0, a1, l2 => if (l2.length : Int) = a1 then (some (([l2] : List (List Int)))) else ((some (([] : List (List Int)) : List (List Int))).bind fun y136 => (if (l2.length : Int) > 0 then (if 0 ≤ (wrap64 ((l2.length : Int) - 1)) then (if (wrap64 ((l2.length : Int) - 1)) < (l2.length : Int) then (spec_l4Choose.j0 k a0 a1 l2 y136 (wrap64 ((rd l2 (wrap64 ((l2.length : Int) - 1))) + 1))) else (none)) else (none)) else (spec_l4Choose.j0 k a0 a1 l2 y136 0)))
end
theorem spec_l4Choose.calls (k : Nat) : ∀ (a0 : Int) (a1 : Int) (P2_ : Nat → Prop) (A2 : Option Addr) (c2 : Nat) (l2 : List Int) (r : List (List Int)) (w : World) (hs2 : Kd.V (Kd.int .i64) 3 w w.heap.size (fun k_ => P2_ k_) (.slice A2 l2.length c2) l2) (h : spec_l4Choose.f k a0 a1 l2 = some r),
  Calls Try.prog 71 #[.int .i64 a0, .int .i64 a1, .slice A2 l2.length c2] w fun e w' => ∃ v0_ : Value, e = .returned (v0_) ∧ Kd.N (Kd.slice 3 (Kd.int .i64)) 22 w' w.heap.size (fun k_ => (P2_ k_ ∨ w.heap.size ≤ k_)) v0_ r ∧ Below w.heap.size w w' := by
 induction k using Nat.strongRecOn with
 | _ k ih =>
 intro a0 a1 P2_ A2 c2 l2 r w hs2 h
 cases k with
 | zero => exact absurd h (by simp [spec_l4Choose.f])
 | succ k =>
 simp only [spec_l4Choose.f] at h
 have HO2 := aM (show Kd.V (Kd.int .i64) 3 w w.heap.size (fun k_ => (P2_ k_ ∨ w.heap.size ≤ k_)) (.slice A2 l2.length c2) l2 from Kd.V_mono hs2 (fun k_ hk => .inl hk))
 have HB := aM (Below.refl w.heap.size w)
 have H : (if (l2.length : Int) = a1 then (some (([l2] : List (List Int)))) else ((some (([] : List (List Int)) : List (List Int))).bind fun y136 => (if (l2.length : Int) > 0 then (if 0 ≤ (wrap64 ((l2.length : Int) - 1)) then (if (wrap64 ((l2.length : Int) - 1)) < (l2.length : Int) then (spec_l4Choose.j0 k a0 a1 l2 y136 (wrap64 ((rd l2 (wrap64 ((l2.length : Int) - 1))) + 1))) else (none)) else (none)) else (spec_l4Choose.j0 k a0 a1 l2 y136 0)))) = some r := h
 clear h
 by_cases c4 : (l2.length : Int) = a1
 ·
  rw [if_pos c4] at H
  have c4b0 : ((l2.length : Int) == a1) = true := beq_iff_eq.mpr c4
  have c4b1 : ((l2.length : Int) != a1) = false := bne_eq_false_iff_eq.mpr c4
  clear c4
  obtain ⟨y133, hy133⟩ := yE (([l2] : List (List Int)) : List (List Int))
  replace H : (some y133) = some r := yI hy133 H
  have Ny133 := aM hy133
  clear hy133
  obtain rfl := Option.some.inj H
  go_enter Try.func71, Try.ntmps71
  go_wp2_with (first | ((with_reducible refine gate_dst (N := 15) rfl ?_); refine Kd.N_lit (Kd.slice 3 (Kd.int .i64)) _ 22 ?hg (N' := 15) ?hd (xs := ([l2] : List (List Int))) (inner := [.slice A2 l2.length c2]) (ok := (fun k_ => (P2_ k_ ∨ w.heap.size ≤ k_))) (okp := (fun k_ => (P2_ k_ ∨ w.heap.size ≤ k_))) ?hr ?hp (fun _ hk => hk) ((show ∀ k_, w.heap.size ≤ k_ → (fun k_ => (P2_ k_ ∨ w.heap.size ≤ k_)) k_ from fun k_ hk => (.inr (Nat.le_trans (below_size (xH HB.out)) hk))) _ (Nat.le_refl _)) (Below.refl _ _) (Nat.le_refl _) (by simp) ?_; (case hd => rfl); (case hg => rfl); (case hr => first | (go_simp; done) | (go_simp; rfl)); (case hp => exact (Reps.one (show Kd.FK (Kd.slice 3 (Kd.int .i64)) _ _ l2 [.slice A2 l2.length c2] from (Kd.FK_slice_mk (Kd.V_reads' (Kd.V_mono (ok' := (fun k_ => (P2_ k_ ∨ w.heap.size ≤ k_))) (HO2.out) (fun k_ hk => hk))).2.1 (Kd.V_F (Kd.V_mono (ok' := (fun k_ => (P2_ k_ ∨ w.heap.size ≤ k_))) (HO2.out) (fun k_ hk => hk))))) (Reps.none _ _))); intro v134 w5 ho6 hb hg_ hnew_; clear hg_ hnew_; (first | rw [← Ny133.out] at ho6 | (simp only [Int.reduceToNat] at ho6; rw [← Ny133.out] at ho6)); replace HO2 := aM (Kd.V_elder' (xV HO2.out) (by first | exact Kd.N_base ho6 | exact Kd.S_base ho6 | exact Kd.R_base ho6) hb); have HO135 := aM (Kd.N_lower ho6 (below_size (xH HB.out))); replace HB := yS0 HB hb; clear hb ho6))
  go_ret
  exact ⟨_, yF, xN HO135.out, by repeat (first | (with_reducible first | exact HB.out | apply eA | apply eN | apply eD) | exact HB.out)⟩
 rw [if_neg c4] at H
 have c4b0 : ((l2.length : Int) == a1) = false := beq_eq_false_iff_ne.mpr c4
 have c4b1 : ((l2.length : Int) != a1) = true := bne_iff_ne.mpr c4
 obtain ⟨y136, hy136⟩ := yE (([] : List (List Int)) : List (List Int))
 replace H : (if (l2.length : Int) > 0 then (if 0 ≤ (wrap64 ((l2.length : Int) - 1)) then (if (wrap64 ((l2.length : Int) - 1)) < (l2.length : Int) then (spec_l4Choose.j0 k a0 a1 l2 y136 (wrap64 ((rd l2 (wrap64 ((l2.length : Int) - 1))) + 1))) else (none)) else (none)) else (spec_l4Choose.j0 k a0 a1 l2 y136 0)) = some r := yI hy136 H
 have Ny136 := aM hy136
 clear hy136
 have HC7 := aM H
 clear H
 go_enter Try.func71, Try.ntmps71
 go_upto_if 19 with (first | ((with_reducible refine gate_dst (N := 16) rfl ?_); refine Kd.N_lit (Kd.slice 3 (Kd.int .i64)) _ 22 ?hg (N' := 16) ?hd (xs := ([] : List (List Int))) (inner := []) (ok := (fun k_ => (P2_ k_ ∨ w.heap.size ≤ k_))) (okp := (fun k_ => (P2_ k_ ∨ w.heap.size ≤ k_))) ?hr ?hp (fun _ hk => hk) ((show ∀ k_, w.heap.size ≤ k_ → (fun k_ => (P2_ k_ ∨ w.heap.size ≤ k_)) k_ from fun k_ hk => (.inr (Nat.le_trans (below_size (xH HB.out)) hk))) _ (Nat.le_refl _)) (Below.refl _ _) (Nat.le_refl _) (by simp) ?_; (case hd => rfl); (case hg => rfl); (case hr => first | (go_simp; done) | (go_simp; rfl)); (case hp => exact (Reps.none _ _)); intro v137 w8 ho9 hb hg_ hnew_; clear hg_ hnew_; (first | rw [← Ny136.out] at ho9 | (simp only [Int.reduceToNat] at ho9; rw [← Ny136.out] at ho9)); replace HO2 := aM (Kd.V_elder' (xV HO2.out) (by first | exact Kd.N_base ho9 | exact Kd.S_base ho9 | exact Kd.R_base ho9) hb); have HO138 := aM (Kd.N_lower ho9 (below_size (xH HB.out))); replace HB := yS0 HB hb; clear hb ho9))
 (try simp only [Act.put, sA, sZ, sU])
 go_cut [8] (fun v8 wc => ∃ (kq : Nat) (x8_6 : Int), v8 = .int .i64 x8_6 ∧ Aside0 (spec_l4Choose.j0 kq a0 a1 l2 y136 x8_6 = some r) ∧ Aside0 (kq ≤ k) ∧ Aside0 (Kd.V (Kd.int .i64) 3 wc w.heap.size (fun k_ => (P2_ k_ ∨ w.heap.size ≤ k_) ∧ some k_ ≠ (v137 : Value).ownBlock) (.slice A2 l2.length c2) l2) ∧ Aside0 (Kd.N (Kd.slice 3 (Kd.int .i64)) 22 wc w.heap.size (fun k_ => (P2_ k_ ∨ w.heap.size ≤ k_)) v137 y136) ∧ Aside0 (Below w.heap.size w wc))
 case first =>
  have H := HC7.out
  clear HC7
  by_cases c10 : (l2.length : Int) > 0
  rotate_left
  ·
   rw [if_neg c10] at H
   have c10b0 : decide (0 < (l2.length : Int)) = false := decide_eq_false c10
   have c10b1 : decide (0 < l2.length) = false := decide_eq_false (by omega)
   clear c10
   (first | rw [c10b0] | (simp only [i64_w, i32_w]; rw [c10b0]) | rw [c10b1] | skip)
   have H' := aM H
   clear H
   go_wp2
   go_meet
   case rel => exact ⟨_, (0), yZ, H', ⟨yM⟩, ⟨xV HO2.out⟩, ⟨xN HO138.out⟩, ⟨xH HB.out⟩⟩
  rw [if_pos c10] at H
  have c10b0 : decide (0 < (l2.length : Int)) = true := decide_eq_true c10
  have c10b1 : decide (0 < l2.length) = true := decide_eq_true (by omega)
  clear c10
  (first | rw [c10b0] | (simp only [i64_w, i32_w]; rw [c10b0]) | rw [c10b1] | skip)
  obtain ⟨ji11, hji11⟩ := yJ ((wrap64 ((l2.length : Int) - 1)))
  (first | rw [hji11] at H | simp only [hji11] at H)
  have hji11w : (IntKind.i64.wrap ((l2.length : Int) - 1)) = ji11 := (i64_w _).trans hji11
  by_cases c12 : 0 ≤ (ji11)
  rotate_left
  ·
   rw [if_neg c12] at H
   exact absurd H (by simp)
  rw [if_pos c12] at H
  have c12b0 := decide_eq_true c12
  clear c12
  by_cases c13 : (ji11) < (l2.length : Int)
  rotate_left
  ·
   rw [if_neg c13] at H
   exact absurd H (by simp)
  rw [if_pos c13] at H
  have c13b0 := decide_eq_true c13
  clear c13
  have H' := aM H
  clear H
  have p139 : 0 ≤ ((ji11) : Int) := yA
  have q139 : (ji11) < (l2.length : Int) := yA
  obtain ⟨ad139, e139, hx139_0⟩ := Kd.at_int (Kd.V_reads' HO2.out).2.2 (ji11) p139 q139
  cases e139
  replace p139 := eq_true p139
  replace q139 := eq_true q139
  go_wp2
  (try subst hji11)
  go_meet
  case rel => exact ⟨_, (wrap64 ((rd l2 ((wrap64 ((l2.length : Int) - 1)))) + 1)), (by first | rfl | (simp; done) | (simp only [← hji11] <;> (first | rfl | simp)) | (simp [*]; done)), H', ⟨yM⟩, ⟨xV HO2.out⟩, ⟨xN HO138.out⟩, ⟨xH HB.out⟩⟩
 case rest =>
  clear HC7
  try clear c2; try clear c4; try clear c4b0; try clear c4b1; try clear c10; try clear c10b0; try clear c10b1; try clear c12; try clear c12b0; try clear c13; try clear c13b0; try clear hx139_0; try clear p139; try clear q139
  obtain ⟨kq, x8_6, rfl, HA, HJ6, HO_2, HO_7, HB⟩ := hcut
  cases kq with
  | zero => exact absurd HA.out (by simp [spec_l4Choose.j0])
  | succ kj6 =>
   have H := HA.out
   clear HA
   simp only [spec_l4Choose.j0] at H
   have H' := aM H
   clear H
   go_wp2
   go_loopg [7, 9] kj6 (fun kq v7 v9 w' => ∃ (x7_2 : List (List Int)) (x9_2 : Int), v9 = .int .i64 x9_2 ∧ Aside0 (spec_l4Choose.l0 kq a0 a1 l2 x7_2 x9_2 = some r) ∧ Aside0 (kq ≤ kj6) ∧ Aside0 (Kd.V (Kd.int .i64) 3 w' w.heap.size (fun k_ => (P2_ k_ ∨ w.heap.size ≤ k_) ∧ some k_ ≠ (v7 : Value).ownBlock) (.slice A2 l2.length c2) l2) ∧ Aside0 (Kd.N (Kd.slice 3 (Kd.int .i64)) 22 w' w.heap.size (fun k_ => (P2_ k_ ∨ w.heap.size ≤ k_)) v7 x7_2) ∧ Aside0 (Below w.heap.size w w'))
   case atStart => exact ⟨(y136), (x8_6), yZ, H', ⟨Nat.le_refl _⟩, ⟨xV HO_2.out⟩, ⟨xN HO_7.out⟩, ⟨xH HB.out⟩⟩
   case round =>
    clear H'
    try clear c2
    obtain ⟨x7_2, x9_2, rfl, HA, HK2, HO_2, HO_7, HB⟩ := hrel
    cases gk with
    | zero => exact absurd HA.out (by simp [spec_l4Choose.l0])
    | succ k2 =>
     have H := HA.out
     clear HA
     simp only [spec_l4Choose.l0] at H
     by_cases c14 : x9_2 < a0
     rotate_left
     ·
      rw [if_neg c14] at H
      have c14b0 := decide_eq_false c14
      clear c14
      obtain rfl := Option.some.inj H
      go_wp2
      go_ret
      exact ⟨_, yF, xN HO_7.out, by repeat (first | (with_reducible first | exact HB.out | apply eA | apply eN | apply eD) | exact HB.out)⟩
     rw [if_pos c14] at H
     have c14b0 := decide_eq_true c14
     clear c14
     replace H := oB.mp H
     obtain ⟨t140, A150, H⟩ := H
     have A15 := aM A150
     clear A150
     by_cases c16 : t140.length < 17592186044416
     rotate_left
     ·
      rw [if_neg c16] at H
      exact absurd H (by simp)
     rw [if_pos c16] at H
     have LMc16 := aM c16
     clear c16
     obtain ⟨y143, hy143⟩ := yE (t140 ++ [x9_2] : List Int)
     replace H : ((spec_l4Choose.f k2 a0 a1 y143).bind fun t146 => (if x7_2.length + t146.length < 5864062014805 then (spec_l4Choose.l0 k2 a0 a1 l2 (x7_2 ++ t146) (wrap64 (x9_2 + 1))) else (none))) = some r := yI hy143 H
     have Ny143 := aM hy143
     clear hy143
     replace H := oB.mp H
     obtain ⟨t146, A170, H⟩ := H
     have A17 := aM A170
     clear A170
     by_cases c18 : x7_2.length + t146.length < 5864062014805
     rotate_left
     ·
      rw [if_neg c18] at H
      exact absurd H (by simp)
     rw [if_pos c18] at H
     have LMc18 := aM c18
     clear c18
     obtain ⟨y149, hy149⟩ := yE (x7_2 ++ t146 : List (List Int))
     replace H : (spec_l4Choose.l0 k2 a0 a1 l2 y149 (wrap64 (x9_2 + 1))) = some r := yI hy149 H
     have Ny149 := aM hy149
     clear hy149
     have H' := aM H
     clear H
     go_wp2_with (first | (refine yL 37 Try.func95 #[.slice A2 l2.length c2] ?_; (with_reducible refine (spec_l1Own.calls _ _ l2 t140 _ ?side1 ?side2 A15.out).mono ?_); (case side1 => repeat (first | exact (Kd.V_reads' HO_2.out).2.2 | (with_reducible refine Kd.C_alloc ?_ _) | (with_reducible refine Kd.C_drewN ?_ _) | (with_reducible refine Kd.C_drew ?_))); (case side2 => exact (Kd.V_reads' HO_2.out).2.1); rintro e w19 ⟨v141, rfl, ho0, hb⟩; refine ⟨_, rfl, ?_⟩; replace HO_2 := aM (Kd.V_elder' (xV HO_2.out) (Kd.R_base ho0) hb); replace HO_7 := aM (Kd.N_elder' (xN HO_7.out) (Kd.R_base ho0) hb); have HO142 := aM (Kd.R_lower (Kd.R_newM (M := fun k_ => (w.heap.size ≤ k_)) ho0 (below_size (xH HB.out)) (fun k_ h_ => h_)) (below_size (xH HB.out))); replace HB := yS0 HB hb; (try clear hb; try clear hk; try clear ho0)) | ((with_reducible refine gate_builtin (b := .append) (xs := #[.tmp 37, .tmp 39]) rfl ?_); at_builtin; refine Kd.R_append (Kd.int .i64) (w0 := w) w.heap.size rfl (.tmp 37) (.tmp 39) 22 3 (.int .i64 0) 8 rfl Try.underlying22 info3 rfl (by decide) (by omega) v141 t140 x9_2 [.int .i64 x9_2] (fun k_ => (w.heap.size ≤ k_)) (fun _ => False) rfl rfl ?aP (fun _ hk => hk.elim) ?aF ?aO ?aB ?aS ?aL ?_; (case aP => exact rfl); (case aB => exact (xH HB.out)); (case aF => exact (fun k_ hk => (Nat.le_trans (below_size (xH HB.out)) hk))); (case aO => exact (zR (rM HO142.out (fun _ hk => hk.1)))); (case aS => exact (below_size (xH HB.out))); (case aL => have := LMc16.out; omega); intro v144 w20 ho hb hg hat; rw [← Ny143.out] at ho; replace HO_2 := aM (Kd.V_afterv (ok := (fun k_ => (P2_ k_ ∨ w.heap.size ≤ k_) ∧ some k_ ≠ (u7 : Value).ownBlock)) (xV HO_2.out) hg hat); replace HO_7 := aM (Kd.N_afterv (ok := (fun k_ => (P2_ k_ ∨ w.heap.size ≤ k_))) (xN HO_7.out) hg hat); replace HB := aM (hb); have HO145 := aM (ho); clear HO142; clear ho hb hg hat; obtain ⟨Ao21, co21, eo21⟩ := Kd.R_slice HO145.out; subst eo21) | (refine yL 41 Try.func71 #[.int .i64 a0, .int .i64 a1, .slice Ao21 y143.length co21] ?_; (with_reducible refine (ih k2 (by have := HJ6.out; have := HK2.out; omega) a0 a1 (fun k_ => some k_ = (.slice Ao21 y143.length co21 : Value).ownBlock) _ _ y143 t146 _ ?side1 A17.out).mono ?_); (case side1 => exact Kd.R_V (Kd.R_tight rfl (Kd.R_apart' (HO145.out) (Kd.N_typed HO_7.out) (by decide)))); rintro e w22 ⟨v147, rfl, ho0, hb⟩; refine ⟨_, rfl, ?_⟩; replace HO_2 := aM (Kd.V_elder' (xV HO_2.out) (by first | exact Kd.N_base ho0 | exact Kd.S_base ho0 | exact Kd.R_base ho0) hb); have HO148 := aM (Kd.N_lower (Kd.N_mono (ok' := fun k_ => (P2_ k_ ∨ w.heap.size ≤ k_) ∧ some k_ ≠ (u7 : Value).ownBlock) ho0 (fun k_ hk_ => ⟨Or.elim hk_ (fun hs_ => (.inr (((Kd.R_apart' (HO145.out) (Kd.N_typed HO_7.out) (by decide)).1 k_ hs_.symm).1))) (fun hn_ => (.inr (Nat.le_trans (below_size (xH HB.out)) hn_))), Or.elim hk_ (fun hs_ => ((Kd.R_apart' (HO145.out) (Kd.N_typed HO_7.out) (by decide)).1 k_ hs_.symm).2) (fun hn_ => (Kd.fresh' (Kd.N_lt (xN HO_7.out)) k_ hn_))⟩)) (below_size (xH HB.out))); replace HO_7 := aM (Kd.N_elder' (xN HO_7.out) (by first | exact Kd.N_base ho0 | exact Kd.S_base ho0 | exact Kd.R_base ho0) hb); replace HO145 := aM (Kd.R_below (xR HO145.out) hb); replace HB := yS0 HB hb; (try clear hb; try clear hk; try clear ho0); obtain ⟨Ao24, co24, eo24⟩ := Kd.N_slice HO148.out; subst eo24) | ((with_reducible refine gate_builtin (b := .append) (xs := #[.tmp 33, .tmp 41]) rfl ?_); at_builtin; refine Kd.N_append_rows (Kd.slice 3 (Kd.int .i64)) (w0 := w) w.heap.size rfl (.tmp 33) (.tmp 41) 32 22 (.slice none 0 0) 24 rfl Try.underlying32 info22 rfl (by decide) (by omega) u7 x7_2 t146 _ _ _ (fun k_ => (P2_ k_ ∨ w.heap.size ≤ k_)) (fun k_ => ((fun k_ => (P2_ k_ ∨ w.heap.size ≤ k_))) k_ ∧ some k_ ≠ (u7 : Value).ownBlock) rfl rfl ?aO ?aR (fun _ hk => hk) ?aF ?aB ?aS ?aL ?_; (case aR => exact (by skip; exact Kd.N_F (Kd.N_mono (ok' := (fun k_ => ((fun k_ => (P2_ k_ ∨ w.heap.size ≤ k_))) k_ ∧ some k_ ≠ (u7 : Value).ownBlock)) (HO148.out) (fun k_ hk => ⟨hk.1, hk.2⟩)))); (case aB => exact (xH HB.out)); (case aF => exact (fun k_ hk => (.inr (Nat.le_trans (below_size (xH HB.out)) hk)))); (case aO => exact (zN (Kd.N_mono HO_7.out (fun _ hk => hk.1.1)))); (case aS => exact (below_size (xH HB.out))); (case aL => have := LMc18.out; omega); intro v150 w23 ho hb hg hat; rw [← Ny149.out] at ho; replace HO_2 := aM (Kd.V_afterv (ok := (fun k_ => (P2_ k_ ∨ w.heap.size ≤ k_) ∧ some k_ ≠ (.slice Ao21 y143.length co21 : Value).ownBlock ∧ some k_ ≠ (.slice Ao24 t146.length co24 : Value).ownBlock)) (by (with_reducible repeat (first | apply Kd.V_alloc | apply Kd.V_drewN | apply Kd.V_drew)); exact Kd.V_mono HO_2.out (fun _ hk => ⟨⟨hk.1.1.1, ⟨hk.1.2, hk.2⟩⟩, hk.1.1.2⟩)) hg hat); replace HO145 := aM (Kd.R_over' (xR HO145.out) (Kd.N_typed (xN HO_7.out)) (by decide) hg); replace HO148 := aM (Kd.N_afterv (ok := (fun k_ => (P2_ k_ ∨ w.heap.size ≤ k_))) (xN HO148.out) hg hat); replace HB := aM (hb); have HO151 := aM (ho); clear HO_7; clear ho hb hg hat))
     go_roundg k2
     case measure => have := HJ6.out; have := HK2.out; omega
     case rel => exact ⟨(y149), (wrap64 (x9_2 + 1)), yZ, H', ⟨by have := HJ6.out; have := HK2.out; omega⟩, ⟨by (with_reducible repeat (first | apply Kd.V_alloc | apply Kd.V_drewN | apply Kd.V_drew)); exact Kd.V_mono HO_2.out (fun _ hk => ⟨hk.1.1, hk.2⟩)⟩, ⟨xN HO151.out⟩, ⟨xH HB.out⟩⟩
end Go.Proofs.Ytgidnmpppbkamaa.PFnExactPlaneClass
