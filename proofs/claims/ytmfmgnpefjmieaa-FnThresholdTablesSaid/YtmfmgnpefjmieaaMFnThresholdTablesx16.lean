-- Laid for this claim by a program of the session's own (wip/tool/myprint.py).
import Derived.Test.YtmfmgnpefjmieaaMFnThresholdTablesx5
namespace Go.Proofs.Ytmfmgnpefjmieaa.PFnThresholdTables
open Go.RowKit Go.Proofs.YtmfmgnpefjmieaaW.PrintWords Go.Proofs.YtmfmgnpefjmieaaW.PrintLast Go.Proofs.YtmfmgnpefjmieaaW.PrintMore
attribute [local go_sem] max2_int min2_int max_two min_two max_three min_three max_four min_four
set_option linter.unusedVariables false
set_option maxHeartbeats 8000000
set_option maxRecDepth 100000
set_option linter.unusedSimpArgs false
def impl_IsPoint.f (k : Nat) (l0 : List Int) : Option (Bool) := (impl_within.f (l0.length : Int) 1 4).bind fun t525 => (if t525 = true then ((impl_allWithin.f k l0 (-9) 9).bind fun t526 => (some t526)) else (some false))
theorem impl_IsPoint.calls (k : Nat) (A0 : Option Addr) (c0 : Nat) (l0 : List Int) (r : Bool) (w : World) (hr0 : Kd.C (Kd.int .i64) w A0 l0.length l0) (hc0 : l0.length ≤ c0) (h : impl_IsPoint.f k l0 = some r) :
    Calls Try.prog 135 #[.slice A0 l0.length c0] w fun e w' => e = .returned (.bool r) ∧ Drawn0 w w' := by
 have HR0 := aM hr0
 have HC0 := aM hc0
 clear hr0 hc0
 have H : ((impl_within.f (l0.length : Int) 1 4).bind fun t525 => (if t525 = true then ((impl_allWithin.f k l0 (-9) 9).bind fun t526 => (some t526)) else (some false))) = some r := h
 clear h
 replace H := oB.mp H
 obtain ⟨t525, A20, H⟩ := H
 have A2 := aM A20
 clear A20
 by_cases c3 : t525 = true
 rotate_left
 ·
  replace c3 := Bool.eq_false_iff.mpr c3
  subst c3
  rw [if_neg (show ¬ (false = true) by decide)] at H
  obtain rfl := Option.some.inj H
  go_enter Try.func135, Try.ntmps135
  go_wp2_with (first | (refine yL 5 Try.func109 #[.int .i64 (l0.length : Int), .int .i64 1, .int .i64 4] ?_; (with_reducible refine (impl_within.calls (l0.length : Int) 1 4 false _ A2.out).mono ?_); rintro e w' ⟨rfl, ⟨nd, rfl⟩⟩; refine ⟨_, rfl, ?_⟩))
  go_ret
  exact ⟨yZ, yDn⟩
 subst c3
 rw [if_pos rfl] at H
 replace H := oB.mp H
 obtain ⟨t526, A40, H⟩ := H
 have A4 := aM A40
 clear A40
 obtain rfl := Option.some.inj H
 go_enter Try.func135, Try.ntmps135
 go_wp2_with (first | (refine yL 5 Try.func109 #[.int .i64 (l0.length : Int), .int .i64 1, .int .i64 4] ?_; (with_reducible refine (impl_within.calls (l0.length : Int) 1 4 true _ A2.out).mono ?_); rintro e w' ⟨rfl, ⟨nd, rfl⟩⟩; refine ⟨_, rfl, ?_⟩) | (go_at_call 88; (with_reducible refine (impl_allWithin.calls k _ _ l0 (-9) 9 t526 _ (xC HR0.out) HC0.out A4.out).mono ?_); rintro e w' ⟨rfl, ⟨nd, rfl⟩⟩))
 go_ret
 exact ⟨yZ, yDn⟩
def impl_isLabel.f (a0 : Int) : Option (Bool) := if a0 = 1 then (some true) else (some (a0 == (-1)))
theorem impl_isLabel.calls (a0 : Int) (r : Bool) (w : World) (h : impl_isLabel.f a0 = some r) :
    Calls Try.prog 136 #[.int .i64 a0] w fun e w' => e = .returned (.bool r) ∧ Drawn0 w w' := by
 have H : (if a0 = 1 then (some true) else (some (a0 == (-1)))) = some r := h
 clear h
 obtain ⟨c2, -, H⟩ | ⟨c2, -, H⟩ := yif H
 rotate_left
 ·
  have c2b0 : (a0 == 1) = false := beq_eq_false_iff_ne.mpr c2
  have c2b1 : (a0 != 1) = true := bne_iff_ne.mpr c2
  obtain rfl := Option.some.inj H
  go_enter Try.func136, Try.ntmps136
  go_wp2
  go_ret
  exact ⟨yZ, yDn⟩
 have c2b0 : (a0 == 1) = true := beq_iff_eq.mpr c2
 have c2b1 : (a0 != 1) = false := bne_eq_false_iff_eq.mpr c2
 clear c2
 obtain rfl := Option.some.inj H
 go_enter Try.func136, Try.ntmps136
 go_wp2
 go_ret
 exact ⟨yZ, yDn⟩
mutual
def impl_IsSample.j0 : Nat → Bool → List (List Int) → List Int → Option (Bool)
  | 0, _, _, _ => none
  | k + 1, x17, x528000, x528001 => if x17 = true then (some false) else (impl_IsSample.l0 k x528000 (x528000.length : Int) 0 x528000 x528001)
def impl_IsSample.l0 : Nat → List (List Int) → Int → Int → List (List Int) → List Int → Option (Bool)
  | 0, _, _, _, _, _ => none
  | k + 1, x19, x20, x21, x528000, x528001 => if x21 < x20 then (if 0 ≤ x21 then (if x21 < (x19.length : Int) then ((impl_IsPoint.f k (rd_L2 x19 x21)).bind fun t529 => (if t529 = true then (if 0 < (x528000.length : Int) then (if ((rd_L2 x19 x21).length : Int) = ((rd_L2 x528000 0).length : Int) then (if x21 < (x528001.length : Int) then ((impl_isLabel.f (rd x528001 x21)).bind fun t532 => (if t532 = true then (impl_IsSample.l0 k x19 x20 (wrap64 (x21 + 1)) x528000 x528001) else (some false))) else (none)) else (some false)) else (none)) else (some false))) else (none)) else (none)) else (some true)
end
def impl_IsSample.f (k : Nat) (l0_0 : List (List Int)) (l0_1 : List Int) : Option (Bool) := if (l0_0.length : Int) > 16 then (impl_IsSample.j0 k true l0_0 l0_1) else (impl_IsSample.j0 k ((l0_1.length : Int) != (l0_0.length : Int)) l0_0 l0_1)
theorem impl_IsSample.calls (k : Nat) (A0_0 : Option Addr) (c0_0 : Nat) (l0_0 : List (List Int)) (A0_1 : Option Addr) (c0_1 : Nat) (l0_1 : List Int) (r : Bool) (w : World) (hr0_0 : Kd.C (Kd.slice 3 (Kd.int .i64)) w A0_0 l0_0.length l0_0) (hc0_0 : l0_0.length ≤ c0_0) (hr0_1 : Kd.C (Kd.int .i64) w A0_1 l0_1.length l0_1) (hc0_1 : l0_1.length ≤ c0_1) (h : impl_IsSample.f k l0_0 l0_1 = some r) :
    Calls Try.prog 91 #[.agg #[.slice A0_0 l0_0.length c0_0, .slice A0_1 l0_1.length c0_1]] w fun e w' => e = .returned (.bool r) ∧ Below w.heap.size w w' := by
 have hu46 := Try.underlying46
 have HR0_0 := aM hr0_0
 have HC0_0 := aM hc0_0
 clear hr0_0 hc0_0
 have HR0_1 := aM hr0_1
 have HC0_1 := aM hc0_1
 clear hr0_1 hc0_1
 have HB := aM (Below.refl w.heap.size w)
 have H : (if (l0_0.length : Int) > 16 then (impl_IsSample.j0 k true l0_0 l0_1) else (impl_IsSample.j0 k ((l0_1.length : Int) != (l0_0.length : Int)) l0_0 l0_1)) = some r := h
 clear h
 have HC2 := aM H
 clear H
 go_enter Try.func91, Try.ntmps91
 go_upto_region 1 with (first | ((with_reducible refine gate_dst (N := 1) rfl ?_); (try (refine gate_guard (by rfl) ?_; dsimp only)); refine yB 1 #[.slice A0_0 l0_0.length c0_0, .slice A0_1 l0_1.length c0_1] 46 ?_; intro gb527 hg w3 hbox hb; have BK527 := aM (hbox); have GW527 := yV0 hg HB; have GE527 := yV0 hg HB; replace HB := yS0 HB hb; clear hb hbox hg))
 (try simp only [Act.put, sA, sZ, sU])
 go_cut [17] (fun v17 wc => ∃ (kq : Nat) (x17_1 : Bool), v17 = .bool x17_1 ∧ Aside0 (impl_IsSample.j0 kq x17_1 l0_0 l0_1 = some r) ∧ Aside0 (kq ≤ k) ∧ Aside0 (wc.heap[gb527]? = some (.cells #[(.slice A0_0 l0_0.length c0_0), (.slice A0_1 l0_1.length c0_1)] 46 (0, 0))) ∧ Aside0 (Below w.heap.size w wc))
 case first =>
  have H := HC2.out
  clear HC2
  obtain ⟨c4, -, H⟩ | ⟨c4, -, H⟩ := yif H
  ·
   have c4b0 : decide (16 < (l0_0.length : Int)) = true := decide_eq_true c4
   have c4b1 : decide (16 < l0_0.length) = true := decide_eq_true (by omega)
   clear c4
   (first | rw [c4b0] | (simp only [i64_w, i32_w]; rw [c4b0]) | rw [c4b1] | skip)
   have H' := aM H
   clear H
   have hcz5_0 := yC0 BK527
   have hcz5_1 := yC1 BK527
   have hfz5_0 := bF BK527.out 0
   have hfz5_1 := bF BK527.out 1
   go_wp2
   go_meet
   case rel => exact ⟨_, (true), yZ, H', ⟨yM⟩, ⟨xB BK527.out⟩, ⟨xG1 HB.out GE527.out⟩⟩
  have c4b0 : decide (16 < (l0_0.length : Int)) = false := decide_eq_false c4
  have c4b1 : decide (16 < l0_0.length) = false := decide_eq_false (by omega)
  clear c4
  (first | rw [c4b0] | (simp only [i64_w, i32_w]; rw [c4b0]) | rw [c4b1] | skip)
  have H' := aM H
  clear H
  have hcz6_0 := yC0 BK527
  have hcz6_1 := yC1 BK527
  have hfz6_0 := bF BK527.out 0
  have hfz6_1 := bF BK527.out 1
  go_wp2
  go_meet
  case rel => exact ⟨_, (((l0_1.length : Int) != (l0_0.length : Int))), yZ, H', ⟨yM⟩, ⟨xB BK527.out⟩, ⟨xG1 HB.out GE527.out⟩⟩
 case rest =>
  clear HC2
  try clear c4
  try clear c4b0
  try clear c4b1
  try clear hcz5_0
  try clear hcz5_1
  try clear hcz6_0
  try clear hcz6_1
  try clear hfz5_0
  try clear hfz5_1
  try clear hfz6_0
  try clear hfz6_1
  obtain ⟨kq, x17_1, rfl, HA, HJ1, BK527, HB⟩ := hcut
  cases kq with
  | zero => exact absurd HA.out (by simp [impl_IsSample.j0])
  | succ kj1 =>
   have H := HA.out
   clear HA
   simp only [impl_IsSample.j0] at H
   by_cases c7 : x17_1 = true
   ·
    subst c7
    rw [if_pos rfl] at H
    obtain rfl := Option.some.inj H
    go_wp2
    go_ret
    exact ⟨yF, xG1 HB.out GE527.out⟩
   replace c7 := Bool.eq_false_iff.mpr c7
   subst c7
   rw [if_neg (show ¬ (false = true) by decide)] at H
   have H' := aM H
   clear H
   have hcz8_0 : wc.cell? ⟨gb527, 0, none⟩ = some (.slice A0_0 l0_0.length c0_0) := (bC BK527.out 0).trans rfl
   have hcz8_1 : wc.cell? ⟨gb527, 1, none⟩ = some (.slice A0_1 l0_1.length c0_1) := (bC BK527.out 1).trans rfl
   have hfz8_0 := bF BK527.out 0
   have hfz8_1 := bF BK527.out 1
   go_wp2
   go_loopg [21] kj1 (fun kq v21 w' => ∃ (x21_2 : Int), v21 = .int .i64 x21_2 ∧ Aside0 (impl_IsSample.l0 kq l0_0 (l0_0.length : Int) x21_2 l0_0 l0_1 = some r) ∧ Aside0 (kq ≤ kj1) ∧ Aside0 (w'.heap[gb527]? = some (.cells #[(.slice A0_0 l0_0.length c0_0), (.slice A0_1 l0_1.length c0_1)] 46 (0, 0))) ∧ Aside0 (Below w.heap.size w w'))
   case atStart => exact ⟨(0), yZ, H', ⟨Nat.le_refl _⟩, ⟨xB BK527.out⟩, ⟨xG1 HB.out GE527.out⟩⟩
   case round =>
    clear H'
    try clear c7
    try clear hcz8_0
    try clear hcz8_1
    try clear hfz8_0
    try clear hfz8_1
    obtain ⟨x21_2, rfl, HA, HK2, BK527, HB⟩ := hrel
    cases gk with
    | zero => exact absurd HA.out (by simp [impl_IsSample.l0])
    | succ k2 =>
     have H := HA.out
     clear HA
     simp only [impl_IsSample.l0] at H
     obtain ⟨-, c9b0, H⟩ | ⟨-, c9b0, H⟩ := yif H
     rotate_left
     ·
      obtain rfl := Option.some.inj H
      go_wp2
      go_ret
      exact ⟨yF, xG1 HB.out GE527.out⟩
     obtain ⟨-, c10b0, H⟩ | ⟨c10, -, H⟩ := yif H
     rotate_left
     · exact absurd H (by simp)
     obtain ⟨-, c11b0, H⟩ | ⟨c11, -, H⟩ := yif H
     rotate_left
     · exact absurd H (by simp)
     replace H := oB.mp H
     obtain ⟨t529, A120, H⟩ := H
     have A12 := aM A120
     clear A120
     by_cases c13 : t529 = true
     rotate_left
     ·
      replace c13 := Bool.eq_false_iff.mpr c13
      subst c13
      rw [if_neg (show ¬ (false = true) by decide)] at H
      obtain rfl := Option.some.inj H
      have p528 : 0 ≤ (x21_2 : Int) := yA
      have q528 : x21_2 < (l0_0.length : Int) := yA
      obtain ⟨ad528, A528_0, c528_0, e528, hx528_0, hl528_0, hi528_0⟩ := at_L2 HR0_0.out x21_2 p528 q528
      cases e528
      replace hx528_0 := yc HB hx528_0
      have HR528_0 := aM hi528_0
      have HC528_0 := aM hl528_0
      clear hi528_0 hl528_0
      replace p528 := eq_true p528
      replace q528 := eq_true q528
      go_wp2_with (first | (refine yL 27 Try.func135 #[.slice A528_0 (rd_L2 l0_0 x21_2).length c528_0] ?_; (with_reducible refine (impl_IsPoint.calls k2 _ _ (rd_L2 l0_0 x21_2) false _ (xC (Kd.C_below HR528_0.out HB.out)) HC528_0.out A12.out).mono ?_); rintro e w' ⟨rfl, ⟨nd, rfl⟩⟩; refine ⟨_, rfl, ?_⟩))
      go_ret
      exact ⟨yF, xG1 HB.out GE527.out⟩
     subst c13
     rw [if_pos rfl] at H
     obtain ⟨c14, c14b0, H⟩ | ⟨c14, -, H⟩ := yif H
     rotate_left
     · exact absurd H (by simp)
     have c14b1 : decide (0 < l0_0.length) = true := decide_eq_true (by omega)
     clear c14
     obtain ⟨c15, -, H⟩ | ⟨c15, -, H⟩ := yif H
     rotate_left
     ·
      have c15b0 : (((rd_L2 l0_0 x21_2).length : Int) == ((rd_L2 l0_0 0).length : Int)) = false := beq_eq_false_iff_ne.mpr c15
      have c15b1 : (((rd_L2 l0_0 x21_2).length : Int) != ((rd_L2 l0_0 0).length : Int)) = true := bne_iff_ne.mpr c15
      have c15b2 : ((rd_L2 l0_0 x21_2).length == (rd_L2 l0_0 0).length) = false := by first | simpa using c15 | (simp at c15 ⊢; omega)
      obtain rfl := Option.some.inj H
      have p528 : 0 ≤ (x21_2 : Int) := yA
      have q528 : x21_2 < (l0_0.length : Int) := yA
      obtain ⟨ad528, A528_0, c528_0, e528, hx528_0, hl528_0, hi528_0⟩ := at_L2 HR0_0.out x21_2 p528 q528
      cases e528
      replace hx528_0 := yc HB hx528_0
      have HR528_0 := aM hi528_0
      have HC528_0 := aM hl528_0
      clear hi528_0 hl528_0
      replace p528 := eq_true p528
      replace q528 := eq_true q528
      go_wp2_with (first | (refine yL 27 Try.func135 #[.slice A528_0 (rd_L2 l0_0 x21_2).length c528_0] ?_; (with_reducible refine (impl_IsPoint.calls k2 _ _ (rd_L2 l0_0 x21_2) true _ (xC (Kd.C_below HR528_0.out HB.out)) HC528_0.out A12.out).mono ?_); rintro e w' ⟨rfl, ⟨nd, rfl⟩⟩; refine ⟨_, rfl, ?_⟩; have hcz21_0 : wr.cell? ⟨gb527, 0, none⟩ = some (.slice (some ad528) l0_0.length c0_0) := (bC BK527.out 0).trans rfl; have hcz21_1 : wr.cell? ⟨gb527, 1, none⟩ = some (.slice A0_1 l0_1.length c0_1) := (bC BK527.out 1).trans rfl; have hfz21_0 := bF BK527.out 0; have hfz21_1 := bF BK527.out 1; have p530 : 0 ≤ (0 : Int) := (by omega); have q530 : 0 < (l0_0.length : Int) := yA; obtain ⟨ad530, A530_0, c530_0, e530, hx530_0, hl530_0, hi530_0⟩ := at_L2 HR0_0.out 0 p530 q530; obtain rfl : ad528 = ad530 := (by injection e530); have qi530 : (0 < l0_0.length) = True := eq_true (by omega); (try rw [show ((0 : Int)).toNat = 0 from rfl] at hx530_0); (try rw [Addr.add_zero'] at hx530_0); replace hx530_0 := yc HB hx530_0; have HR530_0 := aM hi530_0; have HC530_0 := aM hl530_0; clear hi530_0 hl530_0; replace p530 := eq_true p530; replace q530 := eq_true q530))
      go_ret
      exact ⟨yF, xG1 HB.out GE527.out⟩
     have c15b0 : (((rd_L2 l0_0 x21_2).length : Int) == ((rd_L2 l0_0 0).length : Int)) = true := beq_iff_eq.mpr c15
     have c15b1 : (((rd_L2 l0_0 x21_2).length : Int) != ((rd_L2 l0_0 0).length : Int)) = false := bne_eq_false_iff_eq.mpr c15
     have c15b2 : ((rd_L2 l0_0 x21_2).length == (rd_L2 l0_0 0).length) = true := by first | simpa using c15 | (simp at c15 ⊢; omega)
     clear c15
     obtain ⟨-, c16b0, H⟩ | ⟨c16, -, H⟩ := yif H
     rotate_left
     · exact absurd H (by simp)
     replace H := oB.mp H
     obtain ⟨t532, A170, H⟩ := H
     have A17 := aM A170
     clear A170
     by_cases c18 : t532 = true
     rotate_left
     ·
      replace c18 := Bool.eq_false_iff.mpr c18
      subst c18
      rw [if_neg (show ¬ (false = true) by decide)] at H
      obtain rfl := Option.some.inj H
      have p528 : 0 ≤ (x21_2 : Int) := yA
      have q528 : x21_2 < (l0_0.length : Int) := yA
      obtain ⟨ad528, A528_0, c528_0, e528, hx528_0, hl528_0, hi528_0⟩ := at_L2 HR0_0.out x21_2 p528 q528
      cases e528
      replace hx528_0 := yc HB hx528_0
      have HR528_0 := aM hi528_0
      have HC528_0 := aM hl528_0
      clear hi528_0 hl528_0
      replace p528 := eq_true p528
      replace q528 := eq_true q528
      go_wp2_with (first | (refine yL 27 Try.func135 #[.slice A528_0 (rd_L2 l0_0 x21_2).length c528_0] ?_; (with_reducible refine (impl_IsPoint.calls k2 _ _ (rd_L2 l0_0 x21_2) true _ (xC (Kd.C_below HR528_0.out HB.out)) HC528_0.out A12.out).mono ?_); rintro e w' ⟨rfl, ⟨nd, rfl⟩⟩; refine ⟨_, rfl, ?_⟩; have hcz20_0 : wr.cell? ⟨gb527, 0, none⟩ = some (.slice (some ad528) l0_0.length c0_0) := (bC BK527.out 0).trans rfl; have hcz20_1 : wr.cell? ⟨gb527, 1, none⟩ = some (.slice A0_1 l0_1.length c0_1) := (bC BK527.out 1).trans rfl; have hfz20_0 := bF BK527.out 0; have hfz20_1 := bF BK527.out 1; have p530 : 0 ≤ (0 : Int) := (by omega); have q530 : 0 < (l0_0.length : Int) := yA; obtain ⟨ad530, A530_0, c530_0, e530, hx530_0, hl530_0, hi530_0⟩ := at_L2 HR0_0.out 0 p530 q530; obtain rfl : ad528 = ad530 := (by injection e530); have qi530 : (0 < l0_0.length) = True := eq_true (by omega); (try rw [show ((0 : Int)).toNat = 0 from rfl] at hx530_0); (try rw [Addr.add_zero'] at hx530_0); replace hx530_0 := yc HB hx530_0; have HR530_0 := aM hi530_0; have HC530_0 := aM hl530_0; clear hi530_0 hl530_0; replace p530 := eq_true p530; replace q530 := eq_true q530; have p531 : 0 ≤ (x21_2 : Int) := yA; have q531 : x21_2 < (l0_1.length : Int) := yA; obtain ⟨ad531, e531, hx531_0⟩ := Kd.at_int HR0_1.out x21_2 p531 q531; cases e531; replace hx531_0 := yc HB hx531_0; replace p531 := eq_true p531; replace q531 := eq_true q531) | (go_at_call 136; (with_reducible refine (impl_isLabel.calls (rd l0_1 x21_2) false _ A17.out).mono ?_); rintro e w' ⟨rfl, ⟨nd, rfl⟩⟩))
      go_ret
      exact ⟨yF, xG1 HB.out GE527.out⟩
     subst c18
     rw [if_pos rfl] at H
     have H' := aM H
     clear H
     have p528 : 0 ≤ (x21_2 : Int) := yA
     have q528 : x21_2 < (l0_0.length : Int) := yA
     obtain ⟨ad528, A528_0, c528_0, e528, hx528_0, hl528_0, hi528_0⟩ := at_L2 HR0_0.out x21_2 p528 q528
     cases e528
     replace hx528_0 := yc HB hx528_0
     have HR528_0 := aM hi528_0
     have HC528_0 := aM hl528_0
     clear hi528_0 hl528_0
     replace p528 := eq_true p528
     replace q528 := eq_true q528
     go_wp2_with (first | (refine yL 27 Try.func135 #[.slice A528_0 (rd_L2 l0_0 x21_2).length c528_0] ?_; (with_reducible refine (impl_IsPoint.calls k2 _ _ (rd_L2 l0_0 x21_2) true _ (xC (Kd.C_below HR528_0.out HB.out)) HC528_0.out A12.out).mono ?_); rintro e w' ⟨rfl, ⟨nd, rfl⟩⟩; refine ⟨_, rfl, ?_⟩; have hcz19_0 : wr.cell? ⟨gb527, 0, none⟩ = some (.slice (some ad528) l0_0.length c0_0) := (bC BK527.out 0).trans rfl; have hcz19_1 : wr.cell? ⟨gb527, 1, none⟩ = some (.slice A0_1 l0_1.length c0_1) := (bC BK527.out 1).trans rfl; have hfz19_0 := bF BK527.out 0; have hfz19_1 := bF BK527.out 1; have p530 : 0 ≤ (0 : Int) := (by omega); have q530 : 0 < (l0_0.length : Int) := yA; obtain ⟨ad530, A530_0, c530_0, e530, hx530_0, hl530_0, hi530_0⟩ := at_L2 HR0_0.out 0 p530 q530; obtain rfl : ad528 = ad530 := (by injection e530); have qi530 : (0 < l0_0.length) = True := eq_true (by omega); (try rw [show ((0 : Int)).toNat = 0 from rfl] at hx530_0); (try rw [Addr.add_zero'] at hx530_0); replace hx530_0 := yc HB hx530_0; have HR530_0 := aM hi530_0; have HC530_0 := aM hl530_0; clear hi530_0 hl530_0; replace p530 := eq_true p530; replace q530 := eq_true q530; have p531 : 0 ≤ (x21_2 : Int) := yA; have q531 : x21_2 < (l0_1.length : Int) := yA; obtain ⟨ad531, e531, hx531_0⟩ := Kd.at_int HR0_1.out x21_2 p531 q531; cases e531; replace hx531_0 := yc HB hx531_0; replace p531 := eq_true p531; replace q531 := eq_true q531) | (go_at_call 136; (with_reducible refine (impl_isLabel.calls (rd l0_1 x21_2) true _ A17.out).mono ?_); rintro e w' ⟨rfl, ⟨nd, rfl⟩⟩))
     go_roundg k2
     case measure => have := HJ1.out; have := HK2.out; omega
     case rel => exact ⟨(wrap64 (x21_2 + 1)), yZ, H', ⟨by have := HJ1.out; have := HK2.out; omega⟩, ⟨xB BK527.out⟩, ⟨xG1 HB.out GE527.out⟩⟩
def cmbs (n : Nat) : Nat → Nat → List (List Int)
  | 0, _ => [[]]
  | r + 1, i => (List.range' i (n - i)).flatMap fun j => (cmbs n r (j + 1)).map fun c => (j : Int) :: c
def uptoT (p : List Int → Bool) : List (List Int) → List (List Int)
  | [] => []
  | x :: l => if p x = true then [x] else x :: uptoT p l
theorem uptoT_yes (p : List Int → Bool) : ∀ A B : List (List Int), A.any p = true → uptoT p (A ++ B) = uptoT p A := by
 intro A
 induction A with
 | nil => intro B h; simp at h
 | cons x A ih =>
  intro B h
  simp only [List.cons_append, uptoT]
  by_cases c : p x = true
  · rw [if_pos c, if_pos c]
  · rw [if_neg c, if_neg c, ih B (by simpa [c] using h)]
theorem uptoT_no (p : List Int → Bool) : ∀ A B : List (List Int), A.any p = false → uptoT p (A ++ B) = A ++ uptoT p B := by
  intro A
  induction A with
  | nil => intro B _; rfl
  | cons x A ih =>
    intro B h
    rw [List.any_cons, Bool.or_eq_false_iff] at h
    simp only [List.cons_append, uptoT]
    rw [if_neg (by rw [h.1]; decide), ih B h.2]
theorem uptoT_all (p : List Int → Bool) (A : List (List Int)) (h : A.any p = false) : uptoT p A = A := by
  have := uptoT_no p A [] h
  simpa [uptoT] using this
theorem cmbs_len (n : Nat) : ∀ r i, ∀ c ∈ cmbs n r i, c.length = r := by
  intro r
  induction r with
  | zero => intro i c hc; simp [cmbs] at hc; subst hc; rfl
  | succ r ih =>
    intro i c hc
    simp only [cmbs, List.mem_flatMap, List.mem_map] at hc
    obtain ⟨j, _, d, hd, rfl⟩ := hc
    simp [ih _ d hd]
theorem cmbs_step (n r i : Nat) (h : i < n) : cmbs n (r + 1) i = (cmbs n r (i + 1)).map (fun c => (i : Int) :: c) ++ cmbs n (r + 1) (i + 1) := by
  simp only [cmbs]
  rw [show n - i = n - (i + 1) + 1 by omega, List.range'_succ, List.flatMap_cons]
theorem cmbs_end (n r i : Nat) (h : n ≤ i) : cmbs n (r + 1) i = [] := by
  simp only [cmbs]
  rw [show n - i = 0 by omega]; rfl
theorem append_new_step {P : Program} {ops : Array Oper} {o : Oper} {N : Option Tmp} {a : Act} {Q : Exit → Act → World → Prop} {K : Act → World → Prop} {W W1 : World} (hw : Region.wanted o (yielded ops a.tmps) = true) (hN : o.dst = N) (s x : Operand) (t e : TypeId)
    (ho : o.op = .call { callee := .builtin .append, args := #[s, x], argTypes := #[t, t] }) (ht : P.underlying t = some (.slice e)) (hinfo : (P.info? e).map (fun i => (i.zero, i.size, i.bytes)) = some (some (.int .i64 0), 1, 8))
    (A : Option Addr) (xs : List Int) (y : Int) (hn : A = none → xs = []) (hs : a.eval s = .slice A xs.length xs.length) (g : Nat) (hB0 : Below W.heap.size W W1) (hgx : W1.heap[g]? = some (.cells #[.int .i64 y] e (0, 0))) (hx : a.eval x = .slice (some ⟨g, 0, none⟩) 1 1) (hC : Kd.C (Kd.int .i64) W A xs.length xs) (hl : xs.length ≤ 1000000)
    (h : ∀ v1 w1, Kd.R (Kd.int .i64) e w1 W.heap.size (fun _ => True) v1 (xs ++ [y]) → Below W.heap.size W w1 → K (a.put N v1) w1) :
    if Region.wanted o (yielded ops a.tmps) = true then Oper.wp P o a W1 K Q else K (a.put N undef) W1 := by
  subst hN
  obtain ⟨i0, hi, hzz⟩ := Option.map_eq_some_iff.1 hinfo
  simp only [Prod.mk.injEq] at hzz
  obtain ⟨hz0, hz1, hz2⟩ := hzz
  rw [if_pos hw]
  have hnew : ∀ j u, ([Value.int .i64 y])[j]? = some u → W1.cell? ((⟨g, 0, none⟩ : Addr).add j) = some u := by
    simpa using World.news_of_block (cs := #[Value.int .i64 y]) (t := e) (fr := (0, 0)) hgx
  have hrun : ∃ v1 w1, (Builtin.append_ #[t, t] o.type #[.slice A xs.length xs.length, .slice (some ⟨g, 0, none⟩) 1 1]).run P W1 = .ok v1 w1 ∧ w1.ownsRow W1.heap.size e 1 v1 (xs.length + 1) (nums .i64 xs ++ [.int .i64 y]) ∧ W1.grownBy w1 none := by
    rcases A with _ | ad
    · obtain rfl := hn rfl
      obtain ⟨v', w', hr, r1, r2, _⟩ := run_append_own (P := P) W1 W1.heap.size t o.type e i0 (.int .i64 0) 1 8 ht hi hz0 hz1 hz2 rfl (by decide) (.slice none 0 0) 0 [] (World.ownsRow_nil _ _ e 1) ⟨g, 0, none⟩ 1 1 [.int .i64 y] (by simp) hnew (by simp [Value.oneCell']) (by simp [maxLen]) (by omega) (Nat.le_refl _)
      exact ⟨v', w', hr, by simpa [nums] using r1, by simpa [Value.ownBlock] using r2⟩
    · refine run_append_arg_grows (P := P) W1 t o.type e i0 (.int .i64 0) 1 8 ht hi hz0 hz1 hz2 rfl (by decide) ad xs.length xs.length (nums .i64 xs) (by simp [nums]) (fun j u hu => ?_) ⟨g, 0, none⟩ 1 1 [.int .i64 y] (by simp) hnew (by omega) (by simp only [maxLen]; omega) (by omega)
      have hj : j < xs.length := by
        rcases Nat.lt_or_ge j xs.length with h | h
        · exact h
        · simp [nums, List.getElem?_eq_none h] at hu
      obtain ⟨ad', e1, hc⟩ := Kd.at_int hC (j : Int) (by omega) (by omega)
      cases e1
      rw [Int.toNat_natCast] at hc
      have hc2 := (hB0.cell (World.block_lt_of_cell? W _ hc)).trans hc
      rw [hc2]
      simp [nums, List.getElem?_eq_getElem hj] at hu
      subst hu
      simp [rd, List.getD_eq_getElem?_getD, List.getElem?_eq_getElem hj]
  obtain ⟨v1, w1, hr, hown, hg⟩ := hrun
  unfold Oper.wp execOp
  simp only [ho, resolve, invoke, builtin, Sem.run_bind, Sem.run_pure, Result.andThen_ok, List.map_toArray, List.map_cons, List.map_nil, hs, hx, hr]
  refine h v1 w1 (Kd.R_of_own (own_weaken (by simpa [nums, encs] using hown) (below_size hB0)) (fun _ _ => trivial)) ?_
  exact hB0.grown hg (below_size hB0) (fun k hk => by cases hk)
theorem slice_full {P : Program} (t : TypeId) {e : TypeId} {α : Type} {z : α} {F : TypeInfo → α} (ht : P.underlying t = some (.slice e)) (hinfo : (P.info? e).map F = some z) (A : Option Addr) (n c : Nat) (hn : n ≤ c) (h : A = none → n = 0) :
    ∀ W : World, (Instr.slice t (.slice A n c) none (some (.int .i64 (n : Int))) (some (.int .i64 (n : Int)))).run P W = .ok (.slice A n n) W := by
  intro W
  obtain ⟨i, hi, _⟩ := Option.map_eq_some_iff.1 hinfo
  have hel : P.elem t = e := by simp [Program.elem, ht]
  have hu : P.underlying t = some (.slice (P.elem t)) := by rw [hel]; exact ht
  rw [run_slice_hm W t A n c hu .i64 .i64 (n : Int) (n : Int) (by omega) (by omega) (by omega), hel]
  simp [sizeOf, typeInfo, hi, sliced, Result.andThen]
  intro _
  cases A <;> simp [Addr.add]
def Fr (S : Nat → Prop) (W W' : World) : Prop := Below 0 W W' ∧ ∀ i, i < W.heap.size → ¬ S i → W'.heap[i]? = W.heap[i]?
theorem Fr.size {S : Nat → Prop} {W W1 : World} (h : Fr S W W1) : W.heap.size ≤ W1.heap.size := h.1.size
theorem Fr.refl (S : Nat → Prop) (W : World) : Fr S W W := ⟨Below.refl 0 W, fun _ _ _ => rfl⟩
theorem Fr.trans {S : Nat → Prop} {W W1 W2 : World} (h : Fr S W W1) (k : Fr S W1 W2) : Fr S W W2 :=
  ⟨⟨k.1.os.trans h.1.os, k.1.tape.trans h.1.tape, k.1.output.trans h.1.output, Nat.le_trans h.1.size k.1.size, fun i hi => absurd hi (Nat.not_lt_zero i)⟩, fun i hi hs => (k.2 i (Nat.lt_of_lt_of_le hi h.1.size) hs).trans (h.2 i hi hs)⟩
theorem Fr.below {S : Nat → Prop} {W W1 : World} (h : Below W.heap.size W W1) : Fr S W W1 := ⟨⟨h.os, h.tape, h.output, h.size, fun i hi => absurd hi (Nat.not_lt_zero i)⟩, fun i hi _ => h.block i hi⟩
theorem Fr.onto {S : Nat → Prop} {w W W1 : World} (f : Fr S W W1) (h : Below w.heap.size w W) (hS : ∀ i, S i → w.heap.size ≤ i) : Below w.heap.size w W1 :=
  ⟨f.1.os.trans h.os, f.1.tape.trans h.tape, f.1.output.trans h.output, Nat.le_trans h.size f.1.size, fun i hi => (f.2 i (Nat.lt_of_lt_of_le hi h.size) (fun hs => by have := hS i hs; omega)).trans (h.block i hi)⟩
theorem Fr.blk {S : Nat → Prop} {W W1 : World} {g : Nat} {o : Obj} (h : Fr S W W1) (hb : W.heap[g]? = some o) (hs : ¬ S g) : W1.heap[g]? = some o := (h.2 g (blk_lt hb) hs).trans hb
def Ft (S : Nat → Prop) (W : World) (A : Option Addr) (l : List Int) : Prop := ∀ W', Fr S W W' → Kd.C (Kd.int .i64) W' A l.length l
theorem Ft.now {S : Nat → Prop} {W : World} {A : Option Addr} {l : List Int} (h : Ft S W A l) : Kd.C (Kd.int .i64) W A l.length l := h W (Fr.refl S W)
theorem Ft.move {S : Nat → Prop} {W W1 : World} {A : Option Addr} {l : List Int} (h : Ft S W A l) (k : Fr S W W1) : Ft S W1 A l := fun W' h' => h W' (k.trans h')
theorem Ft.nil (S : Nat → Prop) (W : World) : Ft S W none [] := fun W' _ => Kd.C_nil _ W'
theorem Ft.row {S : Nat → Prop} {W : World} {B : Nat} {A : Option Addr} {c : Nat} {l : List Int} (h : Kd.R (Kd.int .i64) 3 W B (fun _ => True) (.slice A l.length c) l) (hS : ∀ i, S i → i < B) : Ft S W A l := by
  intro W' hf
  have h1 := rM (ok' := fun k => B ≤ k ∧ k < W.heap.size) (Kd.R_bound h) (fun k hk => ⟨hk.2.1, hk.2.2.1⟩)
  have h2 := Kd.R_move h1 (w1 := W') (fun k hk => hf.2 k hk.2 (fun hs => by have := hS k hs; omega))
  obtain ⟨A', c', e, _, hc⟩ := Kd.R_reads h2
  injection e with e1 e2 e3
  rw [e1]; exact hc
def ChX (n k : Nat) (G : FuncId) (vcaps : Array Value) (bk bv bn bg : Nat) (W : World) : Prop :=
  W.heap[bk]? = some (.cells #[.int .i64 (k : Int)] 3 (0, 0)) ∧ W.heap[bv]? = some (.cells #[.func (.func G) #[] vcaps] 92 (0, 0)) ∧ W.heap[bn]? = some (.cells #[.int .i64 (n : Int)] 3 (0, 0)) ∧
    W.heap[bg]? = some (.cells #[.func (.func 165) #[] #[.pointer (some ⟨bk, 0, none⟩), .pointer (some ⟨bv, 0, none⟩), .pointer (some ⟨bn, 0, none⟩), .pointer (some ⟨bg, 0, none⟩)]] 68 (0, 0))
theorem ChX.move {n k : Nat} {G : FuncId} {vcaps : Array Value} {bk bv bn bg : Nat} {S : Nat → Prop} {W W' : World} (h : ChX n k G vcaps bk bv bn bg W) (hf : Fr S W W') (h1 : ¬ S bk) (h2 : ¬ S bv) (h3 : ¬ S bn) (h4 : ¬ S bg) : ChX n k G vcaps bk bv bn bg W' :=
  ⟨hf.blk h.1 h1, hf.blk h.2.1 h2, hf.blk h.2.2.1 h3, hf.blk h.2.2.2 h4⟩
theorem choices_go (n k : Nat) (hk : k ≤ 1000) (hnn : n ≤ 1000) (G : FuncId) (fn : Func) (hG : Try.prog.funcs[G]? = some fn) (hname : (fn.name == "runtime.NumGoroutine") = false) (hbody : fn.body.isSome = true) (vcaps : Array Value) (p : List Int → Bool)
    (bk bv bn bg B : Nat) (S : Nat → Prop) (hS : ∀ i, S i → i < B) (q1 : ¬ S bk) (q2 : ¬ S bv) (q3 : ¬ S bn) (q4 : ¬ S bg) (Inv : List (List Int) → World → Prop) (hst : ∀ ds W W', Inv ds W → Below W.heap.size W W' → Inv ds W')
    (hv : ∀ l ∈ cmbs n k 0, ∀ ds W A c, Inv ds W → Ft S W A l → l.length ≤ c → B ≤ W.heap.size → Calls Try.prog G (#[.slice A l.length c] ++ vcaps) W fun e W' => e = .returned (.bool (p l)) ∧ Inv (ds ++ [l]) W' ∧ Fr S W W') :
    ∀ (r : Nat) (l : List Int) (i : Nat) (ds : List (List Int)) (W : World) (A : Option Addr) (c : Nat), l.length + r = k → (∀ x ∈ cmbs n r i, l ++ x ∈ cmbs n k 0) → Inv ds W → ChX n k G vcaps bk bv bn bg W → Ft S W A l → l.length ≤ c → (A = none → l = []) → B ≤ W.heap.size → i ≤ n →
      Calls Try.prog 165 #[.slice A l.length c, .int .i64 (i : Int), .pointer (some ⟨bk, 0, none⟩), .pointer (some ⟨bv, 0, none⟩), .pointer (some ⟨bn, 0, none⟩), .pointer (some ⟨bg, 0, none⟩)] W fun e W' =>
        e = .returned (.bool (((cmbs n r i).map fun x => l ++ x).any p)) ∧ Inv (ds ++ uptoT p ((cmbs n r i).map fun x => l ++ x)) W' ∧ Fr S W W' := by
 have HV := aM hv
 have HQ := aM (And.intro q1 (And.intro q2 (And.intro q3 q4)))
 have HS := aM hS
 have HST := aM hst
 clear hv q1 q2 q3 q4 hS hst
 intro r
 induction r with
 | zero =>
  intro l i ds W A c hl hm hi hx hft hc hA hB hin
  have HM := aM (hm [] (by simp [cmbs]))
  rw [List.append_nil] at HM
  have HI := aM hi
  have HF := aM hft
  have HA := aM hA
  have hck : W.cell? ⟨bk, 0, none⟩ = some (.int .i64 (k : Int)) := (bC hx.1 0).trans rfl
  have hcv : W.cell? ⟨bv, 0, none⟩ = some (.func (.func G) #[] vcaps) := (bC hx.2.1 0).trans rfl
  have c0 : ((l.length : Int) == (k : Int)) = true := beq_iff_eq.mpr (by omega)
  have hE := fun args W => enters_ hG hname hbody args W
  clear hm hi hx hft hA
  go_enter Try.func165, Try.ntmps165
  go_wp2_with (first | ((with_reducible refine (HV.out l HM.out ds W A c HI.out HF.out hc hB).mono ?_); rintro e w2 ⟨rfl, hi2, hf2⟩; have J1 := aM hi2; have J2 := aM hf2; clear hi2 hf2))
  go_ret
  have hu : uptoT p [l] = [l] := by simp [uptoT]
  exact ⟨by simp [cmbs], by simpa [cmbs, hu] using J1.out, J2.out⟩
 | succ r ih =>
  intro l i ds W A c hl hm hi hx hft hc hA hB hin
  have IH := aM ih
  have HM := aM hm
  have HI := aM hi
  have HF := aM hft
  have HA := aM hA
  have HX := aM hx
  have HIN := aM hin
  have hck : W.cell? ⟨bk, 0, none⟩ = some (.int .i64 (k : Int)) := (bC hx.1 0).trans rfl
  have c0 : ((l.length : Int) == (k : Int)) = false := beq_eq_false_iff_ne.mpr (by omega)
  clear ih hm hi hx hft hA hin
  go_enter Try.func165, Try.ntmps165
  go_wp2
  go_loopw [9] (fun v9 w' => ∃ (j : Nat) (L1 : List (List Int)), v9 = .int .i64 (j : Int) ∧ Aside0 (i ≤ j ∧ j ≤ n) ∧ Aside0 ((cmbs n (r + 1) i).map (fun x => l ++ x) = L1 ++ (cmbs n (r + 1) j).map (fun x => l ++ x)) ∧ Aside0 (L1.any p = false) ∧ Aside0 (Inv (ds ++ L1) w') ∧ Aside0 (Fr S W w')) (fun v9 _ => n - (intOf v9).toNat)
  case atStart => exact ⟨i, [], rfl, ⟨Nat.le_refl _, HIN.out⟩, ⟨rfl⟩, ⟨rfl⟩, ⟨by rw [List.append_nil]; exact HI.out⟩, ⟨Fr.refl S W⟩⟩
  case round =>
   clear HI
   obtain ⟨j, L1, rfl, HJ, HL, HP, HI, HF2⟩ := hrel
   have HX2 := aM (HX.out.move HF2.out HQ.out.1 HQ.out.2.1 HQ.out.2.2.1 HQ.out.2.2.2)
   have hcn : wr.cell? ⟨bn, 0, none⟩ = some (.int .i64 (n : Int)) := (bC HX2.out.2.2.1 0).trans rfl
   by_cases cc : j < n
   ·
    have c1 : decide ((j : Int) < (n : Int)) = true := decide_eq_true (by omega)
    have c2 : decide (j < n) = true := decide_eq_true cc
    have hll : l.length ≤ 1000000 := by omega
    have HLL := aM hll
    have hcl : l.length ≤ c := hc
    have hsl := slice_full (P := Try.prog) 24 Try.underlying24 info3 A l.length c hc (fun h => by rw [HA.out h]; rfl)
    have HC1 := aM ((HF.out.move HF2.out).now)
    have HJL := aM (show j + 1 ≤ n from cc)
    have HLR := aM hl
    have HBB := aM hB
    have hj1 : (j : Int) ≤ 1000 := by omega
    have h0j : (0 : Int) ≤ (j : Int) := by omega
    have HM2 := aM (show ∀ x ∈ cmbs n r (j + 1), (l ++ [(j : Int)]) ++ x ∈ cmbs n k 0 from fun x hx => by
      have h1 : l ++ ((j : Int) :: x) ∈ (cmbs n (r + 1) i).map (fun x => l ++ x) := by
        rw [HL.out, cmbs_step n r j cc]
        simp only [List.map_append, List.mem_append, List.map_map]
        exact Or.inr (Or.inl (List.mem_map.2 ⟨x, hx, rfl⟩))
      obtain ⟨y, hy, e⟩ := List.mem_map.1 h1
      have e2 : y = (j : Int) :: x := List.append_cancel_left e
      subst e2
      simpa using HM.out _ hy)
    have HS2 := aM (show (cmbs n (r + 1) j).map (fun x => l ++ x) = (cmbs n r (j + 1)).map (fun x => (l ++ [(j : Int)]) ++ x) ++ (cmbs n (r + 1) (j + 1)).map (fun x => l ++ x) by rw [cmbs_step n r j cc, List.map_append, List.map_map]; simp [Function.comp_def])
    clear hc hB hl hll
    go_wp2
    refine start_ (n := 13) (S := fun w' => w'.cell? ⟨bg, 0, none⟩ = some (.func (.func 165) #[] #[.pointer (some ⟨bk, 0, none⟩), .pointer (some ⟨bv, 0, none⟩), .pointer (some ⟨bn, 0, none⟩), .pointer (some ⟨bg, 0, none⟩)])) (ds := []) (bm 13 0) (by kernel_rfl) rfl rfl ((bC HX2.out.2.2.2 0).trans rfl) (fun hHeld => ?_)
    refine yp 1 24 (bm 13 2) ?_
    refine yp 2 25 (bm 13 6) ?_
    refine yp 3 26 (bm 13 14) ?_
    refine yp 4 27 (bm 13 30) ?_
    refine yp 5 28 (bm 13 62) ?_
    refine yp 6 29 (bm 13 126) ?_
    refine yp 7 30 (bm 13 254) ?_
    refine yp 10 33 (bm 13 1278) ?_
    refine yp 11 34 (bm 13 3326) ?_
    refine yt1 0 23 (bm 13 3327) hHeld ?_
    refine yo 8 31 (bm 13 3583) (fun K hK => ?_)
    refine value_ (w1 := ?_) (v := ?_) (by rfl) rfl ?_ ?_
    rotate_left 2
    ·
     go_simp
     constructor
     · rfl
     · rfl
    refine hK.out _ _ ((bC (((eA (Below.refl wr.heap.size wr) _).block bg (blk_lt HX2.out.2.2.2)).trans HX2.out.2.2.2) 0).trans rfl) (fun hHeld => ?_)
    clear hK K
    refine norm_ (a' := ?_) ?_ ?_
    rotate_left
    ·
     show Act.put _ (some 31) _ = _
     simp only [Act.put, sA, sZ, sU, i64_w, i32_w]
     rfl
    refine yo 9 32 (bm 13 4095) (fun K hK => ?_)
    refine append_new_step (by rfl) rfl (.tmp 29) (.tmp 31) 24 3 rfl Try.underlying24 info3 A l (j : Int) HA.out rfl wr.heap.size (by apply eD; exact eA (Below.refl wr.heap.size wr) _) (heap_alloc_new wr _) rfl HC1.out HLL.out (fun v1 w1 hR hB1 => ?_)
    have HR := aM hR
    have HB1 := aM hB1
    have HX3 := aM (HX2.out.move (Fr.below (S := S) hB1) HQ.out.1 HQ.out.2.1 HQ.out.2.2.1 HQ.out.2.2.2)
    obtain ⟨A1, c1', rfl, hl1, hcc1⟩ := Kd.R_reads hR
    have HL1 := aM hl1
    clear hR hB1 hcc1 hl1
    refine hK.out _ _ ((bC HX3.out.2.2.2 0).trans rfl) (fun hHeld => ?_)
    clear hK K
    refine norm_ (a' := ?_) ?_ ?_
    rotate_left
    ·
     show Act.put _ (some 32) _ = _
     simp only [Act.put, sA, sZ, sU, i64_w, i32_w]
     rfl
    refine yo 12 35 (bm 13 8191) (fun K hK => ?_)
    refine call_ 165 #[.slice A1 (l ++ [(j : Int)]).length c1', .int .i64 ((j + 1 : Nat) : Int), .pointer (some ⟨bk, 0, none⟩), .pointer (some ⟨bv, 0, none⟩), .pointer (some ⟨bn, 0, none⟩), .pointer (some ⟨bg, 0, none⟩)] (by rfl) rfl ?run_ ?_
    case run_ =>
     have he := enters_ (P := Try.prog) (w := w1) Try.func165 (by kernel_rfl) rfl #[.slice A1 (l ++ [(j : Int)]).length c1', .int .i64 ((j + 1 : Nat) : Int), .pointer (some ⟨bk, 0, none⟩), .pointer (some ⟨bv, 0, none⟩), .pointer (some ⟨bn, 0, none⟩), .pointer (some ⟨bg, 0, none⟩)]
     unfold execOp
     simp [resolve, Deferred.ofValue, invoke, Act.eval, he]
     unfold wrap64; omega
    with_reducible refine (IH.out (l ++ [(j : Int)]) (j + 1) (ds ++ L1) w1 A1 c1' ?s1 ?s2 ?s3 HX3.out ?s5 HL1.out ?s7 ?s8 HJL.out).mono ?_
    (case s1 => have := HLR.out; simp; omega)
    (case s2 => exact HM2.out)
    (case s3 => exact HST.out _ _ _ HI.out HB1.out)
    (case s5 => exact Ft.row HR.out (fun i hi => Nat.lt_of_lt_of_le (HS.out i hi) (Nat.le_trans HBB.out HF2.out.size)))
    (case s7 => intro h; subst h; exfalso; obtain ⟨ad, e, _⟩ := (Kd.R_reads' HR.out).2.2.2.2 (by simp); cases e)
    (case s8 => exact Nat.le_trans HBB.out (Nat.le_trans HF2.out.size (below_size HB1.out)))
    rintro e w2 ⟨rfl, hi2, hf2⟩
    refine ⟨_, rfl, ?_⟩
    have HI2 := aM hi2
    have HF3 := aM (HF2.out.trans ((Fr.below (S := S) HB1.out).trans hf2))
    clear hi2 hf2
    have HX4 := aM (HX.out.move HF3.out HQ.out.1 HQ.out.2.1 HQ.out.2.2.1 HQ.out.2.2.2)
    refine hK.out _ _ ((bC HX4.out.2.2.2 0).trans rfl) (fun hHeld => ?_)
    clear hK K
    refine norm_ (a' := ?_) ?_ ?_
    rotate_left
    ·
     show Act.put _ (some 35) _ = _
     simp only [Act.put, sA, sZ, sU, i64_w, i32_w]
     rfl
    refine done_ (by kernel_rfl) ?_
    have hany := HS2.out
    obtain ⟨b, hb⟩ : ∃ b, ((cmbs n r (j + 1)).map fun x => (l ++ [(j : Int)]) ++ x).any p = b := ⟨_, rfl⟩
    rw [hb]
    have HB := aM hb
    clear hb hany
    cases b with
    | true =>
     go_wp2
     go_ret
     refine ⟨?_, ?_, HF3.out⟩
     · rw [HL.out, HS2.out, List.any_append, List.any_append, HB.out]; simp
     · rw [HL.out, HS2.out, uptoT_no p _ _ HP.out, uptoT_yes p _ _ HB.out, ← List.append_assoc]; exact HI2.out
    | false =>
     go_wp2
     go_roundw
     case rel => exact ⟨j + 1, L1 ++ (cmbs n r (j + 1)).map (fun x => (l ++ [(j : Int)]) ++ x), by go_num, ⟨by have := HJ.out; omega, HJL.out⟩, ⟨by rw [HL.out, HS2.out, List.append_assoc]⟩, ⟨by rw [List.any_append, HP.out, HB.out]; rfl⟩, ⟨by rw [uptoT_all p _ HB.out] at HI2; rw [← List.append_assoc]; exact HI2.out⟩, HF3⟩
     case measure => have := HJL.out; simp [intOf]; omega
   ·
    have c1 : decide ((j : Int) < (n : Int)) = false := decide_eq_false (by omega)
    have c2 : decide (j < n) = false := decide_eq_false cc
    have e0 : cmbs n (r + 1) j = [] := cmbs_end n r j (by omega)
    have e1 := HL.out
    rw [e0, List.map_nil, List.append_nil] at e1
    have HL1 := aM e1
    clear e0 e1
    go_wp2
    go_ret
    exact ⟨by rw [HL1.out, HP.out]; rfl, by rw [HL1.out, uptoT_all p L1 HP.out]; exact HI.out, HF2.out⟩
theorem ch_store_func {P : Program} {w : World} (a : Addr) (m : Mode) (fn : Fn) (first captured : Array Value) : (store a (.func fn first captured) m).run P w = stored P w a (.func fn first captured) m := run_store P w a _ m rfl
attribute [local go_sem] ch_store_func
theorem choices_calls (n k : Nat) (hk : k ≤ 1000) (hnn : n ≤ 1000) (G : FuncId) (fn : Func) (hG : Try.prog.funcs[G]? = some fn) (hname : (fn.name == "runtime.NumGoroutine") = false) (hbody : fn.body.isSome = true) (vcaps : Array Value) (p : List Int → Bool) (w : World)
    (S : Nat → Prop) (hS : ∀ i, S i → i < w.heap.size) (Inv : List (List Int) → World → Prop) (hst : ∀ ds W W', Inv ds W → Below W.heap.size W W' → Inv ds W') (h0 : Inv [] w)
    (hv : ∀ l ∈ cmbs n k 0, ∀ ds W A c, Inv ds W → Ft S W A l → l.length ≤ c → w.heap.size ≤ W.heap.size → Calls Try.prog G (#[.slice A l.length c] ++ vcaps) W fun e W' => e = .returned (.bool (p l)) ∧ Inv (ds ++ [l]) W' ∧ Fr S W W') :
    Calls Try.prog 154 #[.int .i64 (n : Int), .int .i64 (k : Int), .func (.func G) #[] vcaps] w fun e W' => e = .returned (.bool ((cmbs n k 0).any p)) ∧ Inv (uptoT p (cmbs n k 0)) W' ∧ Fr S w W' := by
  have HV := aM hv
  have HS := aM hS
  have HST := aM hst
  have H0 := aM h0
  clear hv hS hst h0
  have hE := fun args W => enters_ (P := Try.prog) (w := W) Try.func165 (by kernel_rfl) rfl args
  have hgo : ∀ W, Inv [] W → w.heap.size ≤ W.heap.size → ChX n k G vcaps (w.heap.size + 1) (w.heap.size + 1 + 1) w.heap.size (w.heap.size + 1 + 1 + 1) W →
      Calls Try.prog 165 #[.slice none 0 0, .int .i64 0, .pointer (some ⟨w.heap.size + 1, 0, none⟩), .pointer (some ⟨w.heap.size + 1 + 1, 0, none⟩), .pointer (some ⟨w.heap.size, 0, none⟩), .pointer (some ⟨w.heap.size + 1 + 1 + 1, 0, none⟩)] W fun e W' =>
        e = .returned (.bool ((cmbs n k 0).any p)) ∧ Inv (uptoT p (cmbs n k 0)) W' ∧ Fr S W W' := by
    intro W i0 hs hx
    have h := choices_go n k hk hnn G fn hG hname hbody vcaps p (w.heap.size + 1) (w.heap.size + 1 + 1) w.heap.size (w.heap.size + 1 + 1 + 1) w.heap.size S HS.out (fun h => by have := HS.out _ h; omega) (fun h => by have := HS.out _ h; omega) (fun h => by have := HS.out _ h; omega) (fun h => by have := HS.out _ h; omega) Inv HST.out HV.out k [] 0 [] W none 0 (by simp) (fun x hx => by simpa using hx) i0 hx (Ft.nil S W) (Nat.le_refl _) (fun _ => rfl) hs (Nat.zero_le _)
    have e1 : (cmbs n k 0).map (fun x => [] ++ x) = cmbs n k 0 := by simp
    rw [e1, List.nil_append] at h
    exact h
  have HGO := aM hgo
  clear hgo
  have h4 : ((((w.alloc (.cells #[.int .i64 (n : Int)] 3)).alloc (.cells #[.int .i64 (k : Int)] 3)).alloc (.cells #[.func (.func G) #[] vcaps] 92)).alloc (.cells #[(.func (.func 165) #[] #[.pointer (some ⟨w.heap.size + 1, 0, none⟩), .pointer (some ⟨w.heap.size + 1 + 1, 0, none⟩), .pointer (some ⟨w.heap.size, 0, none⟩), .pointer (some ⟨w.heap.size + 1 + 1 + 1, 0, none⟩)])] 68)).heap[w.heap.size + 1 + 1 + 1]? = some (.cells #[(.func (.func 165) #[] #[.pointer (some ⟨w.heap.size + 1, 0, none⟩), .pointer (some ⟨w.heap.size + 1 + 1, 0, none⟩), .pointer (some ⟨w.heap.size, 0, none⟩), .pointer (some ⟨w.heap.size + 1 + 1 + 1, 0, none⟩)])] 68 (0, 0)) := by simpa using blk_new (((w.alloc (.cells #[.int .i64 (n : Int)] 3)).alloc (.cells #[.int .i64 (k : Int)] 3)).alloc (.cells #[.func (.func G) #[] vcaps] 92)) (.cells #[(.func (.func 165) #[] #[.pointer (some ⟨w.heap.size + 1, 0, none⟩), .pointer (some ⟨w.heap.size + 1 + 1, 0, none⟩), .pointer (some ⟨w.heap.size, 0, none⟩), .pointer (some ⟨w.heap.size + 1 + 1 + 1, 0, none⟩)])] 68)
  have b0 := Below.refl w.heap.size w
  have HB4 := aM (show Below w.heap.size w ((((w.alloc (.cells #[.int .i64 (n : Int)] 3)).alloc (.cells #[.int .i64 (k : Int)] 3)).alloc (.cells #[.func (.func G) #[] vcaps] 92)).alloc (.cells #[(.func (.func 165) #[] #[.pointer (some ⟨w.heap.size + 1, 0, none⟩), .pointer (some ⟨w.heap.size + 1 + 1, 0, none⟩), .pointer (some ⟨w.heap.size, 0, none⟩), .pointer (some ⟨w.heap.size + 1 + 1 + 1, 0, none⟩)])] 68)) from eA (eA (eA (eA b0 _) _) _) _)
  have HX := aM (show ChX n k G vcaps (w.heap.size + 1) (w.heap.size + 1 + 1) w.heap.size (w.heap.size + 1 + 1 + 1) ((((w.alloc (.cells #[.int .i64 (n : Int)] 3)).alloc (.cells #[.int .i64 (k : Int)] 3)).alloc (.cells #[.func (.func G) #[] vcaps] 92)).alloc (.cells #[(.func (.func 165) #[] #[.pointer (some ⟨w.heap.size + 1, 0, none⟩), .pointer (some ⟨w.heap.size + 1 + 1, 0, none⟩), .pointer (some ⟨w.heap.size, 0, none⟩), .pointer (some ⟨w.heap.size + 1 + 1 + 1, 0, none⟩)])] 68)) from
    ⟨bA (bA (by simpa using blk_new (w.alloc _) _) _) _, bA (by simpa using blk_new ((w.alloc _).alloc _) _) _, bA (bA (bA (blk_new w _) _) _) _, h4⟩)
  clear h4 b0
  go_enter Try.func154, Try.ntmps154
  go_wp2_with (first | ((with_reducible refine (HGO.out _ (HST.out _ _ _ H0.out HB4.out) (below_size HB4.out) HX.out).mono ?_); rintro e w2 ⟨rfl, hi2, hf2⟩; have J1 := aM hi2; have J2 := aM ((Fr.below (S := S) HB4.out).trans hf2); clear hi2 hf2))
  go_ret
  exact ⟨rfl, J1.out, J2.out⟩
end Go.Proofs.Ytmfmgnpefjmieaa.PFnThresholdTables
