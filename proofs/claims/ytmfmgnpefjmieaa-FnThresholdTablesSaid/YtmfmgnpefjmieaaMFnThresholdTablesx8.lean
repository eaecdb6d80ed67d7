-- Laid for this claim by a program of the session's own (wip/tool/myprint.py).
import Derived.Test.YtmfmgnpefjmieaaMFnThresholdTablesx6
import Derived.Test.YtmfmgnpefjmieaaMFnThresholdTablesx7
namespace Go.Proofs.Ytmfmgnpefjmieaa.PFnThresholdTables
open Go.RowKit Go.Proofs.YtmfmgnpefjmieaaW.PrintWords Go.Proofs.YtmfmgnpefjmieaaW.PrintLast Go.Proofs.YtmfmgnpefjmieaaW.PrintMore
attribute [local go_sem] max2_int min2_int max_two min_two max_three min_three max_four min_four
set_option linter.unusedVariables false
set_option maxHeartbeats 8000000
set_option maxRecDepth 100000
set_option linter.unusedSimpArgs false
mutual
def spec_l5Least.l0 : Nat → Int → List Int → List (List Int) → List Int → Bool → Int → Option (List Int × Bool)
  | 0, _, _, _, _, _, _ => none
  | k + 1, x0, x1, x6, x7, x8, x9 => if x9 < (x6.length : Int) then (if x8 = true then (if 0 ≤ x9 then ((spec_l5Size.f k (rd_L2 x6 x9)).bind fun t335 => ((spec_l5Size.f k x7).bind fun t336 => (spec_l5Least.j1 k x0 x1 x6 x7 x8 x9 (decide (t335 ≥ t336))))) else (none)) else (spec_l5Least.j1 k x0 x1 x6 x7 x8 x9 false)) else (some (x7, x8))
def spec_l5Least.j1 : Nat → Int → List Int → List (List Int) → List Int → Bool → Int → Bool → Option (List Int × Bool)
  | 0, _, _, _, _, _, _, _ => none
  | k + 1, x0, x1, x6, x7, x8, x9, x32 => if x32 = true then (spec_l5Least.l0 k x0 x1 x6 x7 x8 (wrap64 (x9 + 1))) else (if 0 ≤ x9 then (if x9 < (x6.length : Int) then ((spec_l5Parts.f k x0 x1 (rd_L2 x6 x9)).bind fun bt338 => (if bt338.2.2 = true then (spec_l5Least.l0 k x0 x1 x6 (rd_L2 x6 x9) true (wrap64 (x9 + 1))) else (spec_l5Least.l0 k x0 x1 x6 x7 x8 (wrap64 (x9 + 1))))) else (none)) else (none))
end
def spec_l5Least.f (k : Nat) (a0 : Int) (l1 : List Int) : Option (List Int × Bool) := (spec_l5Weights.f k a0).bind fun t328 => (spec_l5Least.l0 k a0 l1 t328 (([] : List Int)) false 0)
theorem spec_l5Least.calls (k : Nat) (a0 : Int) (A1 : Option Addr) (c1 : Nat) (l1 : List Int) (r1 : List Int) (r2 : Bool) (w : World) (hr1 : Kd.C (Kd.int .i64) w A1 l1.length l1) (hc1 : l1.length ≤ c1) (h : spec_l5Least.f k a0 l1 = some (r1, r2)) :
    Calls Try.prog 79 #[.int .i64 a0, .slice A1 l1.length c1] w fun e w' => ∃ v0_ : Value, e = .returned (.tuple #[v0_, .bool r2]) ∧ Kd.V (Kd.int .i64) 3 w' w.heap.size (fun k_ => (w.heap.size ≤ k_)) v0_ r1 ∧ Below w.heap.size w w' := by
 have HR1 := aM hr1
 have HC1 := aM hc1
 clear hr1 hc1
 have HB := aM (Below.refl w.heap.size w)
 have H : ((spec_l5Weights.f k a0).bind fun t328 => (spec_l5Least.l0 k a0 l1 t328 (([] : List Int)) false 0)) = some (r1, r2) := h
 clear h
 replace H := oB.mp H
 obtain ⟨t328, A30, H⟩ := H
 have A3 := aM A30
 clear A30
 obtain ⟨y331, hy331⟩ := yE (([] : List Int) : List Int)
 replace H : (spec_l5Least.l0 k a0 l1 t328 y331 false 0) = some (r1, r2) := yI hy331 H
 have Ny331 := aM hy331
 clear hy331
 have H' := aM H
 clear H
 go_enter Try.func79, Try.ntmps79
 go_wp2_with (first | (refine yL 14 Try.func133 #[.int .i64 a0] ?_; (with_reducible refine (spec_l5Weights.calls k a0 t328 _ A3.out).mono ?_); rintro e w4 ⟨v329, rfl, ho0, hb⟩; refine ⟨_, rfl, ?_⟩; have HO330 := aM (Kd.N_lower (Kd.N_mono (ok' := fun k_ => (w.heap.size ≤ k_)) ho0 (fun k_ hk_ => (Nat.le_trans (below_size (xH HB.out)) hk_))) (below_size (xH HB.out))); replace HB := yS0 HB hb; (try clear hb; try clear ho0)) | ((with_reducible refine gate_dst (N := 15) rfl ?_); refine Kd.R_lit (Kd.int .i64) _ 3 ?hg (N := 15) ?hd (xs := ([] : List Int)) (inner := []) (ok := fun _ => True) (okp := fun _ => True) ?hr ?hp (fun _ hk => hk) trivial (Below.refl _ _) (Nat.le_refl _) (by simp) ?_; (case hd => rfl); (case hg => rfl); (case hr => first | (go_simp; done) | (go_simp; rfl)); (case hp => exact (Reps.none _ _)); intro v332 w5 ho6 hb hg_ hnew_; clear hg_ hnew_; (first | rw [← Ny331.out] at ho6 | (simp only [Int.reduceToNat] at ho6; rw [← Ny331.out] at ho6)); replace HO330 := aM (Kd.N_elder' (xN HO330.out) (Kd.R_base ho6) hb); have HO333 := aM (Kd.R_lower (Kd.R_newM (M := fun k_ => (w.heap.size ≤ k_)) ho6 (below_size (xH HB.out)) (fun k_ h_ => h_)) (below_size (xH HB.out))); replace HB := yS0 HB hb; clear hb ho6))
 go_loopg [7, 8, 9] k (fun kq v7 v8 v9 w' => ∃ (x7_1 : List Int) (x8_1 : Bool) (x9_1 : Int), v8 = .bool x8_1 ∧ v9 = .int .i64 x9_1 ∧ Aside0 (spec_l5Least.l0 kq a0 l1 t328 x7_1 x8_1 x9_1 = some (r1, r2)) ∧ Aside0 (kq ≤ k) ∧ Aside0 (Kd.N (Kd.slice 3 (Kd.int .i64)) 24 w' w.heap.size (fun k_ => (w.heap.size ≤ k_)) v329 t328) ∧ Aside0 (Kd.V (Kd.int .i64) 3 w' w.heap.size (fun k_ => (w.heap.size ≤ k_) ∧ some k_ ≠ (v329 : Value).ownBlock) v7 x7_1) ∧ Aside0 (Below w.heap.size w w'))
 case atStart => exact ⟨(y331), (false), (0), yZ, yZ, H', ⟨Nat.le_refl _⟩, ⟨zN (Kd.N_mono HO330.out (fun _ hk => hk.1))⟩, ⟨Kd.R_V (zR (rM (Kd.R_apart' HO333.out (Kd.N_typed HO330.out) (by decide)) (fun _ hk => ⟨hk.1.1, hk.2⟩)))⟩, ⟨xH HB.out⟩⟩
 case round =>
  clear H'
  try clear c1
  obtain ⟨x7_1, x8_1, x9_1, rfl, rfl, HA, HK1, HO_6, HO_7, HB⟩ := hrel
  cases gk with
  | zero => exact absurd HA.out (by simp [spec_l5Least.l0])
  | succ k1 =>
   have H := HA.out
   clear HA
   simp only [spec_l5Least.l0] at H
   obtain ⟨c7, c7b0, H⟩ | ⟨-, c7b0, H⟩ := yif H
   rotate_left
   ·
    simp only [Option.some.injEq, Prod.mk.injEq] at H
    obtain ⟨rfl, rfl⟩ := H
    obtain ⟨Ao22, co22, eo22⟩ := Kd.N_slice HO_6.out
    subst eo22
    go_wp2
    go_ret2
    exact ⟨_, yF, by (with_reducible repeat (first | apply Kd.V_alloc | apply Kd.V_drewN | apply Kd.V_drew)); exact Kd.V_mono HO_7.out (fun _ hk => hk.1), xH HB.out⟩
   clear c7
   have HC8 := aM H
   clear H
   obtain ⟨Ao9, co9, eo9⟩ := Kd.N_slice HO_6.out
   subst eo9
   go_upto_region 6 with (fail)
   go_cut [32] (fun v32 wc => ∃ (kq : Nat) (x32_7 : Bool), v32 = .bool x32_7 ∧ Aside0 (spec_l5Least.j1 kq a0 l1 t328 x7_1 x8_1 x9_1 x32_7 = some (r1, r2)) ∧ Aside0 (kq ≤ k1) ∧ Aside0 (Kd.N (Kd.slice 3 (Kd.int .i64)) 24 wc w.heap.size (fun k_ => (w.heap.size ≤ k_)) (.slice Ao9 t328.length co9) t328) ∧ Aside0 (Kd.V (Kd.int .i64) 3 wc w.heap.size (fun k_ => (w.heap.size ≤ k_) ∧ some k_ ≠ ((.slice Ao9 t328.length co9) : Value).ownBlock) u7 x7_1) ∧ Aside0 (Below w.heap.size w wc))
   case first =>
    have H := HC8.out
    clear HC8
    by_cases c10 : x8_1 = true
    rotate_left
    ·
     replace c10 := Bool.eq_false_iff.mpr c10
     subst c10
     rw [if_neg (show ¬ (false = true) by decide)] at H
     have H' := aM H
     clear H
     go_wp2
     go_meet
     case rel => exact ⟨_, (false), yZ, H', ⟨by have := HK1.out; first | omega | exact Nat.le_refl _⟩, ⟨xN HO_6.out⟩, ⟨xV HO_7.out⟩, ⟨xH HB.out⟩⟩
    subst c10
    rw [if_pos rfl] at H
    obtain ⟨-, c11b0, H⟩ | ⟨c11, -, H⟩ := yif H
    rotate_left
    · exact absurd H (by simp)
    (first | rw [c11b0] | (simp only [i64_w, i32_w]; rw [c11b0]) | rw [c11b1] | skip)
    replace H := oB.mp H
    obtain ⟨t335, A120, H⟩ := H
    have A12 := aM A120
    clear A120
    replace H := oB.mp H
    obtain ⟨t336, A130, H⟩ := H
    have A13 := aM A130
    clear A130
    have H' := aM H
    clear H
    have p334 : 0 ≤ (x9_1 : Int) := yA
    have q334 : x9_1 < (t328.length : Int) := yA
    obtain ⟨ad334, A334_0, c334_0, e334, hx334_0, hl334_0, hi334_0⟩ := at_L2 (Kd.N_reads' HO_6.out).2.2 x9_1 p334 q334
    cases e334
    obtain ⟨ce334, hce334, hMe334, hcc334⟩ := Kd.N_get HO_6.out [] x9_1 p334 (by first | exact q334 | exact yA | (have e_ := (Kd.N_reads' HO_6.out).1; omega))
    obtain ⟨ua334_0, uc334_0, rfl, ul334_0, ge334_0⟩ := Kd.FK_slice_open hMe334
    have hv334_0 := hcc334 0 _ rfl
    rw [Nat.add_zero, show ((Kd.slice 3 (Kd.int .i64))).sz = 1 from rfl, Nat.mul_one] at hv334_0
    replace hv334_0 := Option.some.inj (hv334_0.symm.trans hx334_0)
    injection hv334_0 with hva_ hvn_ hvc_
    rw [hva_] at ge334_0
    rw [hvc_] at ul334_0
    have HL334_0 := aM (show Kd.V (Kd.int .i64) 3 _ w.heap.size _ _ (rd_L2 t328 x9_1) from Kd.V_mk ul334_0 ge334_0)
    clear hva_ hvn_ hvc_ ge334_0 ul334_0
    clear hcc334 hce334
    have HR334_0 := aM hi334_0
    have HC334_0 := aM hl334_0
    clear hi334_0 hl334_0
    replace p334 := eq_true p334
    replace q334 := eq_true q334
    go_wp2_with (first | (go_at_call 80; (with_reducible refine (spec_l5Size.calls k1 _ _ (rd_L2 t328 x9_1) t335 _ ?side1 HC334_0.out A12.out).mono ?_); (case side1 => repeat (first | exact (by repeat (first | (with_reducible exact HR334_0.out) | (with_reducible refine Kd.C_alloc ?_ _) | (with_reducible refine Kd.C_drewN ?_ _) | (with_reducible refine Kd.C_drew ?_) | exact HR334_0.out)) | (with_reducible refine Kd.C_alloc ?_ _) | (with_reducible refine Kd.C_drewN ?_ _) | (with_reducible refine Kd.C_drew ?_))); rintro e w' ⟨rfl, ⟨nd, rfl⟩⟩; obtain ⟨Ao14, co14, eo14⟩ := Kd.V_slice HO_7.out; subst eo14) | (go_at_call 80; (with_reducible refine (spec_l5Size.calls k1 _ _ x7_1 t336 _ ?side1 ((Kd.V_reads' HO_7.out).2.1) A13.out).mono ?_); (case side1 => repeat (first | exact (Kd.V_reads' HO_7.out).2.2 | (with_reducible refine Kd.C_alloc ?_ _) | (with_reducible refine Kd.C_drewN ?_ _) | (with_reducible refine Kd.C_drew ?_))); rintro e w' ⟨rfl, ⟨nd, rfl⟩⟩))
    go_meet
    case rel => exact ⟨_, (decide (t335 ≥ t336)), yZ, H', ⟨by have := HK1.out; first | omega | exact Nat.le_refl _⟩, ⟨xN HO_6.out⟩, ⟨xV HO_7.out⟩, ⟨xH HB.out⟩⟩
   case rest =>
    clear HC8
    try clear c3
    try clear c7
    try clear c7b0
    try clear c10
    try clear c11
    try clear c11b0
    try clear hx334_0
    try clear p334
    try clear q334
    obtain ⟨kq, x32_7, rfl, HA, HJ7, HO_6, HO_7, HB⟩ := hcut
    cases kq with
    | zero => exact absurd HA.out (by simp [spec_l5Least.j1])
    | succ kj7 =>
     have H := HA.out
     clear HA
     simp only [spec_l5Least.j1] at H
     by_cases c15 : x32_7 = true
     ·
      subst c15
      rw [if_pos rfl] at H
      have H' := aM H
      clear H
      go_wp2
      go_roundg kj7
      case measure => have := HK1.out; have := HJ7.out; omega
      case rel => exact ⟨(x7_1), (x8_1), (wrap64 (x9_1 + 1)), yZ, yZ, H', ⟨by have := HK1.out; have := HJ7.out; omega⟩, ⟨xN HO_6.out⟩, ⟨xV HO_7.out⟩, ⟨xH HB.out⟩⟩
     replace c15 := Bool.eq_false_iff.mpr c15
     subst c15
     rw [if_neg (show ¬ (false = true) by decide)] at H
     obtain ⟨-, c16b0, H⟩ | ⟨c16, -, H⟩ := yif H
     rotate_left
     · exact absurd H (by simp)
     obtain ⟨-, c17b0, H⟩ | ⟨c17, -, H⟩ := yif H
     rotate_left
     · exact absurd H (by simp)
     replace H := oB.mp H
     obtain ⟨⟨t338, t339, t340⟩, A180, H⟩ := H
     (try dsimp only at H)
     have A18 := aM A180
     clear A180
     by_cases c19 : t340 = true
     rotate_left
     ·
      replace c19 := Bool.eq_false_iff.mpr c19
      subst c19
      rw [if_neg (show ¬ (false = true) by decide)] at H
      have H' := aM H
      clear H
      have p337 : 0 ≤ (x9_1 : Int) := yA
      have q337 : x9_1 < (t328.length : Int) := yA
      obtain ⟨ad337, A337_0, c337_0, e337, hx337_0, hl337_0, hi337_0⟩ := at_L2 (Kd.N_reads' HO_6.out).2.2 x9_1 p337 q337
      cases e337
      obtain ⟨ce337, hce337, hMe337, hcc337⟩ := Kd.N_get HO_6.out [] x9_1 p337 (by first | exact q337 | exact yA | (have e_ := (Kd.N_reads' HO_6.out).1; omega))
      obtain ⟨ua337_0, uc337_0, rfl, ul337_0, ge337_0⟩ := Kd.FK_slice_open hMe337
      have hv337_0 := hcc337 0 _ rfl
      rw [Nat.add_zero, show ((Kd.slice 3 (Kd.int .i64))).sz = 1 from rfl, Nat.mul_one] at hv337_0
      replace hv337_0 := Option.some.inj (hv337_0.symm.trans hx337_0)
      injection hv337_0 with hva_ hvn_ hvc_
      rw [hva_] at ge337_0
      rw [hvc_] at ul337_0
      have HL337_0 := aM (show Kd.V (Kd.int .i64) 3 _ w.heap.size _ _ (rd_L2 t328 x9_1) from Kd.V_mk ul337_0 ge337_0)
      clear hva_ hvn_ hvc_ ge337_0 ul337_0
      clear hcc337 hce337
      have HR337_0 := aM hi337_0
      have HC337_0 := aM hl337_0
      clear hi337_0 hl337_0
      replace p337 := eq_true p337
      replace q337 := eq_true q337
      go_wp2_with (first | (refine yL 40 Try.func132 #[.int .i64 a0, .slice A1 l1.length c1, .slice A337_0 (rd_L2 t328 x9_1).length c337_0] ?_; (with_reducible refine (spec_l5Parts.calls kj7 a0 _ _ l1 _ _ (rd_L2 t328 x9_1) t338 t339 false _ (xC (Kd.C_below HR1.out HB.out)) HC1.out ?side3 HC337_0.out A18.out).mono ?_); (case side3 => repeat (first | exact (by repeat (first | (with_reducible exact HR337_0.out) | (with_reducible refine Kd.C_alloc ?_ _) | (with_reducible refine Kd.C_drewN ?_ _) | (with_reducible refine Kd.C_drew ?_) | exact HR337_0.out)) | (with_reducible refine Kd.C_alloc ?_ _) | (with_reducible refine Kd.C_drewN ?_ _) | (with_reducible refine Kd.C_drew ?_))); rintro e w21 ⟨rfl, hb⟩; refine ⟨_, rfl, ?_⟩; replace HO_6 := aM (Kd.N_below (xN HO_6.out) hb); replace HO_7 := aM (Kd.V_below (xV HO_7.out) hb); replace HL337_0 := aM (Kd.V_below (xV HL337_0.out) hb); replace HR337_0 := aM (Kd.C_below (by repeat (first | (with_reducible exact HR337_0.out) | (with_reducible refine Kd.C_alloc ?_ _) | (with_reducible refine Kd.C_drewN ?_ _) | (with_reducible refine Kd.C_drew ?_) | exact HR337_0.out)) hb); replace HB := yS0 HB hb; (try clear hb)))
      go_roundg kj7
      case measure => have := HK1.out; have := HJ7.out; omega
      case rel => exact ⟨(x7_1), (x8_1), (wrap64 (x9_1 + 1)), yZ, yZ, H', ⟨by have := HK1.out; have := HJ7.out; omega⟩, ⟨xN HO_6.out⟩, ⟨xV HO_7.out⟩, ⟨xH HB.out⟩⟩
     subst c19
     rw [if_pos rfl] at H
     have H' := aM H
     clear H
     have p337 : 0 ≤ (x9_1 : Int) := yA
     have q337 : x9_1 < (t328.length : Int) := yA
     obtain ⟨ad337, A337_0, c337_0, e337, hx337_0, hl337_0, hi337_0⟩ := at_L2 (Kd.N_reads' HO_6.out).2.2 x9_1 p337 q337
     cases e337
     obtain ⟨ce337, hce337, hMe337, hcc337⟩ := Kd.N_get HO_6.out [] x9_1 p337 (by first | exact q337 | exact yA | (have e_ := (Kd.N_reads' HO_6.out).1; omega))
     obtain ⟨ua337_0, uc337_0, rfl, ul337_0, ge337_0⟩ := Kd.FK_slice_open hMe337
     have hv337_0 := hcc337 0 _ rfl
     rw [Nat.add_zero, show ((Kd.slice 3 (Kd.int .i64))).sz = 1 from rfl, Nat.mul_one] at hv337_0
     replace hv337_0 := Option.some.inj (hv337_0.symm.trans hx337_0)
     injection hv337_0 with hva_ hvn_ hvc_
     rw [hva_] at ge337_0
     rw [hvc_] at ul337_0
     have HL337_0 := aM (show Kd.V (Kd.int .i64) 3 _ w.heap.size _ _ (rd_L2 t328 x9_1) from Kd.V_mk ul337_0 ge337_0)
     clear hva_ hvn_ hvc_ ge337_0 ul337_0
     clear hcc337 hce337
     have HR337_0 := aM hi337_0
     have HC337_0 := aM hl337_0
     clear hi337_0 hl337_0
     replace p337 := eq_true p337
     replace q337 := eq_true q337
     go_wp2_with (first | (refine yL 40 Try.func132 #[.int .i64 a0, .slice A1 l1.length c1, .slice A337_0 (rd_L2 t328 x9_1).length c337_0] ?_; (with_reducible refine (spec_l5Parts.calls kj7 a0 _ _ l1 _ _ (rd_L2 t328 x9_1) t338 t339 true _ (xC (Kd.C_below HR1.out HB.out)) HC1.out ?side3 HC337_0.out A18.out).mono ?_); (case side3 => repeat (first | exact (by repeat (first | (with_reducible exact HR337_0.out) | (with_reducible refine Kd.C_alloc ?_ _) | (with_reducible refine Kd.C_drewN ?_ _) | (with_reducible refine Kd.C_drew ?_) | exact HR337_0.out)) | (with_reducible refine Kd.C_alloc ?_ _) | (with_reducible refine Kd.C_drewN ?_ _) | (with_reducible refine Kd.C_drew ?_))); rintro e w20 ⟨rfl, hb⟩; refine ⟨_, rfl, ?_⟩; replace HO_6 := aM (Kd.N_below (xN HO_6.out) hb); replace HO_7 := aM (Kd.V_below (xV HO_7.out) hb); replace HL337_0 := aM (Kd.V_below (xV HL337_0.out) hb); replace HR337_0 := aM (Kd.C_below (by repeat (first | (with_reducible exact HR337_0.out) | (with_reducible refine Kd.C_alloc ?_ _) | (with_reducible refine Kd.C_drewN ?_ _) | (with_reducible refine Kd.C_drew ?_) | exact HR337_0.out)) hb); replace HB := yS0 HB hb; (try clear hb); have p341 : 0 ≤ (x9_1 : Int) := yA; have q341 : x9_1 < (t328.length : Int) := yA; obtain ⟨ad341, A341_0, c341_0, e341, hx341_0, hl341_0, hi341_0⟩ := at_L2 (Kd.N_reads' HO_6.out).2.2 x9_1 p341 q341; obtain rfl : ad337 = ad341 := (by injection e341); obtain ⟨ce341, hce341, hMe341, hcc341⟩ := Kd.N_get HO_6.out [] x9_1 p341 (by first | exact q341 | exact yA | (have e_ := (Kd.N_reads' HO_6.out).1; omega)); obtain ⟨ua341_0, uc341_0, rfl, ul341_0, ge341_0⟩ := Kd.FK_slice_open hMe341; have hv341_0 := hcc341 0 _ rfl; rw [Nat.add_zero, show ((Kd.slice 3 (Kd.int .i64))).sz = 1 from rfl, Nat.mul_one] at hv341_0; replace hv341_0 := Option.some.inj (hv341_0.symm.trans hx341_0); injection hv341_0 with hva_ hvn_ hvc_; rw [hva_] at ge341_0; rw [hvc_] at ul341_0; have HL341_0 := aM (show Kd.V (Kd.int .i64) 3 _ w.heap.size _ _ (rd_L2 t328 x9_1) from Kd.V_mk ul341_0 ge341_0); clear hva_ hvn_ hvc_ ge341_0 ul341_0; clear hcc341 hce341; have HR341_0 := aM hi341_0; have HC341_0 := aM hl341_0; clear hi341_0 hl341_0; replace p341 := eq_true p341; replace q341 := eq_true q341))
     go_roundg kj7
     case measure => have := HK1.out; have := HJ7.out; omega
     case rel => exact ⟨(rd_L2 t328 x9_1), (true), (wrap64 (x9_1 + 1)), yZ, yZ, H', ⟨by have := HK1.out; have := HJ7.out; omega⟩, ⟨xN HO_6.out⟩, ⟨xV HL341_0.out⟩, ⟨xH HB.out⟩⟩
def spec_l1Has.l0 : Nat → List Int → Int → Int → Option (Bool)
  | 0, _, _, _ => none
  | k + 1, x0, x1, x5 => if x5 < (x0.length : Int) then (if 0 ≤ x5 then (if (rd x0 x5) = x1 then (some true) else (spec_l1Has.l0 k x0 x1 (wrap64 (x5 + 1)))) else (none)) else (some false)
def spec_l1Has.f (k : Nat) (l0 : List Int) (a1 : Int) : Option (Bool) := spec_l1Has.l0 k l0 a1 0
theorem spec_l1Has.calls (k : Nat) (A0 : Option Addr) (c0 : Nat) (l0 : List Int) (a1 : Int) (r : Bool) (w : World) (hr0 : Kd.C (Kd.int .i64) w A0 l0.length l0) (hc0 : l0.length ≤ c0) (h : spec_l1Has.f k l0 a1 = some r) :
    Calls Try.prog 108 #[.slice A0 l0.length c0, .int .i64 a1] w fun e w' => e = .returned (.bool r) ∧ Drawn0 w w' := by
 have HR0 := aM hr0
 have HC0 := aM hc0
 clear hr0 hc0
 have H : (spec_l1Has.l0 k l0 a1 0) = some r := h
 clear h
 have H' := aM H
 clear H
 go_enter Try.func108, Try.ntmps108
 go_wp2
 go_loopg [5] k (fun kq v5 w' => ∃ (x5_1 : Int), v5 = .int .i64 x5_1 ∧ Aside0 (spec_l1Has.l0 kq l0 a1 x5_1 = some r) ∧ Aside0 (kq ≤ k) ∧ Drawn0 w w')
 case atStart => exact ⟨(0), yZ, H', ⟨Nat.le_refl _⟩, yDn⟩
 case round =>
  clear H'
  try clear c1
  obtain ⟨x5_1, rfl, HA, HK1, ⟨m1, rfl⟩⟩ := hrel
  cases gk with
  | zero => exact absurd HA.out (by simp [spec_l1Has.l0])
  | succ k1 =>
   have H := HA.out
   clear HA
   simp only [spec_l1Has.l0] at H
   obtain ⟨-, c3b0, H⟩ | ⟨-, c3b0, H⟩ := yif H
   rotate_left
   ·
    obtain rfl := Option.some.inj H
    go_wp2
    go_ret
    exact ⟨yZ, yDn⟩
   obtain ⟨-, c4b0, H⟩ | ⟨c4, -, H⟩ := yif H
   rotate_left
   · exact absurd H (by simp)
   obtain ⟨c5, -, H⟩ | ⟨c5, -, H⟩ := yif H
   ·
    have c5b0 : ((rd l0 x5_1) == a1) = true := beq_iff_eq.mpr c5
    have c5b1 : ((rd l0 x5_1) != a1) = false := bne_eq_false_iff_eq.mpr c5
    clear c5
    obtain rfl := Option.some.inj H
    obtain ⟨ad342, e342, hx342_0, p342, q342⟩ := yi HR0.out x5_1
    cases e342
    go_wp2
    go_ret
    exact ⟨yZ, yDn⟩
   have c5b0 : ((rd l0 x5_1) == a1) = false := beq_eq_false_iff_ne.mpr c5
   have c5b1 : ((rd l0 x5_1) != a1) = true := bne_iff_ne.mpr c5
   have H' := aM H
   clear H
   obtain ⟨ad342, e342, hx342_0, p342, q342⟩ := yi HR0.out x5_1
   cases e342
   go_wp2
   go_roundg k1
   case measure => have := HK1.out; omega
   case rel => exact ⟨(wrap64 (x5_1 + 1)), yZ, H', ⟨by have := HK1.out; omega⟩, yDn⟩
def spec_l5Plane.f (k : Nat) (a0 : Int) (l1 : List Int) : Option (List Int × Int × Bool) := (spec_l5Least.f k a0 l1).bind fun bt344 => (if bt344.2 = true then ((spec_l5Parts.f k a0 l1 bt344.1).bind fun bt348 => ((spec_l1Has.f k l1 1).bind fun t351 => (if t351 = true then (some (bt344.1, bt348.1, true)) else (some (bt344.1, wrap64 (bt348.2.1 + 1), true))))) else (some (([] : List Int), 0, false)))
theorem spec_l5Plane.calls (k : Nat) (a0 : Int) (A1 : Option Addr) (c1 : Nat) (l1 : List Int) (r1 : List Int) (r2 : Int) (r3 : Bool) (w : World) (hr1 : Kd.C (Kd.int .i64) w A1 l1.length l1) (hc1 : l1.length ≤ c1) (h : spec_l5Plane.f k a0 l1 = some (r1, r2, r3)) :
    Calls Try.prog 77 #[.int .i64 a0, .slice A1 l1.length c1] w fun e w' => ∃ v0_ : Value, e = .returned (.tuple #[.agg #[v0_, .int .i64 r2], .bool r3]) ∧ Kd.V (Kd.int .i64) 3 w' w.heap.size (fun k_ => (w.heap.size ≤ k_)) v0_ r1 ∧ Below w.heap.size w w' := by
 have hu28 := Try.underlying28
 have HR1 := aM hr1
 have HC1 := aM hc1
 clear hr1 hc1
 have HB := aM (Below.refl w.heap.size w)
 have H : ((spec_l5Least.f k a0 l1).bind fun bt344 => (if bt344.2 = true then ((spec_l5Parts.f k a0 l1 bt344.1).bind fun bt348 => ((spec_l1Has.f k l1 1).bind fun t351 => (if t351 = true then (some (bt344.1, bt348.1, true)) else (some (bt344.1, wrap64 (bt348.2.1 + 1), true))))) else (some (([] : List Int), 0, false)))) = some (r1, r2, r3) := h
 clear h
 replace H := oB.mp H
 obtain ⟨⟨t344, t347⟩, A30, H⟩ := H
 (try dsimp only at H)
 have A3 := aM A30
 clear A30
 by_cases c4 : t347 = true
 rotate_left
 ·
  replace c4 := Bool.eq_false_iff.mpr c4
  subst c4
  rw [if_neg (show ¬ (false = true) by decide)] at H
  simp only [Option.some.injEq, Prod.mk.injEq] at H
  obtain ⟨rfl, rfl, rfl⟩ := H
  go_enter Try.func77, Try.ntmps77
  go_wp2_with (first | (refine yB 4 #[.slice none 0 0, .int .i64 0] 28 ?_; intro gb343 hg w18 hbox hb; have BK343 := aM (hbox); have GW343 := yV0 hg HB; have GE343 := yV0 hg HB; replace HB := yS0 HB hb; clear hb hbox hg) | (refine yL 14 Try.func79 #[.int .i64 a0, .slice A1 l1.length c1] ?_; (with_reducible refine (spec_l5Least.calls k a0 _ _ l1 t344 false _ (xC (Kd.C_below HR1.out HB.out)) HC1.out A3.out).mono ?_); rintro e w19 ⟨v345, rfl, ho0, hb⟩; refine ⟨_, rfl, ?_⟩; have HO346 := aM (Kd.V_lower (Kd.V_mono (ok' := fun k_ => (w.heap.size ≤ k_) ∧ k_ ≠ gb343) ho0 (fun k_ hk_ => ⟨(Nat.le_trans (below_size (xG1 HB.out GE343.out)) hk_), (Kd.freshB (g := gb343) (o := .cells #[.slice none 0 0, .int .i64 0] 28 (0, 0)) (xB BK343.out) k_ hk_)⟩)) (below_size (xG1 HB.out GE343.out))); replace BK343 := yK BK343 hb; replace HB := yS1 HB GE343 hb; (try clear hb; try clear ho0); obtain ⟨hcz20_0, hcz20_1, hfz20_0, hfz20_1⟩ := yD2 BK343))
  refine bodyPost_ret (results_ct rfl _ _ gb343 28 #[.slice none 0 0, .int .i64 0] (0, 0) _ rfl (by (with_reducible repeat (first | refine bN ?_ _ | refine bD ?_ | refine bA ?_ _)); refine blk_put (cs := #[.slice none 0 0, .int .i64 0]) ?_ 1 _ rfl; (with_reducible repeat (first | refine bN ?_ _ | refine bD ?_ | refine bA ?_ _)); refine blk_put (cs := #[.slice none 0 0, .int .i64 0]) ?_ 0 _ rfl; (with_reducible repeat (first | refine bN ?_ _ | refine bD ?_ | refine bA ?_ _)); exact BK343.out) Try.underlying28 rfl (by kernel_rfl)) rfl ?_
  exact ⟨_, yF, Kd.R_V (base := 0) (yNi), xG1 HB.out GE343.out⟩
 subst c4
 rw [if_pos rfl] at H
 replace H := oB.mp H
 obtain ⟨⟨t348, t349, t350⟩, A50, H⟩ := H
 (try dsimp only at H)
 have A5 := aM A50
 clear A50
 replace H := oB.mp H
 obtain ⟨t351, A60, H⟩ := H
 have A6 := aM A60
 clear A60
 by_cases c7 : t351 = true
 ·
  subst c7
  rw [if_pos rfl] at H
  simp only [Option.some.injEq, Prod.mk.injEq] at H
  obtain ⟨rfl, rfl, rfl⟩ := H
  go_enter Try.func77, Try.ntmps77
  go_wp2_with (first | (refine yB 4 #[.slice none 0 0, .int .i64 0] 28 ?_; intro gb343 hg w8 hbox hb; have BK343 := aM (hbox); have GW343 := yV0 hg HB; have GE343 := yV0 hg HB; replace HB := yS0 HB hb; clear hb hbox hg) | (refine yL 14 Try.func79 #[.int .i64 a0, .slice A1 l1.length c1] ?_; (with_reducible refine (spec_l5Least.calls k a0 _ _ l1 t344 true _ (xC (Kd.C_below HR1.out HB.out)) HC1.out A3.out).mono ?_); rintro e w9 ⟨v345, rfl, ho0, hb⟩; refine ⟨_, rfl, ?_⟩; have HO346 := aM (Kd.V_lower (Kd.V_mono (ok' := fun k_ => (w.heap.size ≤ k_) ∧ k_ ≠ gb343) ho0 (fun k_ hk_ => ⟨(Nat.le_trans (below_size (xG1 HB.out GE343.out)) hk_), (Kd.freshB (g := gb343) (o := .cells #[.slice none 0 0, .int .i64 0] 28 (0, 0)) (xB BK343.out) k_ hk_)⟩)) (below_size (xG1 HB.out GE343.out))); replace BK343 := yK BK343 hb; replace HB := yS1 HB GE343 hb; (try clear hb; try clear ho0); obtain ⟨Ao10, co10, eo10⟩ := Kd.V_slice HO346.out; subst eo10) | (refine yL 24 Try.func132 #[.int .i64 a0, .slice A1 l1.length c1, .slice Ao10 t344.length co10] ?_; (with_reducible refine (spec_l5Parts.calls k a0 _ _ l1 _ _ t344 t348 t349 t350 _ (xC (Kd.C_below HR1.out HB.out)) HC1.out ?side3 ((Kd.V_reads' HO346.out).2.1) A5.out).mono ?_); (case side3 => repeat (first | exact (Kd.V_reads' HO346.out).2.2 | (with_reducible refine Kd.C_alloc ?_ _) | (with_reducible refine Kd.C_drewN ?_ _) | (with_reducible refine Kd.C_drew ?_))); rintro e w11 ⟨rfl, hb⟩; refine ⟨_, rfl, ?_⟩; replace HO346 := aM (Kd.V_below (xV HO346.out) hb); replace BK343 := yK BK343 hb; replace HB := yS1 HB GE343 hb; (try clear hb)) | (refine yL 29 Try.func108 #[.slice A1 l1.length c1, .int .i64 1] ?_; (with_reducible refine (spec_l1Has.calls k _ _ l1 1 true _ (xC (Kd.C_below HR1.out HB.out)) HC1.out A6.out).mono ?_); rintro e w' ⟨rfl, ⟨nd, rfl⟩⟩; refine ⟨_, rfl, ?_⟩; (try (rw [drewN_self w11]; generalize hq_ : World.drewN w11 _ = w11; have n0_ : Aside0 (Kd.V (Kd.int .i64) 3 w11 w.heap.size (fun k_ => (((w.heap.size ≤ k_)) ∧ k_ ≠ gb343)) (.slice Ao10 t344.length co10) t344) := ⟨by rw [← hq_]; exact (xV HO346.out)⟩; have n1_ : Aside0 (w11.heap[gb343]? = some (.cells #[.slice none 0 0, .int .i64 0] 28 (0, 0))) := ⟨by rw [← hq_]; exact (xB BK343.out)⟩; have n2_ : Aside0 (Below w.heap.size w w11) := ⟨by rw [← hq_]; exact (xG1 HB.out GE343.out)⟩; clear HO346 BK343 HB hq_; have HO346 := n0_; have BK343 := n1_; have HB := n2_; clear n0_ n1_ n2_)); obtain ⟨hcz12_0, hcz12_1, hfz12_0, hfz12_1⟩ := yD2 BK343))
  refine bodyPost_ret (results_ct rfl _ _ gb343 28 #[.slice Ao10 t344.length co10, .int .i64 t348] (0, 0) _ rfl (by (with_reducible repeat (first | refine bN ?_ _ | refine bD ?_ | refine bA ?_ _)); refine blk_put (cs := #[.slice Ao10 t344.length co10, .int .i64 0]) ?_ 1 _ rfl; (with_reducible repeat (first | refine bN ?_ _ | refine bD ?_ | refine bA ?_ _)); refine blk_put (cs := #[.slice none 0 0, .int .i64 0]) ?_ 0 _ rfl; (with_reducible repeat (first | refine bN ?_ _ | refine bD ?_ | refine bA ?_ _)); exact BK343.out) Try.underlying28 rfl (by kernel_rfl)) rfl ?_
  exact ⟨_, yF, by (with_reducible repeat (first | apply Kd.V_alloc | apply Kd.V_drewN | apply Kd.V_drew)); exact Kd.V_mono (Kd.V_far (p := ⟨gb343, 1, none⟩) (Kd.V_far (p := ⟨gb343, 0, none⟩) (Kd.V_mono HO346.out (fun k_ hk => (⟨hk, hk.2⟩ : _ ∧ k_ ≠ gb343))) (fun _ hk => hk.2) (.slice Ao10 t344.length co10)) (fun _ hk => hk.2) (.int .i64 t348)) (fun _ hk => hk.1.1), xG1 HB.out GE343.out⟩
 replace c7 := Bool.eq_false_iff.mpr c7
 subst c7
 rw [if_neg (show ¬ (false = true) by decide)] at H
 simp only [Option.some.injEq, Prod.mk.injEq] at H
 obtain ⟨rfl, rfl, rfl⟩ := H
 go_enter Try.func77, Try.ntmps77
 go_wp2_with (first | (refine yB 4 #[.slice none 0 0, .int .i64 0] 28 ?_; intro gb343 hg w13 hbox hb; have BK343 := aM (hbox); have GW343 := yV0 hg HB; have GE343 := yV0 hg HB; replace HB := yS0 HB hb; clear hb hbox hg) | (refine yL 14 Try.func79 #[.int .i64 a0, .slice A1 l1.length c1] ?_; (with_reducible refine (spec_l5Least.calls k a0 _ _ l1 t344 true _ (xC (Kd.C_below HR1.out HB.out)) HC1.out A3.out).mono ?_); rintro e w14 ⟨v345, rfl, ho0, hb⟩; refine ⟨_, rfl, ?_⟩; have HO346 := aM (Kd.V_lower (Kd.V_mono (ok' := fun k_ => (w.heap.size ≤ k_) ∧ k_ ≠ gb343) ho0 (fun k_ hk_ => ⟨(Nat.le_trans (below_size (xG1 HB.out GE343.out)) hk_), (Kd.freshB (g := gb343) (o := .cells #[.slice none 0 0, .int .i64 0] 28 (0, 0)) (xB BK343.out) k_ hk_)⟩)) (below_size (xG1 HB.out GE343.out))); replace BK343 := yK BK343 hb; replace HB := yS1 HB GE343 hb; (try clear hb; try clear ho0); obtain ⟨Ao15, co15, eo15⟩ := Kd.V_slice HO346.out; subst eo15) | (refine yL 24 Try.func132 #[.int .i64 a0, .slice A1 l1.length c1, .slice Ao15 t344.length co15] ?_; (with_reducible refine (spec_l5Parts.calls k a0 _ _ l1 _ _ t344 t348 t349 t350 _ (xC (Kd.C_below HR1.out HB.out)) HC1.out ?side3 ((Kd.V_reads' HO346.out).2.1) A5.out).mono ?_); (case side3 => repeat (first | exact (Kd.V_reads' HO346.out).2.2 | (with_reducible refine Kd.C_alloc ?_ _) | (with_reducible refine Kd.C_drewN ?_ _) | (with_reducible refine Kd.C_drew ?_))); rintro e w16 ⟨rfl, hb⟩; refine ⟨_, rfl, ?_⟩; replace HO346 := aM (Kd.V_below (xV HO346.out) hb); replace BK343 := yK BK343 hb; replace HB := yS1 HB GE343 hb; (try clear hb)) | (refine yL 29 Try.func108 #[.slice A1 l1.length c1, .int .i64 1] ?_; (with_reducible refine (spec_l1Has.calls k _ _ l1 1 false _ (xC (Kd.C_below HR1.out HB.out)) HC1.out A6.out).mono ?_); rintro e w' ⟨rfl, ⟨nd, rfl⟩⟩; refine ⟨_, rfl, ?_⟩; (try (rw [drewN_self w16]; generalize hq_ : World.drewN w16 _ = w16; have n0_ : Aside0 (Kd.V (Kd.int .i64) 3 w16 w.heap.size (fun k_ => (((w.heap.size ≤ k_)) ∧ k_ ≠ gb343)) (.slice Ao15 t344.length co15) t344) := ⟨by rw [← hq_]; exact (xV HO346.out)⟩; have n1_ : Aside0 (w16.heap[gb343]? = some (.cells #[.slice none 0 0, .int .i64 0] 28 (0, 0))) := ⟨by rw [← hq_]; exact (xB BK343.out)⟩; have n2_ : Aside0 (Below w.heap.size w w16) := ⟨by rw [← hq_]; exact (xG1 HB.out GE343.out)⟩; clear HO346 BK343 HB hq_; have HO346 := n0_; have BK343 := n1_; have HB := n2_; clear n0_ n1_ n2_)); obtain ⟨hcz17_0, hcz17_1, hfz17_0, hfz17_1⟩ := yD2 BK343))
 refine bodyPost_ret (results_ct rfl _ _ gb343 28 #[.slice Ao15 t344.length co15, .int .i64 (wrap64 (t349 + 1))] (0, 0) _ rfl (by (with_reducible repeat (first | refine bN ?_ _ | refine bD ?_ | refine bA ?_ _)); refine blk_put (cs := #[.slice Ao15 t344.length co15, .int .i64 0]) ?_ 1 _ rfl; (with_reducible repeat (first | refine bN ?_ _ | refine bD ?_ | refine bA ?_ _)); refine blk_put (cs := #[.slice none 0 0, .int .i64 0]) ?_ 0 _ rfl; (with_reducible repeat (first | refine bN ?_ _ | refine bD ?_ | refine bA ?_ _)); exact BK343.out) Try.underlying28 rfl (by kernel_rfl)) rfl ?_
 exact ⟨_, yF, by (with_reducible repeat (first | apply Kd.V_alloc | apply Kd.V_drewN | apply Kd.V_drew)); exact Kd.V_mono (Kd.V_far (p := ⟨gb343, 1, none⟩) (Kd.V_far (p := ⟨gb343, 0, none⟩) (Kd.V_mono HO346.out (fun k_ hk => (⟨hk, hk.2⟩ : _ ∧ k_ ≠ gb343))) (fun _ hk => hk.2) (.slice Ao15 t344.length co15)) (fun _ hk => hk.2) (.int .i64 (wrap64 (t349 + 1)))) (fun _ hk => hk.1.1), xG1 HB.out GE343.out⟩
def spec_LeastPlane.f (k : Nat) (a0 : Int) (l1 : List Int) : Option (List Int × Int × Bool) := (spec_l2Table.f k a0 l1).bind fun t353 => (if t353 = true then (if a0 = 0 then (some (([] : List Int), 0, false)) else ((spec_l5Plane.f k a0 l1).bind fun bt354 => (some (bt354.1, bt354.2.1, bt354.2.2)))) else (some (([] : List Int), 0, false)))
theorem spec_LeastPlane.calls (k : Nat) (a0 : Int) (A1 : Option Addr) (c1 : Nat) (l1 : List Int) (r1 : List Int) (r2 : Int) (r3 : Bool) (w : World) (hr1 : Kd.C (Kd.int .i64) w A1 l1.length l1) (hc1 : l1.length ≤ c1) (h : spec_LeastPlane.f k a0 l1 = some (r1, r2, r3)) :
    Calls Try.prog 10 #[.int .i64 a0, .slice A1 l1.length c1] w fun e w' => ∃ v0_ : Value, e = .returned (.tuple #[.agg #[v0_, .int .i64 r2], .bool r3]) ∧ Kd.V (Kd.int .i64) 3 w' w.heap.size (fun k_ => (w.heap.size ≤ k_)) v0_ r1 ∧ Below w.heap.size w w' := by
 have hu28 := Try.underlying28
 have HR1 := aM hr1
 have HC1 := aM hc1
 clear hr1 hc1
 have HB := aM (Below.refl w.heap.size w)
 have H : ((spec_l2Table.f k a0 l1).bind fun t353 => (if t353 = true then (if a0 = 0 then (some (([] : List Int), 0, false)) else ((spec_l5Plane.f k a0 l1).bind fun bt354 => (some (bt354.1, bt354.2.1, bt354.2.2)))) else (some (([] : List Int), 0, false)))) = some (r1, r2, r3) := h
 clear h
 replace H := oB.mp H
 obtain ⟨t353, A30, H⟩ := H
 have A3 := aM A30
 clear A30
 by_cases c4 : t353 = true
 rotate_left
 ·
  replace c4 := Bool.eq_false_iff.mpr c4
  subst c4
  rw [if_neg (show ¬ (false = true) by decide)] at H
  simp only [Option.some.injEq, Prod.mk.injEq] at H
  obtain ⟨rfl, rfl, rfl⟩ := H
  go_enter Try.func10, Try.ntmps10
  go_wp2_with (first | (refine yB 4 #[.slice none 0 0, .int .i64 0] 28 ?_; intro gb352 hg w13 hbox hb; have BK352 := aM (hbox); have GW352 := yV0 hg HB; have GE352 := yV0 hg HB; replace HB := yS0 HB hb; clear hb hbox hg) | (refine yL 8 Try.func76 #[.int .i64 a0, .slice A1 l1.length c1] ?_; (with_reducible refine (spec_l2Table.calls k a0 _ _ l1 false _ (xC (Kd.C_below HR1.out HB.out)) HC1.out A3.out).mono ?_); rintro e w' ⟨rfl, ⟨nd, rfl⟩⟩; refine ⟨_, rfl, ?_⟩; (try (rw [drewN_self w13]; generalize hq_ : World.drewN w13 _ = w13; have n0_ : Aside0 (w13.heap[gb352]? = some (.cells #[.slice none 0 0, .int .i64 0] 28 (0, 0))) := ⟨by rw [← hq_]; exact (xB BK352.out)⟩; have n1_ : Aside0 (Below w.heap.size w w13) := ⟨by rw [← hq_]; exact (xG1 HB.out GE352.out)⟩; clear BK352 HB hq_; have BK352 := n0_; have HB := n1_; clear n0_ n1_)); obtain ⟨hcz14_0, hcz14_1, hfz14_0, hfz14_1⟩ := yD2 BK352))
  refine bodyPost_ret (results_ct rfl _ _ gb352 28 #[.slice none 0 0, .int .i64 0] (0, 0) _ rfl (by (with_reducible repeat (first | refine bN ?_ _ | refine bD ?_ | refine bA ?_ _)); refine blk_put (cs := #[.slice none 0 0, .int .i64 0]) ?_ 1 _ rfl; (with_reducible repeat (first | refine bN ?_ _ | refine bD ?_ | refine bA ?_ _)); refine blk_put (cs := #[.slice none 0 0, .int .i64 0]) ?_ 0 _ rfl; (with_reducible repeat (first | refine bN ?_ _ | refine bD ?_ | refine bA ?_ _)); exact BK352.out) Try.underlying28 rfl (by kernel_rfl)) rfl ?_
  exact ⟨_, yF, Kd.R_V (base := 0) (yNi), xG1 HB.out GE352.out⟩
 subst c4
 rw [if_pos rfl] at H
 obtain ⟨c5, -, H⟩ | ⟨c5, -, H⟩ := yif H
 ·
  have c5b0 : (a0 == 0) = true := beq_iff_eq.mpr c5
  have c5b1 : (a0 != 0) = false := bne_eq_false_iff_eq.mpr c5
  clear c5
  simp only [Option.some.injEq, Prod.mk.injEq] at H
  obtain ⟨rfl, rfl, rfl⟩ := H
  go_enter Try.func10, Try.ntmps10
  go_wp2_with (first | (refine yB 4 #[.slice none 0 0, .int .i64 0] 28 ?_; intro gb352 hg w6 hbox hb; have BK352 := aM (hbox); have GW352 := yV0 hg HB; have GE352 := yV0 hg HB; replace HB := yS0 HB hb; clear hb hbox hg) | (refine yL 8 Try.func76 #[.int .i64 a0, .slice A1 l1.length c1] ?_; (with_reducible refine (spec_l2Table.calls k a0 _ _ l1 true _ (xC (Kd.C_below HR1.out HB.out)) HC1.out A3.out).mono ?_); rintro e w' ⟨rfl, ⟨nd, rfl⟩⟩; refine ⟨_, rfl, ?_⟩; (try (rw [drewN_self w6]; generalize hq_ : World.drewN w6 _ = w6; have n0_ : Aside0 (w6.heap[gb352]? = some (.cells #[.slice none 0 0, .int .i64 0] 28 (0, 0))) := ⟨by rw [← hq_]; exact (xB BK352.out)⟩; have n1_ : Aside0 (Below w.heap.size w w6) := ⟨by rw [← hq_]; exact (xG1 HB.out GE352.out)⟩; clear BK352 HB hq_; have BK352 := n0_; have HB := n1_; clear n0_ n1_)); obtain ⟨hcz7_0, hcz7_1, hfz7_0, hfz7_1⟩ := yD2 BK352))
  refine bodyPost_ret (results_ct rfl _ _ gb352 28 #[.slice none 0 0, .int .i64 0] (0, 0) _ rfl (by (with_reducible repeat (first | refine bN ?_ _ | refine bD ?_ | refine bA ?_ _)); refine blk_put (cs := #[.slice none 0 0, .int .i64 0]) ?_ 1 _ rfl; (with_reducible repeat (first | refine bN ?_ _ | refine bD ?_ | refine bA ?_ _)); refine blk_put (cs := #[.slice none 0 0, .int .i64 0]) ?_ 0 _ rfl; (with_reducible repeat (first | refine bN ?_ _ | refine bD ?_ | refine bA ?_ _)); exact BK352.out) Try.underlying28 rfl (by kernel_rfl)) rfl ?_
  exact ⟨_, yF, Kd.R_V (base := 0) (yNi), xG1 HB.out GE352.out⟩
 have c5b0 : (a0 == 0) = false := beq_eq_false_iff_ne.mpr c5
 have c5b1 : (a0 != 0) = true := bne_iff_ne.mpr c5
 replace H := oB.mp H
 obtain ⟨⟨t354, t357, t358⟩, A80, H⟩ := H
 (try dsimp only at H)
 have A8 := aM A80
 clear A80
 simp only [Option.some.injEq, Prod.mk.injEq] at H
 obtain ⟨rfl, rfl, rfl⟩ := H
 go_enter Try.func10, Try.ntmps10
 go_wp2_with (first | (refine yB 4 #[.slice none 0 0, .int .i64 0] 28 ?_; intro gb352 hg w9 hbox hb; have BK352 := aM (hbox); have GW352 := yV0 hg HB; have GE352 := yV0 hg HB; replace HB := yS0 HB hb; clear hb hbox hg) | (refine yL 8 Try.func76 #[.int .i64 a0, .slice A1 l1.length c1] ?_; (with_reducible refine (spec_l2Table.calls k a0 _ _ l1 true _ (xC (Kd.C_below HR1.out HB.out)) HC1.out A3.out).mono ?_); rintro e w' ⟨rfl, ⟨nd, rfl⟩⟩; refine ⟨_, rfl, ?_⟩; (try (rw [drewN_self w9]; generalize hq_ : World.drewN w9 _ = w9; have n0_ : Aside0 (w9.heap[gb352]? = some (.cells #[.slice none 0 0, .int .i64 0] 28 (0, 0))) := ⟨by rw [← hq_]; exact (xB BK352.out)⟩; have n1_ : Aside0 (Below w.heap.size w w9) := ⟨by rw [← hq_]; exact (xG1 HB.out GE352.out)⟩; clear BK352 HB hq_; have BK352 := n0_; have HB := n1_; clear n0_ n1_)); (try (have hcy352_0 := (bC BK352.out 0).trans rfl)); (try (have hfy352_0 := bF BK352.out 0)); (try (have hcy352_1 := (bC BK352.out 1).trans rfl)); (try (have hfy352_1 := bF BK352.out 1))) | (refine yL 17 Try.func77 #[.int .i64 a0, .slice A1 l1.length c1] ?_; (with_reducible refine (spec_l5Plane.calls k a0 _ _ l1 t354 t357 t358 _ (xC (Kd.C_below HR1.out HB.out)) HC1.out A8.out).mono ?_); rintro e w10 ⟨v355, rfl, ho0, hb⟩; refine ⟨_, rfl, ?_⟩; have HO356 := aM (Kd.V_lower (Kd.V_mono (ok' := fun k_ => (w.heap.size ≤ k_) ∧ k_ ≠ gb352) ho0 (fun k_ hk_ => ⟨(Nat.le_trans (below_size (xG1 HB.out GE352.out)) hk_), (Kd.freshB (g := gb352) (o := .cells #[.slice none 0 0, .int .i64 0] 28 (0, 0)) (xB BK352.out) k_ hk_)⟩)) (below_size (xG1 HB.out GE352.out))); replace BK352 := yK BK352 hb; replace HB := yS1 HB GE352 hb; (try clear hb; try clear ho0); obtain ⟨Ao11, co11, eo11⟩ := Kd.V_slice HO356.out; subst eo11; obtain ⟨hcz12_0, hcz12_1, hfz12_0, hfz12_1⟩ := yD2 BK352))
 refine bodyPost_ret (results_ct rfl _ _ gb352 28 #[.slice Ao11 t354.length co11, .int .i64 t357] (0, 0) _ rfl (by (with_reducible repeat (first | refine bN ?_ _ | refine bD ?_ | refine bA ?_ _)); refine blk_put (cs := #[.slice Ao11 t354.length co11, .int .i64 0]) ?_ 1 _ rfl; (with_reducible repeat (first | refine bN ?_ _ | refine bD ?_ | refine bA ?_ _)); refine blk_put (cs := #[.slice none 0 0, .int .i64 0]) ?_ 0 _ rfl; (with_reducible repeat (first | refine bN ?_ _ | refine bD ?_ | refine bA ?_ _)); exact BK352.out) Try.underlying28 rfl (by kernel_rfl)) rfl ?_
 exact ⟨_, yF, by (with_reducible repeat (first | apply Kd.V_alloc | apply Kd.V_drewN | apply Kd.V_drew)); exact Kd.V_mono (Kd.V_far (p := ⟨gb352, 1, none⟩) (Kd.V_far (p := ⟨gb352, 0, none⟩) (Kd.V_mono HO356.out (fun k_ hk => (⟨hk, hk.2⟩ : _ ∧ k_ ≠ gb352))) (fun _ hk => hk.2) (.slice Ao11 t354.length co11)) (fun _ hk => hk.2) (.int .i64 t357)) (fun _ hk => hk.1.1), xG1 HB.out GE352.out⟩
def impl_isThreshold.f (k : Nat) (a0 : Int) (l1 : List Int) : Option (Bool) := if a0 = 0 then (some true) else ((impl_leastPlane.f k a0 l1).bind fun bt359 => (some bt359.2.2.2))
theorem impl_isThreshold.calls (k : Nat) (a0 : Int) (A1 : Option Addr) (c1 : Nat) (l1 : List Int) (r : Bool) (w : World) (hr1 : Kd.C (Kd.int .i64) w A1 l1.length l1) (hc1 : l1.length ≤ c1) (h : impl_isThreshold.f k a0 l1 = some r) :
    Calls Try.prog 78 #[.int .i64 a0, .slice A1 l1.length c1] w fun e w' => e = .returned (.bool r) ∧ Below w.heap.size w w' := by
 have hu28 := Try.underlying28
 have HR1 := aM hr1
 have HC1 := aM hc1
 clear hr1 hc1
 have HB := aM (Below.refl w.heap.size w)
 have H : (if a0 = 0 then (some true) else ((impl_leastPlane.f k a0 l1).bind fun bt359 => (some bt359.2.2.2))) = some r := h
 clear h
 obtain ⟨c3, -, H⟩ | ⟨c3, -, H⟩ := yif H
 ·
  have c3b0 : (a0 == 0) = true := beq_iff_eq.mpr c3
  have c3b1 : (a0 != 0) = false := bne_eq_false_iff_eq.mpr c3
  clear c3
  obtain rfl := Option.some.inj H
  go_enter Try.func78, Try.ntmps78
  go_wp2
  go_ret
  exact ⟨yF, xH HB.out⟩
 have c3b0 : (a0 == 0) = false := beq_eq_false_iff_ne.mpr c3
 have c3b1 : (a0 != 0) = true := bne_iff_ne.mpr c3
 replace H := oB.mp H
 obtain ⟨⟨t359, t362, t363, t364⟩, A40, H⟩ := H
 (try dsimp only at H)
 have A4 := aM A40
 clear A40
 obtain rfl := Option.some.inj H
 go_enter Try.func78, Try.ntmps78
 go_wp2_with (first | (refine yL 13 Try.func75 #[.int .i64 a0, .slice A1 l1.length c1] ?_; (with_reducible refine (impl_leastPlane.calls k a0 _ _ l1 t359 t362 t363 t364 _ (xC HR1.out) HC1.out A4.out).mono ?_); rintro e w5 ⟨v360, rfl, ho0, hb⟩; refine ⟨_, rfl, ?_⟩; have HO361 := aM (Kd.R_lower ho0 (below_size (xH HB.out))); replace HB := yS0 HB hb; (try clear hb; try clear ho0)) | (refine yB 5 #[.slice none 0 0, .int .i64 0] 28 ?_; intro gb365 hg w6 hbox hb; replace HO361 := aM (Kd.R_below (xR HO361.out) hb); have BK365 := aM (hbox); have GW365 := yV0 hg HB; have GE365 := yV0 hg HB; replace HB := yS0 HB hb; clear hb hbox hg; obtain ⟨Ao7, co7, eo7⟩ := Kd.R_slice HO361.out; subst eo7; obtain ⟨hcz8_0, hcz8_1, hfz8_0, hfz8_1⟩ := yD2 BK365))
 go_ret
 exact ⟨yF, xG1 HB.out GE365.out⟩
def impl_IsThreshold.f (k : Nat) (a0 : Int) (l1 : List Int) : Option (Bool × Bool) := (impl_isTable.f k a0 l1).bind fun t366 => (if t366 = true then ((impl_isThreshold.f k a0 l1).bind fun t367 => (some (t367, true))) else (some (false, false)))
theorem impl_IsThreshold.calls (k : Nat) (a0 : Int) (A1 : Option Addr) (c1 : Nat) (l1 : List Int) (r1 : Bool) (r2 : Bool) (w : World) (hr1 : Kd.C (Kd.int .i64) w A1 l1.length l1) (hc1 : l1.length ≤ c1) (h : impl_IsThreshold.f k a0 l1 = some (r1, r2)) :
    Calls Try.prog 11 #[.int .i64 a0, .slice A1 l1.length c1] w fun e w' => e = .returned (.tuple #[.bool r1, .bool r2]) ∧ Below w.heap.size w w' := by
 have HR1 := aM hr1
 have HC1 := aM hc1
 clear hr1 hc1
 have HB := aM (Below.refl w.heap.size w)
 have H : ((impl_isTable.f k a0 l1).bind fun t366 => (if t366 = true then ((impl_isThreshold.f k a0 l1).bind fun t367 => (some (t367, true))) else (some (false, false)))) = some (r1, r2) := h
 clear h
 replace H := oB.mp H
 obtain ⟨t366, A30, H⟩ := H
 have A3 := aM A30
 clear A30
 by_cases c4 : t366 = true
 rotate_left
 ·
  replace c4 := Bool.eq_false_iff.mpr c4
  subst c4
  rw [if_neg (show ¬ (false = true) by decide)] at H
  simp only [Option.some.injEq, Prod.mk.injEq] at H
  obtain ⟨rfl, rfl⟩ := H
  go_enter Try.func11, Try.ntmps11
  go_wp2_with (first | (refine yL 8 Try.func74 #[.int .i64 a0, .slice A1 l1.length c1] ?_; (with_reducible refine (impl_isTable.calls k a0 _ _ l1 false _ (xC HR1.out) HC1.out A3.out).mono ?_); rintro e w' ⟨rfl, ⟨nd, rfl⟩⟩; refine ⟨_, rfl, ?_⟩))
  go_ret2
  exact ⟨yF, xH HB.out⟩
 subst c4
 rw [if_pos rfl] at H
 replace H := oB.mp H
 obtain ⟨t367, A50, H⟩ := H
 have A5 := aM A50
 clear A50
 simp only [Option.some.injEq, Prod.mk.injEq] at H
 obtain ⟨rfl, rfl⟩ := H
 go_enter Try.func11, Try.ntmps11
 go_wp2_with (first | (refine yL 8 Try.func74 #[.int .i64 a0, .slice A1 l1.length c1] ?_; (with_reducible refine (impl_isTable.calls k a0 _ _ l1 true _ (xC HR1.out) HC1.out A3.out).mono ?_); rintro e w' ⟨rfl, ⟨nd, rfl⟩⟩; refine ⟨_, rfl, ?_⟩) | (refine yL 12 Try.func78 #[.int .i64 a0, .slice A1 l1.length c1] ?_; (with_reducible refine (impl_isThreshold.calls k a0 _ _ l1 t367 _ (xC HR1.out) HC1.out A5.out).mono ?_); rintro e w6 ⟨rfl, hb⟩; refine ⟨_, rfl, ?_⟩; replace HB := yS0 HB hb; (try clear hb)))
 go_ret2
 exact ⟨yF, xH HB.out⟩
def spec_IsThreshold.f (k : Nat) (a0 : Int) (l1 : List Int) : Option (Bool × Bool) := (spec_l2Table.f k a0 l1).bind fun t368 => (if t368 = true then ((spec_l5Least.f k a0 l1).bind fun bt369 => (some (bt369.2, true))) else (some (false, false)))
theorem spec_IsThreshold.calls (k : Nat) (a0 : Int) (A1 : Option Addr) (c1 : Nat) (l1 : List Int) (r1 : Bool) (r2 : Bool) (w : World) (hr1 : Kd.C (Kd.int .i64) w A1 l1.length l1) (hc1 : l1.length ≤ c1) (h : spec_IsThreshold.f k a0 l1 = some (r1, r2)) :
    Calls Try.prog 12 #[.int .i64 a0, .slice A1 l1.length c1] w fun e w' => e = .returned (.tuple #[.bool r1, .bool r2]) ∧ Below w.heap.size w w' := by
 have HR1 := aM hr1
 have HC1 := aM hc1
 clear hr1 hc1
 have HB := aM (Below.refl w.heap.size w)
 have H : ((spec_l2Table.f k a0 l1).bind fun t368 => (if t368 = true then ((spec_l5Least.f k a0 l1).bind fun bt369 => (some (bt369.2, true))) else (some (false, false)))) = some (r1, r2) := h
 clear h
 replace H := oB.mp H
 obtain ⟨t368, A30, H⟩ := H
 have A3 := aM A30
 clear A30
 by_cases c4 : t368 = true
 rotate_left
 ·
  replace c4 := Bool.eq_false_iff.mpr c4
  subst c4
  rw [if_neg (show ¬ (false = true) by decide)] at H
  simp only [Option.some.injEq, Prod.mk.injEq] at H
  obtain ⟨rfl, rfl⟩ := H
  go_enter Try.func12, Try.ntmps12
  go_wp2_with (first | (refine yL 10 Try.func76 #[.int .i64 a0, .slice A1 l1.length c1] ?_; (with_reducible refine (spec_l2Table.calls k a0 _ _ l1 false _ (xC HR1.out) HC1.out A3.out).mono ?_); rintro e w' ⟨rfl, ⟨nd, rfl⟩⟩; refine ⟨_, rfl, ?_⟩))
  go_ret2
  exact ⟨yF, xH HB.out⟩
 subst c4
 rw [if_pos rfl] at H
 replace H := oB.mp H
 obtain ⟨⟨t369, t372⟩, A50, H⟩ := H
 (try dsimp only at H)
 have A5 := aM A50
 clear A50
 simp only [Option.some.injEq, Prod.mk.injEq] at H
 obtain ⟨rfl, rfl⟩ := H
 go_enter Try.func12, Try.ntmps12
 go_wp2_with (first | (refine yL 10 Try.func76 #[.int .i64 a0, .slice A1 l1.length c1] ?_; (with_reducible refine (spec_l2Table.calls k a0 _ _ l1 true _ (xC HR1.out) HC1.out A3.out).mono ?_); rintro e w' ⟨rfl, ⟨nd, rfl⟩⟩; refine ⟨_, rfl, ?_⟩) | (refine yL 15 Try.func79 #[.int .i64 a0, .slice A1 l1.length c1] ?_; (with_reducible refine (spec_l5Least.calls k a0 _ _ l1 t369 t372 _ (xC HR1.out) HC1.out A5.out).mono ?_); rintro e w6 ⟨v370, rfl, ho0, hb⟩; refine ⟨_, rfl, ?_⟩; have HO371 := aM (Kd.V_lower (Kd.V_mono (ok' := fun k_ => True) ho0 (fun k_ hk_ => trivial)) (below_size (xH HB.out))); replace HB := yS0 HB hb; (try clear hb; try clear ho0)))
 go_ret2
 exact ⟨yF, xH HB.out⟩
def impl_SizeOf.f (k : Nat) (a0 : Int) (l1 : List Int) : Option (Int × Bool) := (impl_isTable.f k a0 l1).bind fun t373 => (if t373 = true then (if a0 = 0 then (some (0, true)) else ((impl_leastPlane.f k a0 l1).bind fun bt374 => (if bt374.2.2.2 = true then (some (bt374.2.2.1, true)) else (some (0, false))))) else (some (0, false)))
theorem impl_SizeOf.calls (k : Nat) (a0 : Int) (A1 : Option Addr) (c1 : Nat) (l1 : List Int) (r1 : Int) (r2 : Bool) (w : World) (hr1 : Kd.C (Kd.int .i64) w A1 l1.length l1) (hc1 : l1.length ≤ c1) (h : impl_SizeOf.f k a0 l1 = some (r1, r2)) :
    Calls Try.prog 13 #[.int .i64 a0, .slice A1 l1.length c1] w fun e w' => e = .returned (.tuple #[.int .i64 r1, .bool r2]) ∧ Below w.heap.size w w' := by
 have hu28 := Try.underlying28
 have HR1 := aM hr1
 have HC1 := aM hc1
 clear hr1 hc1
 have HB := aM (Below.refl w.heap.size w)
 have H : ((impl_isTable.f k a0 l1).bind fun t373 => (if t373 = true then (if a0 = 0 then (some (0, true)) else ((impl_leastPlane.f k a0 l1).bind fun bt374 => (if bt374.2.2.2 = true then (some (bt374.2.2.1, true)) else (some (0, false))))) else (some (0, false)))) = some (r1, r2) := h
 clear h
 replace H := oB.mp H
 obtain ⟨t373, A30, H⟩ := H
 have A3 := aM A30
 clear A30
 by_cases c4 : t373 = true
 rotate_left
 ·
  replace c4 := Bool.eq_false_iff.mpr c4
  subst c4
  rw [if_neg (show ¬ (false = true) by decide)] at H
  simp only [Option.some.injEq, Prod.mk.injEq] at H
  obtain ⟨rfl, rfl⟩ := H
  go_enter Try.func13, Try.ntmps13
  go_wp2_with (first | (refine yL 11 Try.func74 #[.int .i64 a0, .slice A1 l1.length c1] ?_; (with_reducible refine (impl_isTable.calls k a0 _ _ l1 false _ (xC HR1.out) HC1.out A3.out).mono ?_); rintro e w' ⟨rfl, ⟨nd, rfl⟩⟩; refine ⟨_, rfl, ?_⟩))
  go_ret2
  exact ⟨yF, xH HB.out⟩
 subst c4
 rw [if_pos rfl] at H
 obtain ⟨c5, -, H⟩ | ⟨c5, -, H⟩ := yif H
 ·
  have c5b0 : (a0 == 0) = true := beq_iff_eq.mpr c5
  have c5b1 : (a0 != 0) = false := bne_eq_false_iff_eq.mpr c5
  clear c5
  simp only [Option.some.injEq, Prod.mk.injEq] at H
  obtain ⟨rfl, rfl⟩ := H
  go_enter Try.func13, Try.ntmps13
  go_wp2_with (first | (refine yL 11 Try.func74 #[.int .i64 a0, .slice A1 l1.length c1] ?_; (with_reducible refine (impl_isTable.calls k a0 _ _ l1 true _ (xC HR1.out) HC1.out A3.out).mono ?_); rintro e w' ⟨rfl, ⟨nd, rfl⟩⟩; refine ⟨_, rfl, ?_⟩))
  go_ret2
  exact ⟨yF, xH HB.out⟩
 have c5b0 : (a0 == 0) = false := beq_eq_false_iff_ne.mpr c5
 have c5b1 : (a0 != 0) = true := bne_iff_ne.mpr c5
 replace H := oB.mp H
 obtain ⟨⟨t374, t377, t378, t379⟩, A60, H⟩ := H
 (try dsimp only at H)
 have A6 := aM A60
 clear A60
 by_cases c7 : t379 = true
 ·
  subst c7
  rw [if_pos rfl] at H
  simp only [Option.some.injEq, Prod.mk.injEq] at H
  obtain ⟨rfl, rfl⟩ := H
  go_enter Try.func13, Try.ntmps13
  go_wp2_with (first | (refine yL 11 Try.func74 #[.int .i64 a0, .slice A1 l1.length c1] ?_; (with_reducible refine (impl_isTable.calls k a0 _ _ l1 true _ (xC HR1.out) HC1.out A3.out).mono ?_); rintro e w' ⟨rfl, ⟨nd, rfl⟩⟩; refine ⟨_, rfl, ?_⟩) | (refine yL 18 Try.func75 #[.int .i64 a0, .slice A1 l1.length c1] ?_; (with_reducible refine (impl_leastPlane.calls k a0 _ _ l1 t374 t377 t378 true _ (xC HR1.out) HC1.out A6.out).mono ?_); rintro e w8 ⟨v375, rfl, ho0, hb⟩; refine ⟨_, rfl, ?_⟩; have HO376 := aM (Kd.R_lower ho0 (below_size (xH HB.out))); replace HB := yS0 HB hb; (try clear hb; try clear ho0)) | (refine yB 6 #[.slice none 0 0, .int .i64 0] 28 ?_; intro gb380 hg w9 hbox hb; replace HO376 := aM (Kd.R_below (xR HO376.out) hb); have BK380 := aM (hbox); have GW380 := yV0 hg HB; have GE380 := yV0 hg HB; replace HB := yS0 HB hb; clear hb hbox hg; obtain ⟨Ao10, co10, eo10⟩ := Kd.R_slice HO376.out; subst eo10; obtain ⟨hcz11_0, hcz11_1, hfz11_0, hfz11_1⟩ := yD2 BK380))
  go_ret2
  exact ⟨yF, xG1 HB.out GE380.out⟩
 replace c7 := Bool.eq_false_iff.mpr c7
 subst c7
 rw [if_neg (show ¬ (false = true) by decide)] at H
 simp only [Option.some.injEq, Prod.mk.injEq] at H
 obtain ⟨rfl, rfl⟩ := H
 go_enter Try.func13, Try.ntmps13
 go_wp2_with (first | (refine yL 11 Try.func74 #[.int .i64 a0, .slice A1 l1.length c1] ?_; (with_reducible refine (impl_isTable.calls k a0 _ _ l1 true _ (xC HR1.out) HC1.out A3.out).mono ?_); rintro e w' ⟨rfl, ⟨nd, rfl⟩⟩; refine ⟨_, rfl, ?_⟩) | (refine yL 18 Try.func75 #[.int .i64 a0, .slice A1 l1.length c1] ?_; (with_reducible refine (impl_leastPlane.calls k a0 _ _ l1 t374 t377 t378 false _ (xC HR1.out) HC1.out A6.out).mono ?_); rintro e w12 ⟨v375, rfl, ho0, hb⟩; refine ⟨_, rfl, ?_⟩; have HO376 := aM (Kd.R_lower ho0 (below_size (xH HB.out))); replace HB := yS0 HB hb; (try clear hb; try clear ho0)) | (refine yB 6 #[.slice none 0 0, .int .i64 0] 28 ?_; intro gb380 hg w13 hbox hb; replace HO376 := aM (Kd.R_below (xR HO376.out) hb); have BK380 := aM (hbox); have GW380 := yV0 hg HB; have GE380 := yV0 hg HB; replace HB := yS0 HB hb; clear hb hbox hg; obtain ⟨Ao14, co14, eo14⟩ := Kd.R_slice HO376.out; subst eo14; obtain ⟨hcz15_0, hcz15_1, hfz15_0, hfz15_1⟩ := yD2 BK380))
 go_ret2
 exact ⟨yF, xG1 HB.out GE380.out⟩
end Go.Proofs.Ytmfmgnpefjmieaa.PFnThresholdTables
