-- Laid for this claim by a program of the session's own (wip/tool/myprint.py).
import Derived.Test.YtgidnmpppbkamaaMFnExactPlaneClassx0
import Derived.Test.YtgidnmpppbkamaaMFnExactPlaneClassx1
import Derived.Test.YtgidnmpppbkamaaMFnExactPlaneClassx2
import Derived.Test.YtgidnmpppbkamaaMFnExactPlaneClassx9
namespace Go.Proofs.Ytgidnmpppbkamaa.PFnExactPlaneClass
open Go.RowKit Go.Proofs.YtgidnmpppbkamaaW.PrintWords Go.Proofs.YtgidnmpppbkamaaW.PrintLast Go.Proofs.YtgidnmpppbkamaaW.PrintMore
attribute [local go_sem] max2_int min2_int max_two min_two max_three min_three max_four min_four
set_option linter.unusedVariables false
set_option maxHeartbeats 8000000
set_option maxRecDepth 100000
set_option linter.unusedSimpArgs false
def spec_l4Can.f (k : Nat) (l0_0 : List (List Int)) (l0_1 : List Int) : Option (Bool) := (spec_l4Find.f k l0_0 l0_1).bind fun bt307 => (some ((bt307.1.length : Int) == 0))
theorem spec_l4Can.calls (k : Nat) (A0_0 : Option Addr) (c0_0 : Nat) (l0_0 : List (List Int)) (A0_1 : Option Addr) (c0_1 : Nat) (l0_1 : List Int) (r : Bool) (w : World) (hr0_0 : Kd.C (Kd.slice 3 (Kd.int .i64)) w A0_0 l0_0.length l0_0) (hc0_0 : l0_0.length ≤ c0_0) (hr0_1 : Kd.C (Kd.int .i64) w A0_1 l0_1.length l0_1) (hc0_1 : l0_1.length ≤ c0_1) (h : spec_l4Can.f k l0_0 l0_1 = some r) :
  Calls Try.prog 25 #[.agg #[.slice A0_0 l0_0.length c0_0, .slice A0_1 l0_1.length c0_1]] w fun e w' => e = .returned (.bool r) ∧ Below w.heap.size w w' := by
 have hu43 := Try.underlying43
 have HR0_0 := aM hr0_0
 have HC0_0 := aM hc0_0
 clear hr0_0 hc0_0
 have HR0_1 := aM hr0_1
 have HC0_1 := aM hc0_1
 clear hr0_1 hc0_1
 have HB := aM (Below.refl w.heap.size w)
 have H : ((spec_l4Find.f k l0_0 l0_1).bind fun bt307 => (some ((bt307.1.length : Int) == 0))) = some r := h
 clear h
 replace H := oB.mp H
 obtain ⟨⟨t307, t310⟩, A20, H⟩ := H
 (try dsimp only at H)
 have A2 := aM A20
 clear A20
 obtain rfl := Option.some.inj H
 go_enter Try.func25, Try.ntmps25
 go_wp2_with (first | (refine yB 1 #[.slice A0_0 l0_0.length c0_0, .slice A0_1 l0_1.length c0_1] 43 ?_; intro gb306 hg w3 hbox hb; have BK306 := aM (hbox); have GW306 := yV0 hg HB; have GE306 := yV0 hg HB; replace HB := yS0 HB hb; clear hb hbox hg; obtain ⟨hcz4_0, hcz4_1, hfz4_0, hfz4_1⟩ := yD2 BK306) | (refine yL 7 Try.func52 #[.agg #[.slice A0_0 l0_0.length c0_0, .slice A0_1 l0_1.length c0_1]] ?_; (with_reducible refine (spec_l4Find.calls k _ _ l0_0 _ _ l0_1 t307 t310 _ ?side1 ?side2 ?side3 ?side4 A2.out).mono ?_); (case side1 => exact xC (Kd.C_below HR0_0.out HB.out)); (case side2 => exact HC0_0.out); (case side3 => exact xC (Kd.C_below HR0_1.out HB.out)); (case side4 => exact HC0_1.out); rintro e w5 ⟨v308, v311, rfl, ho0, ho1, hb⟩; refine ⟨_, rfl, ?_⟩; have HO309 := aM (Kd.V_lower (Kd.V_mono (ok' := fun k_ => some k_ ≠ (v311 : Value).ownBlock ∧ k_ ≠ gb306) ho0 (fun k_ hk_ => ⟨hk_.2, (Kd.freshB (g := gb306) (o := .cells #[.slice A0_0 l0_0.length c0_0, .slice A0_1 l0_1.length c0_1] 43 (0, 0)) (xB BK306.out) k_ hk_.1)⟩)) (below_size (xG1 HB.out GE306.out))); have HO312 := aM (Kd.R_lower (rM (ok' := fun k_ => True) ho1 (fun _ hk_ => trivial)) (below_size (xG1 HB.out GE306.out))); replace BK306 := yK BK306 hb; replace HB := yS1 HB GE306 hb; (try clear hb; try clear hk; try clear ho0; try clear ho1); obtain ⟨Ao6, co6, eo6⟩ := Kd.V_slice HO309.out; subst eo6))
 go_ret
 exact ⟨yF, xG1 HB.out GE306.out⟩
def spec_CanPart.f (k : Nat) (l0_0 : List (List Int)) (l0_1 : List Int) : Option (Bool × Bool) := (spec_l2Sample.f k l0_0 l0_1).bind fun t314 => (if t314 = true then ((spec_l4Can.f k l0_0 l0_1).bind fun t315 => (some (t315, true))) else (some (false, false)))
theorem spec_CanPart.calls (k : Nat) (A0_0 : Option Addr) (c0_0 : Nat) (l0_0 : List (List Int)) (A0_1 : Option Addr) (c0_1 : Nat) (l0_1 : List Int) (r1 : Bool) (r2 : Bool) (w : World) (hr0_0 : Kd.C (Kd.slice 3 (Kd.int .i64)) w A0_0 l0_0.length l0_0) (hc0_0 : l0_0.length ≤ c0_0) (hr0_1 : Kd.C (Kd.int .i64) w A0_1 l0_1.length l0_1) (hc0_1 : l0_1.length ≤ c0_1) (h : spec_CanPart.f k l0_0 l0_1 = some (r1, r2)) :
  Calls Try.prog 43 #[.agg #[.slice A0_0 l0_0.length c0_0, .slice A0_1 l0_1.length c0_1]] w fun e w' => e = .returned (.tuple #[.bool r1, .bool r2]) ∧ Below w.heap.size w w' := by
 have hu43 := Try.underlying43
 have HR0_0 := aM hr0_0
 have HC0_0 := aM hc0_0
 clear hr0_0 hc0_0
 have HR0_1 := aM hr0_1
 have HC0_1 := aM hc0_1
 clear hr0_1 hc0_1
 have HB := aM (Below.refl w.heap.size w)
 have H : ((spec_l2Sample.f k l0_0 l0_1).bind fun t314 => (if t314 = true then ((spec_l4Can.f k l0_0 l0_1).bind fun t315 => (some (t315, true))) else (some (false, false)))) = some (r1, r2) := h
 clear h
 replace H := oB.mp H
 obtain ⟨t314, A20, H⟩ := H
 have A2 := aM A20
 clear A20
 by_cases c3 : t314 = true
 rotate_left
 ·
  replace c3 := Bool.eq_false_iff.mpr c3
  subst c3
  rw [if_neg (show ¬ (false = true) by decide)] at H
  simp only [Option.some.injEq, Prod.mk.injEq] at H
  obtain ⟨rfl, rfl⟩ := H
  go_enter Try.func43, Try.ntmps43
  go_wp2_with (first | (refine yB 1 #[.slice A0_0 l0_0.length c0_0, .slice A0_1 l0_1.length c0_1] 43 ?_; intro gb313 hg w10 hbox hb; have BK313 := aM (hbox); have GW313 := yV0 hg HB; have GE313 := yV0 hg HB; replace HB := yS0 HB hb; clear hb hbox hg; obtain ⟨hcz11_0, hcz11_1, hfz11_0, hfz11_1⟩ := yD2 BK313) | (refine yL 5 Try.func42 #[.agg #[.slice A0_0 l0_0.length c0_0, .slice A0_1 l0_1.length c0_1]] ?_; (with_reducible refine (spec_l2Sample.calls k _ _ l0_0 _ _ l0_1 false _ ?side1 ?side2 ?side3 ?side4 A2.out).mono ?_); (case side1 => exact xC (Kd.C_below HR0_0.out HB.out)); (case side2 => exact HC0_0.out); (case side3 => exact xC (Kd.C_below HR0_1.out HB.out)); (case side4 => exact HC0_1.out); rintro e w12 ⟨rfl, hb⟩; refine ⟨_, rfl, ?_⟩; replace BK313 := yK BK313 hb; replace HB := yS1 HB GE313 hb; (try clear hb; try clear hk; try clear hi)))
  go_ret2
  exact ⟨yF, xG1 HB.out GE313.out⟩
 subst c3
 rw [if_pos rfl] at H
 replace H := oB.mp H
 obtain ⟨t315, A40, H⟩ := H
 have A4 := aM A40
 clear A40
 simp only [Option.some.injEq, Prod.mk.injEq] at H
 obtain ⟨rfl, rfl⟩ := H
 go_enter Try.func43, Try.ntmps43
 go_wp2_with (first | (refine yB 1 #[.slice A0_0 l0_0.length c0_0, .slice A0_1 l0_1.length c0_1] 43 ?_; intro gb313 hg w5 hbox hb; have BK313 := aM (hbox); have GW313 := yV0 hg HB; have GE313 := yV0 hg HB; replace HB := yS0 HB hb; clear hb hbox hg; obtain ⟨hcz6_0, hcz6_1, hfz6_0, hfz6_1⟩ := yD2 BK313) | (refine yL 5 Try.func42 #[.agg #[.slice A0_0 l0_0.length c0_0, .slice A0_1 l0_1.length c0_1]] ?_; (with_reducible refine (spec_l2Sample.calls k _ _ l0_0 _ _ l0_1 true _ ?side1 ?side2 ?side3 ?side4 A2.out).mono ?_); (case side1 => exact xC (Kd.C_below HR0_0.out HB.out)); (case side2 => exact HC0_0.out); (case side3 => exact xC (Kd.C_below HR0_1.out HB.out)); (case side4 => exact HC0_1.out); rintro e w7 ⟨rfl, hb⟩; refine ⟨_, rfl, ?_⟩; replace BK313 := yK BK313 hb; replace HB := yS1 HB GE313 hb; (try clear hb; try clear hk; try clear hi); obtain ⟨hcz8_0, hcz8_1, hfz8_0, hfz8_1⟩ := yD2 BK313) | (refine yL 8 Try.func25 #[.agg #[.slice A0_0 l0_0.length c0_0, .slice A0_1 l0_1.length c0_1]] ?_; (with_reducible refine (spec_l4Can.calls k _ _ l0_0 _ _ l0_1 t315 _ ?side1 ?side2 ?side3 ?side4 A4.out).mono ?_); (case side1 => exact xC (Kd.C_below HR0_0.out HB.out)); (case side2 => exact HC0_0.out); (case side3 => exact xC (Kd.C_below HR0_1.out HB.out)); (case side4 => exact HC0_1.out); rintro e w9 ⟨rfl, hb⟩; refine ⟨_, rfl, ?_⟩; replace BK313 := yK BK313 hb; replace HB := yS1 HB GE313 hb; (try clear hb; try clear hk; try clear hi)))
 go_ret2
 exact ⟨yF, xG1 HB.out GE313.out⟩
mutual
def spec_PlaneClass.j0 : Nat → List (List Int) → List (List Int) → List (List Int) → Bool → Option ((List (List Int)) × Bool)
 | 0, _, _, _, _ => none
 | k + 1, x0, x4, x5, x25 => if x25 = true then (some (x4, false)) else (spec_PlaneClass.l0 k x0 x4 x5 0)
def spec_PlaneClass.l0 : Nat → List (List Int) → List (List Int) → List (List Int) → Int → Option ((List (List Int)) × Bool)
 | 0, _, _, _, _ => none
 | k + 1, x0, x4, x5, x6 => if x6 < (x5.length : Int) then (if 0 ≤ x6 then ((spec_CanPart.f k x0 (rd_L1 x5 x6)).bind fun bt326 => (if bt326.2 = true then (if bt326.1 = true then (if x4.length < 5864062014805 then (spec_PlaneClass.l0 k x0 (x4 ++ [rd_L1 x5 x6]) x5 (wrap64 (x6 + 1))) else (none)) else (spec_PlaneClass.l0 k x0 x4 x5 (wrap64 (x6 + 1)))) else (spec_PlaneClass.l0 k x0 x4 x5 (wrap64 (x6 + 1))))) else (none)) else (some (x4, true))
end
def spec_PlaneClass.f (k : Nat) (l0 : List (List Int)) : Option ((List (List Int)) × Bool) := (some (([] : List (List Int)) : List (List Int))).bind fun y316 => ((spec_l1Least.f (l0.length : Int) 8).bind fun t319 => ((spec_l7Lists.f k t319).bind fun t320 => (if (l0.length : Int) > 8 then (spec_PlaneClass.j0 k l0 y316 t320 true) else (if 0 < (t320.length : Int) then ((spec_l2Sample.f k l0 (rd_L1 t320 0)).bind fun t324 => (spec_PlaneClass.j0 k l0 y316 t320 (!t324))) else (none)))))
theorem spec_PlaneClass.calls (k : Nat) (A0 : Option Addr) (c0 : Nat) (l0 : List (List Int)) (r1 : List (List Int)) (r2 : Bool) (w : World) (hr0 : Kd.C (Kd.slice 3 (Kd.int .i64)) w A0 l0.length l0) (hc0 : l0.length ≤ c0) (h : spec_PlaneClass.f k l0 = some (r1, r2)) :
  Calls Try.prog 16 #[.slice A0 l0.length c0] w fun e w' => ∃ v0_ : Value, e = .returned (.tuple #[v0_, .bool r2]) ∧ Kd.N (Kd.slice 3 (Kd.int .i64)) 22 w' w.heap.size (fun k_ => (w.heap.size ≤ k_)) v0_ r1 ∧ Below w.heap.size w w' := by
 have hu43 := Try.underlying43
 have HR0 := aM hr0
 have HC0 := aM hc0
 clear hr0 hc0
 have HB := aM (Below.refl w.heap.size w)
 have H : ((some (([] : List (List Int)) : List (List Int))).bind fun y316 => ((spec_l1Least.f (l0.length : Int) 8).bind fun t319 => ((spec_l7Lists.f k t319).bind fun t320 => (if (l0.length : Int) > 8 then (spec_PlaneClass.j0 k l0 y316 t320 true) else (if 0 < (t320.length : Int) then ((spec_l2Sample.f k l0 (rd_L1 t320 0)).bind fun t324 => (spec_PlaneClass.j0 k l0 y316 t320 (!t324))) else (none)))))) = some (r1, r2) := h
 clear h
 obtain ⟨y316, hy316⟩ := yE (([] : List (List Int)) : List (List Int))
 replace H : ((spec_l1Least.f (l0.length : Int) 8).bind fun t319 => ((spec_l7Lists.f k t319).bind fun t320 => (if (l0.length : Int) > 8 then (spec_PlaneClass.j0 k l0 y316 t320 true) else (if 0 < (t320.length : Int) then ((spec_l2Sample.f k l0 (rd_L1 t320 0)).bind fun t324 => (spec_PlaneClass.j0 k l0 y316 t320 (!t324))) else (none))))) = some (r1, r2) := yI hy316 H
 have Ny316 := aM hy316
 clear hy316
 replace H := oB.mp H
 obtain ⟨t319, A20, H⟩ := H
 have A2 := aM A20
 clear A20
 replace H := oB.mp H
 obtain ⟨t320, A30, H⟩ := H
 have A3 := aM A30
 clear A30
 have HC4 := aM H
 clear H
 go_enter Try.func16, Try.ntmps16
 go_upto_region 3 with (first | ((with_reducible refine gate_dst (N := 9) rfl ?_); refine Kd.N_lit (Kd.slice 3 (Kd.int .i64)) _ 22 ?hg (N' := 9) ?hd (xs := ([] : List (List Int))) (inner := []) (ok := (fun k_ => (w.heap.size ≤ k_))) (okp := (fun k_ => (w.heap.size ≤ k_))) ?hr ?hp (fun _ hk => hk) ((show ∀ k_, w.heap.size ≤ k_ → (fun k_ => (w.heap.size ≤ k_)) k_ from fun k_ hk => (Nat.le_trans (below_size (xH HB.out)) hk)) _ (Nat.le_refl _)) (Below.refl _ _) (Nat.le_refl _) (by simp) ?_; (case hd => rfl); (case hg => rfl); (case hr => first | (go_simp; done) | (go_simp; rfl)); (case hp => exact (Reps.none _ _)); intro v317 w5 ho6 hb hg_ hnew_; clear hg_ hnew_; (first | rw [← Ny316.out] at ho6 | (simp only [Int.reduceToNat] at ho6; rw [← Ny316.out] at ho6)); have HO318 := aM (Kd.N_lower ho6 (below_size (xH HB.out))); replace HB := yS0 HB hb; clear hb ho6) | (refine yL 12 Try.func41 #[.int .i64 (l0.length : Int), .int .i64 8] ?_; (with_reducible refine (spec_l1Least.calls (l0.length : Int) 8 t319 _ A2.out).mono ?_); rintro e w' ⟨rfl, ⟨nd, rfl⟩⟩; refine ⟨_, rfl, ?_⟩) | (refine yL 13 Try.func40 #[.int .i64 t319] ?_; (with_reducible refine (spec_l7Lists.calls k t319 t320 _ A3.out).mono ?_); rintro e w7 ⟨v321, rfl, ho0, hb⟩; refine ⟨_, rfl, ?_⟩; have HO322 := aM (Kd.N_lower (Kd.N_mono (ok' := fun k_ => (w.heap.size ≤ k_) ∧ some k_ ≠ (v317 : Value).ownBlock) (Kd.S_N (Kd.S_bound ho0)) (fun k_ hk_ => ⟨(Nat.le_trans (below_size (xH HB.out)) hk_.2.1), (Kd.fresh' (Kd.N_lt (xN HO318.out)) k_ hk_.2.1)⟩)) (below_size (xH HB.out))); replace HO318 := aM (Kd.N_elder' (xN HO318.out) (by first | exact Kd.N_base ho0 | exact Kd.S_base ho0 | exact Kd.R_base ho0) hb); replace HB := yS0 HB hb; (try clear hb; try clear hk; try clear ho0)))
 (try simp only [Act.put, sA, sZ, sU])
 go_cut [25] (fun v25 wc => ∃ (kq : Nat) (x25_3 : Bool), v25 = .bool x25_3 ∧ Aside0 (spec_PlaneClass.j0 kq l0 y316 t320 x25_3 = some (r1, r2)) ∧ Aside0 (kq ≤ k) ∧ Aside0 (Kd.N (Kd.slice 3 (Kd.int .i64)) 22 wc w.heap.size (fun k_ => (w.heap.size ≤ k_) ∧ some k_ ≠ (v321 : Value).ownBlock) v317 y316) ∧ Aside0 (Kd.N (Kd.slice 3 (Kd.int .i64)) 22 wc w.heap.size (fun k_ => (w.heap.size ≤ k_) ∧ some k_ ≠ (v317 : Value).ownBlock) v321 t320) ∧ Aside0 (Below w.heap.size w wc))
 case first =>
  have H := HC4.out
  clear HC4
  by_cases c8 : (l0.length : Int) > 8
  ·
   rw [if_pos c8] at H
   have c8b0 : decide (8 < (l0.length : Int)) = true := decide_eq_true c8
   have c8b1 : decide (8 < l0.length) = true := decide_eq_true (by omega)
   clear c8
   (first | rw [c8b0] | (simp only [i64_w, i32_w]; rw [c8b0]) | rw [c8b1] | skip)
   have H' := aM H
   clear H
   go_wp2
   go_meet
   case rel => exact ⟨_, (true), yZ, H', ⟨yM⟩, ⟨xN HO318.out⟩, ⟨xN HO322.out⟩, ⟨xH HB.out⟩⟩
  rw [if_neg c8] at H
  have c8b0 : decide (8 < (l0.length : Int)) = false := decide_eq_false c8
  have c8b1 : decide (8 < l0.length) = false := decide_eq_false (by omega)
  clear c8
  (first | rw [c8b0] | (simp only [i64_w, i32_w]; rw [c8b0]) | rw [c8b1] | skip)
  by_cases c9 : 0 < (t320.length : Int)
  rotate_left
  ·
   rw [if_neg c9] at H
   exact absurd H (by simp)
  rw [if_pos c9] at H
  have c9b0 := decide_eq_true c9
  have c9b1 : decide (0 < t320.length) = true := decide_eq_true (by omega)
  clear c9
  replace H := oB.mp H
  obtain ⟨t324, A100, H⟩ := H
  have A10 := aM A100
  clear A100
  have H' := aM H
  clear H
  obtain ⟨Ao11, co11, eo11⟩ := Kd.N_slice HO322.out
  subst eo11
  have p323 : 0 ≤ (0 : Int) := (by omega)
  have q323 : 0 < (t320.length : Int) := yA
  obtain ⟨ad323, A323_0, c323_0, e323, hx323_0, hl323_0, hi323_0⟩ := at_L1 (Kd.N_reads' HO322.out).2.2 0 p323 q323
  cases e323
  obtain ⟨ce323, hce323, hMe323, hcc323⟩ := Kd.N_get HO322.out [] 0 p323 (by first | exact q323 | exact yA | (have e_ := (Kd.N_reads' HO322.out).1; omega))
  obtain ⟨ua323_0, uc323_0, rfl, ul323_0, ge323_0⟩ := Kd.FK_slice_open hMe323
  have hv323_0 := hcc323 0 _ rfl
  rw [Nat.add_zero, show ((Kd.slice 3 (Kd.int .i64))).sz = 1 from rfl, Nat.mul_one] at hv323_0
  replace hv323_0 := Option.some.inj (hv323_0.symm.trans hx323_0)
  injection hv323_0 with hva_ hvn_ hvc_
  rw [hva_] at ge323_0
  rw [hvc_] at ul323_0
  have HL323_0 := aM (show Kd.V (Kd.int .i64) 3 _ w.heap.size _ _ (rd_L1 t320 0) from Kd.V_mk ul323_0 ge323_0)
  clear hva_ hvn_ hvc_ ge323_0 ul323_0 hcc323 hce323
  have qi323 : (0 < t320.length) = True := eq_true (by omega)
  (try rw [show ((0 : Int)).toNat = 0 from rfl] at hx323_0)
  (try rw [Addr.add_zero'] at hx323_0)
  have HR323_0 := aM hi323_0
  have HC323_0 := aM hl323_0
  clear hi323_0 hl323_0
  replace p323 := eq_true p323
  replace q323 := eq_true q323
  go_wp2_with (first | (go_at_call 42; (with_reducible refine (spec_l2Sample.calls k _ _ l0 _ _ (rd_L1 t320 0) t324 _ ?side1 ?side2 ?side3 ?side4 A10.out).mono ?_); (case side1 => exact xC (Kd.C_below HR0.out HB.out)); (case side2 => exact HC0.out); (case side3 => repeat (first | exact (by repeat (first | (with_reducible exact HR323_0.out) | (with_reducible refine Kd.C_alloc ?_ _) | (with_reducible refine Kd.C_drewN ?_ _) | (with_reducible refine Kd.C_drew ?_) | exact HR323_0.out)) | (with_reducible refine Kd.C_alloc ?_ _) | (with_reducible refine Kd.C_drewN ?_ _) | (with_reducible refine Kd.C_drew ?_))); (case side4 => exact HC323_0.out); rintro e w12 ⟨rfl, hb⟩; replace HO318 := aM (Kd.N_below (xN HO318.out) hb); replace HO322 := aM (Kd.N_below (xN HO322.out) hb); replace HL323_0 := aM (Kd.V_below (xV HL323_0.out) hb); replace HR323_0 := aM (Kd.C_below (by repeat (first | (with_reducible exact HR323_0.out) | (with_reducible refine Kd.C_alloc ?_ _) | (with_reducible refine Kd.C_drewN ?_ _) | (with_reducible refine Kd.C_drew ?_) | exact HR323_0.out)) hb); replace HB := yS0 HB hb; (try clear hb; try clear hk; try clear hi)))
  go_meet
  case rel => exact ⟨_, (!t324), yZ, H', ⟨yM⟩, ⟨xN HO318.out⟩, ⟨xN HO322.out⟩, ⟨xH HB.out⟩⟩
 case rest =>
  clear HC4
  try clear c3; try clear c4; try clear c8; try clear c8b0; try clear c8b1; try clear c9; try clear c9b0; try clear c9b1; try clear hx323_0; try clear p323; try clear q323
  obtain ⟨kq, x25_3, rfl, HA, HJ3, HO_4, HO_5, HB⟩ := hcut
  cases kq with
  | zero => exact absurd HA.out (by simp [spec_PlaneClass.j0])
  | succ kj3 =>
   have H := HA.out
   clear HA
   simp only [spec_PlaneClass.j0] at H
   by_cases c13 : x25_3 = true
   ·
    subst c13
    rw [if_pos rfl] at H
    simp only [Option.some.injEq, Prod.mk.injEq] at H
    obtain ⟨rfl, rfl⟩ := H
    go_wp2
    go_ret2
    exact ⟨_, yF, zN (Kd.N_mono HO_4.out (fun _ hk => hk.1)), by repeat (first | (with_reducible first | exact HB.out | apply eA | apply eN | apply eD) | exact HB.out)⟩
   replace c13 := Bool.eq_false_iff.mpr c13
   subst c13
   rw [if_neg (show ¬ (false = true) by decide)] at H
   have H' := aM H
   clear H
   go_wp2
   go_loopg [4, 6] kj3 (fun kq v4 v6 w' => ∃ (x4_2 : List (List Int)) (x6_2 : Int), v6 = .int .i64 x6_2 ∧ Aside0 (spec_PlaneClass.l0 kq l0 x4_2 t320 x6_2 = some (r1, r2)) ∧ Aside0 (kq ≤ kj3) ∧ Aside0 (Kd.N (Kd.slice 3 (Kd.int .i64)) 22 w' w.heap.size (fun k_ => (w.heap.size ≤ k_) ∧ some k_ ≠ (v321 : Value).ownBlock) v4 x4_2) ∧ Aside0 (Kd.N (Kd.slice 3 (Kd.int .i64)) 22 w' w.heap.size (fun k_ => (w.heap.size ≤ k_) ∧ some k_ ≠ (v4 : Value).ownBlock) v321 t320) ∧ Aside0 (Below w.heap.size w w'))
   case atStart => exact ⟨(y316), (0), yZ, H', ⟨Nat.le_refl _⟩, ⟨xN HO_4.out⟩, ⟨xN HO_5.out⟩, ⟨xH HB.out⟩⟩
   case round =>
    clear H'
    try clear c13
    obtain ⟨x4_2, x6_2, rfl, HA, HK2, HO_4, HO_5, HB⟩ := hrel
    cases gk with
    | zero => exact absurd HA.out (by simp [spec_PlaneClass.l0])
    | succ k2 =>
     have H := HA.out
     clear HA
     simp only [spec_PlaneClass.l0] at H
     by_cases c14 : x6_2 < (t320.length : Int)
     rotate_left
     ·
      rw [if_neg c14] at H
      have c14b0 := decide_eq_false c14
      clear c14
      simp only [Option.some.injEq, Prod.mk.injEq] at H
      obtain ⟨rfl, rfl⟩ := H
      obtain ⟨Ao27, co27, eo27⟩ := Kd.N_slice HO_5.out
      subst eo27
      go_wp2
      go_ret2
      exact ⟨_, yF, zN (Kd.N_mono HO_4.out (fun _ hk => hk.1)), by repeat (first | (with_reducible first | exact HB.out | apply eA | apply eN | apply eD) | exact HB.out)⟩
     rw [if_pos c14] at H
     have c14b0 := decide_eq_true c14
     clear c14
     by_cases c15 : 0 ≤ x6_2
     rotate_left
     ·
      rw [if_neg c15] at H
      exact absurd H (by simp)
     rw [if_pos c15] at H
     have c15b0 := decide_eq_true c15
     clear c15
     replace H := oB.mp H
     obtain ⟨⟨t326, t327⟩, A160, H⟩ := H
     (try dsimp only at H)
     have A16 := aM A160
     clear A160
     by_cases c17 : t327 = true
     rotate_left
     ·
      replace c17 := Bool.eq_false_iff.mpr c17
      subst c17
      rw [if_neg (show ¬ (false = true) by decide)] at H
      have H' := aM H
      clear H
      obtain ⟨Ao25, co25, eo25⟩ := Kd.N_slice HO_5.out
      subst eo25
      have p325 : 0 ≤ (x6_2 : Int) := yA
      have q325 : x6_2 < (t320.length : Int) := yA
      obtain ⟨ad325, A325_0, c325_0, e325, hx325_0, hl325_0, hi325_0⟩ := at_L1 (Kd.N_reads' HO_5.out).2.2 x6_2 p325 q325
      cases e325
      obtain ⟨ce325, hce325, hMe325, hcc325⟩ := Kd.N_get HO_5.out [] x6_2 p325 (by first | exact q325 | exact yA | (have e_ := (Kd.N_reads' HO_5.out).1; omega))
      obtain ⟨ua325_0, uc325_0, rfl, ul325_0, ge325_0⟩ := Kd.FK_slice_open hMe325
      have hv325_0 := hcc325 0 _ rfl
      rw [Nat.add_zero, show ((Kd.slice 3 (Kd.int .i64))).sz = 1 from rfl, Nat.mul_one] at hv325_0
      replace hv325_0 := Option.some.inj (hv325_0.symm.trans hx325_0)
      injection hv325_0 with hva_ hvn_ hvc_
      rw [hva_] at ge325_0
      rw [hvc_] at ul325_0
      have HL325_0 := aM (show Kd.V (Kd.int .i64) 3 _ w.heap.size _ _ (rd_L1 t320 x6_2) from Kd.V_mk ul325_0 ge325_0)
      clear hva_ hvn_ hvc_ ge325_0 ul325_0 hcc325 hce325
      have HR325_0 := aM hi325_0
      have HC325_0 := aM hl325_0
      clear hi325_0 hl325_0
      replace p325 := eq_true p325
      replace q325 := eq_true q325
      go_wp2_with (first | (refine yL 40 Try.func43 #[.agg #[.slice A0 l0.length c0, .slice A325_0 (rd_L1 t320 x6_2).length c325_0]] ?_; (with_reducible refine (spec_CanPart.calls k2 _ _ l0 _ _ (rd_L1 t320 x6_2) t326 false _ ?side1 ?side2 ?side3 ?side4 A16.out).mono ?_); (case side1 => exact xC (Kd.C_below HR0.out HB.out)); (case side2 => exact HC0.out); (case side3 => repeat (first | exact (by repeat (first | (with_reducible exact HR325_0.out) | (with_reducible refine Kd.C_alloc ?_ _) | (with_reducible refine Kd.C_drewN ?_ _) | (with_reducible refine Kd.C_drew ?_) | exact HR325_0.out)) | (with_reducible refine Kd.C_alloc ?_ _) | (with_reducible refine Kd.C_drewN ?_ _) | (with_reducible refine Kd.C_drew ?_))); (case side4 => exact HC325_0.out); rintro e w26 ⟨rfl, hb⟩; refine ⟨_, rfl, ?_⟩; replace HO_4 := aM (Kd.N_below (xN HO_4.out) hb); replace HO_5 := aM (Kd.N_below (xN HO_5.out) hb); replace HL325_0 := aM (Kd.V_below (xV HL325_0.out) hb); replace HR325_0 := aM (Kd.C_below (by repeat (first | (with_reducible exact HR325_0.out) | (with_reducible refine Kd.C_alloc ?_ _) | (with_reducible refine Kd.C_drewN ?_ _) | (with_reducible refine Kd.C_drew ?_) | exact HR325_0.out)) hb); replace HB := yS0 HB hb; (try clear hb; try clear hk; try clear hi)))
      go_roundg k2
      case measure => have := HJ3.out; have := HK2.out; omega
      case rel => exact ⟨(x4_2), (wrap64 (x6_2 + 1)), yZ, H', ⟨by have := HJ3.out; have := HK2.out; omega⟩, ⟨xN HO_4.out⟩, ⟨xN HO_5.out⟩, ⟨xH HB.out⟩⟩
     subst c17
     rw [if_pos rfl] at H
     by_cases c18 : t326 = true
     rotate_left
     ·
      replace c18 := Bool.eq_false_iff.mpr c18
      subst c18
      rw [if_neg (show ¬ (false = true) by decide)] at H
      have H' := aM H
      clear H
      obtain ⟨Ao23, co23, eo23⟩ := Kd.N_slice HO_5.out
      subst eo23
      have p325 : 0 ≤ (x6_2 : Int) := yA
      have q325 : x6_2 < (t320.length : Int) := yA
      obtain ⟨ad325, A325_0, c325_0, e325, hx325_0, hl325_0, hi325_0⟩ := at_L1 (Kd.N_reads' HO_5.out).2.2 x6_2 p325 q325
      cases e325
      obtain ⟨ce325, hce325, hMe325, hcc325⟩ := Kd.N_get HO_5.out [] x6_2 p325 (by first | exact q325 | exact yA | (have e_ := (Kd.N_reads' HO_5.out).1; omega))
      obtain ⟨ua325_0, uc325_0, rfl, ul325_0, ge325_0⟩ := Kd.FK_slice_open hMe325
      have hv325_0 := hcc325 0 _ rfl
      rw [Nat.add_zero, show ((Kd.slice 3 (Kd.int .i64))).sz = 1 from rfl, Nat.mul_one] at hv325_0
      replace hv325_0 := Option.some.inj (hv325_0.symm.trans hx325_0)
      injection hv325_0 with hva_ hvn_ hvc_
      rw [hva_] at ge325_0
      rw [hvc_] at ul325_0
      have HL325_0 := aM (show Kd.V (Kd.int .i64) 3 _ w.heap.size _ _ (rd_L1 t320 x6_2) from Kd.V_mk ul325_0 ge325_0)
      clear hva_ hvn_ hvc_ ge325_0 ul325_0 hcc325 hce325
      have HR325_0 := aM hi325_0
      have HC325_0 := aM hl325_0
      clear hi325_0 hl325_0
      replace p325 := eq_true p325
      replace q325 := eq_true q325
      go_wp2_with (first | (refine yL 40 Try.func43 #[.agg #[.slice A0 l0.length c0, .slice A325_0 (rd_L1 t320 x6_2).length c325_0]] ?_; (with_reducible refine (spec_CanPart.calls k2 _ _ l0 _ _ (rd_L1 t320 x6_2) false true _ ?side1 ?side2 ?side3 ?side4 A16.out).mono ?_); (case side1 => exact xC (Kd.C_below HR0.out HB.out)); (case side2 => exact HC0.out); (case side3 => repeat (first | exact (by repeat (first | (with_reducible exact HR325_0.out) | (with_reducible refine Kd.C_alloc ?_ _) | (with_reducible refine Kd.C_drewN ?_ _) | (with_reducible refine Kd.C_drew ?_) | exact HR325_0.out)) | (with_reducible refine Kd.C_alloc ?_ _) | (with_reducible refine Kd.C_drewN ?_ _) | (with_reducible refine Kd.C_drew ?_))); (case side4 => exact HC325_0.out); rintro e w24 ⟨rfl, hb⟩; refine ⟨_, rfl, ?_⟩; replace HO_4 := aM (Kd.N_below (xN HO_4.out) hb); replace HO_5 := aM (Kd.N_below (xN HO_5.out) hb); replace HL325_0 := aM (Kd.V_below (xV HL325_0.out) hb); replace HR325_0 := aM (Kd.C_below (by repeat (first | (with_reducible exact HR325_0.out) | (with_reducible refine Kd.C_alloc ?_ _) | (with_reducible refine Kd.C_drewN ?_ _) | (with_reducible refine Kd.C_drew ?_) | exact HR325_0.out)) hb); replace HB := yS0 HB hb; (try clear hb; try clear hk; try clear hi)))
      go_roundg k2
      case measure => have := HJ3.out; have := HK2.out; omega
      case rel => exact ⟨(x4_2), (wrap64 (x6_2 + 1)), yZ, H', ⟨by have := HJ3.out; have := HK2.out; omega⟩, ⟨xN HO_4.out⟩, ⟨xN HO_5.out⟩, ⟨xH HB.out⟩⟩
     subst c18
     rw [if_pos rfl] at H
     by_cases c19 : x4_2.length < 5864062014805
     rotate_left
     ·
      rw [if_neg c19] at H
      exact absurd H (by simp)
     rw [if_pos c19] at H
     have LMc19 := aM c19
     clear c19
     obtain ⟨y329, hy329⟩ := yE (x4_2 ++ [rd_L1 t320 x6_2] : List (List Int))
     replace H : (spec_PlaneClass.l0 k2 l0 y329 t320 (wrap64 (x6_2 + 1))) = some (r1, r2) := yI hy329 H
     have Ny329 := aM hy329
     clear hy329
     have H' := aM H
     clear H
     obtain ⟨Ao20, co20, eo20⟩ := Kd.N_slice HO_5.out
     subst eo20
     have p325 : 0 ≤ (x6_2 : Int) := yA
     have q325 : x6_2 < (t320.length : Int) := yA
     obtain ⟨ad325, A325_0, c325_0, e325, hx325_0, hl325_0, hi325_0⟩ := at_L1 (Kd.N_reads' HO_5.out).2.2 x6_2 p325 q325
     cases e325
     obtain ⟨ce325, hce325, hMe325, hcc325⟩ := Kd.N_get HO_5.out [] x6_2 p325 (by first | exact q325 | exact yA | (have e_ := (Kd.N_reads' HO_5.out).1; omega))
     obtain ⟨ua325_0, uc325_0, rfl, ul325_0, ge325_0⟩ := Kd.FK_slice_open hMe325
     have hv325_0 := hcc325 0 _ rfl
     rw [Nat.add_zero, show ((Kd.slice 3 (Kd.int .i64))).sz = 1 from rfl, Nat.mul_one] at hv325_0
     replace hv325_0 := Option.some.inj (hv325_0.symm.trans hx325_0)
     injection hv325_0 with hva_ hvn_ hvc_
     rw [hva_] at ge325_0
     rw [hvc_] at ul325_0
     have HL325_0 := aM (show Kd.V (Kd.int .i64) 3 _ w.heap.size _ _ (rd_L1 t320 x6_2) from Kd.V_mk ul325_0 ge325_0)
     clear hva_ hvn_ hvc_ ge325_0 ul325_0 hcc325 hce325
     have HR325_0 := aM hi325_0
     have HC325_0 := aM hl325_0
     clear hi325_0 hl325_0
     replace p325 := eq_true p325
     replace q325 := eq_true q325
     go_wp2_with (first | (refine yL 40 Try.func43 #[.agg #[.slice A0 l0.length c0, .slice A325_0 (rd_L1 t320 x6_2).length c325_0]] ?_; (with_reducible refine (spec_CanPart.calls k2 _ _ l0 _ _ (rd_L1 t320 x6_2) true true _ ?side1 ?side2 ?side3 ?side4 A16.out).mono ?_); (case side1 => exact xC (Kd.C_below HR0.out HB.out)); (case side2 => exact HC0.out); (case side3 => repeat (first | exact (by repeat (first | (with_reducible exact HR325_0.out) | (with_reducible refine Kd.C_alloc ?_ _) | (with_reducible refine Kd.C_drewN ?_ _) | (with_reducible refine Kd.C_drew ?_) | exact HR325_0.out)) | (with_reducible refine Kd.C_alloc ?_ _) | (with_reducible refine Kd.C_drewN ?_ _) | (with_reducible refine Kd.C_drew ?_))); (case side4 => exact HC325_0.out); rintro e w21 ⟨rfl, hb⟩; refine ⟨_, rfl, ?_⟩; replace HO_4 := aM (Kd.N_below (xN HO_4.out) hb); replace HO_5 := aM (Kd.N_below (xN HO_5.out) hb); replace HL325_0 := aM (Kd.V_below (xV HL325_0.out) hb); replace HR325_0 := aM (Kd.C_below (by repeat (first | (with_reducible exact HR325_0.out) | (with_reducible refine Kd.C_alloc ?_ _) | (with_reducible refine Kd.C_drewN ?_ _) | (with_reducible refine Kd.C_drew ?_) | exact HR325_0.out)) hb); replace HB := yS0 HB hb; (try clear hb; try clear hk; try clear hi); have p328 : 0 ≤ (x6_2 : Int) := yA; have q328 : x6_2 < (t320.length : Int) := yA; obtain ⟨ad328, A328_0, c328_0, e328, hx328_0, hl328_0, hi328_0⟩ := at_L1 (Kd.N_reads' HO_5.out).2.2 x6_2 p328 q328; obtain rfl : ad325 = ad328 := (by injection e328); obtain ⟨ce328, hce328, hMe328, hcc328⟩ := Kd.N_get HO_5.out [] x6_2 p328 (by first | exact q328 | exact yA | (have e_ := (Kd.N_reads' HO_5.out).1; omega)); obtain ⟨ua328_0, uc328_0, rfl, ul328_0, ge328_0⟩ := Kd.FK_slice_open hMe328; have hv328_0 := hcc328 0 _ rfl; rw [Nat.add_zero, show ((Kd.slice 3 (Kd.int .i64))).sz = 1 from rfl, Nat.mul_one] at hv328_0; replace hv328_0 := Option.some.inj (hv328_0.symm.trans hx328_0); injection hv328_0 with hva_ hvn_ hvc_; rw [hva_] at ge328_0; rw [hvc_] at ul328_0; have HL328_0 := aM (show Kd.V (Kd.int .i64) 3 _ w.heap.size _ _ (rd_L1 t320 x6_2) from Kd.V_mk ul328_0 ge328_0); clear hva_ hvn_ hvc_ ge328_0 ul328_0; clear hcc328 hce328; have HR328_0 := aM hi328_0; have HC328_0 := aM hl328_0; clear hi328_0 hl328_0; replace p328 := eq_true p328; replace q328 := eq_true q328) | ((with_reducible refine gate_builtin (b := .append) (xs := #[.tmp 47, .tmp 52]) rfl ?_); at_builtin; refine Kd.N_append (Kd.slice 3 (Kd.int .i64)) (w0 := w) w.heap.size rfl (.tmp 47) (.tmp 52) 32 22 (.slice none 0 0) 24 rfl Try.underlying32 info22 rfl (by decide) (by omega) u4 x4_2 (rd_L1 t320 x6_2) [.slice A328_0 (rd_L1 t320 x6_2).length c328_0] (fun k_ => (w.heap.size ≤ k_) ∧ some k_ ≠ (.slice (some ad325) t320.length co20 : Value).ownBlock) (fun k_ => ((fun k_ => (w.heap.size ≤ k_) ∧ some k_ ≠ (.slice (some ad325) t320.length co20 : Value).ownBlock)) k_ ∧ some k_ ≠ (u4 : Value).ownBlock) rfl rfl ?aP (fun _ hk => hk) ?aF ?aO ?aB ?aS ?aL ?_; (case aP => exact (Kd.FK_slice_mk (Kd.V_reads' (Kd.V_mono (ok' := (fun k_ => ((fun k_ => (w.heap.size ≤ k_) ∧ some k_ ≠ (.slice (some ad325) t320.length co20 : Value).ownBlock)) k_ ∧ some k_ ≠ (u4 : Value).ownBlock)) (HL328_0.out) (fun k_ hk => ⟨⟨hk.1.1, hk.2⟩, hk.1.2⟩))).2.1 (Kd.V_F (base := w.heap.size) (e := 3) (Kd.V_mono (e := 3) (base := w.heap.size) (ok' := (fun k_ => ((fun k_ => (w.heap.size ≤ k_) ∧ some k_ ≠ (.slice (some ad325) t320.length co20 : Value).ownBlock)) k_ ∧ some k_ ≠ (u4 : Value).ownBlock)) (HL328_0.out) (fun k_ hk => ⟨⟨hk.1.1, hk.2⟩, hk.1.2⟩))))); (case aB => exact (xH HB.out)); (case aF => exact (fun k_ hk => ⟨(Nat.le_trans (below_size (xH HB.out)) hk), Kd.fresh' (Kd.N_lt (xN HO_5.out)) k_ hk⟩)); (case aO => exact (xN HO_4.out)); (case aS => exact (below_size (xH HB.out))); (case aL => have := LMc19.out; omega); intro v330 w22 ho hb hg hat; rw [← Ny329.out] at ho; replace HO_5 := aM (Kd.N_afterv (ok := (fun k_ => (w.heap.size ≤ k_))) (xN HO_5.out) hg hat); replace HL325_0 := aM (Kd.V_afterv (ok := (fun k_ => (w.heap.size ≤ k_) ∧ some k_ ≠ (.slice (some ad325) t320.length co20 : Value).ownBlock)) (by (with_reducible repeat (first | apply Kd.V_alloc | apply Kd.V_drewN | apply Kd.V_drew)); exact Kd.V_mono HL325_0.out (fun _ hk => ⟨⟨hk.1.1, hk.2⟩, hk.1.2⟩)) hg hat); replace HL328_0 := aM (Kd.V_afterv (ok := (fun k_ => (w.heap.size ≤ k_) ∧ some k_ ≠ (.slice (some ad325) t320.length co20 : Value).ownBlock)) (by (with_reducible repeat (first | apply Kd.V_alloc | apply Kd.V_drewN | apply Kd.V_drew)); exact Kd.V_mono HL328_0.out (fun _ hk => ⟨⟨hk.1.1, hk.2⟩, hk.1.2⟩)) hg hat); replace HB := aM (hb); have HO331 := aM (ho); clear HO_4; clear ho hb hg hat))
     go_roundg k2
     case measure => have := HJ3.out; have := HK2.out; omega
     case rel => exact ⟨(y329), (wrap64 (x6_2 + 1)), yZ, H', ⟨by have := HJ3.out; have := HK2.out; omega⟩, ⟨xN HO331.out⟩, ⟨xN HO_5.out⟩, ⟨xH HB.out⟩⟩
def laws_toIntS.l0 : Nat → List Int → List Int → Int → Option (List Int)
 | 0, _, _, _ => none
 | k + 1, x0, x3, x4 => if x4 < (x0.length : Int) then (if 0 ≤ x4 then (if x4 < (x3.length : Int) then (laws_toIntS.l0 k x0 (x3.set (x4 : Int).toNat (rd x0 x4)) (wrap64 (x4 + 1))) else (none)) else (none)) else (some x3)
def laws_toIntS.f (k : Nat) (l0 : List Int) : Option (List Int) := if 0 ≤ (l0.length : Int) then (if ((l0.length : Int) : Int).toNat ≤ 35184372088832 then (laws_toIntS.l0 k l0 (List.replicate ((l0.length : Int) : Int).toNat 0) 0) else (none)) else (none)
theorem laws_toIntS.calls (k : Nat) (A0 : Option Addr) (c0 : Nat) (l0 : List Int) (r : List Int) (w : World) (hr0 : Kd.C (Kd.int .i64) w A0 l0.length l0) (hc0 : l0.length ≤ c0) (h : laws_toIntS.f k l0 = some r) :
  Calls Try.prog 8 #[.slice A0 l0.length c0] w fun e w' => ∃ v0_ : Value, e = .returned (v0_) ∧ Kd.R (Kd.int .i64) 3 w' w.heap.size (fun _ => True) v0_ r ∧ Below w.heap.size w w' := by
 have HR0 := aM hr0
 have HC0 := aM hc0
 clear hr0 hc0
 have HB := aM (Below.refl w.heap.size w)
 have H : (if 0 ≤ (l0.length : Int) then (if ((l0.length : Int) : Int).toNat ≤ 35184372088832 then (laws_toIntS.l0 k l0 (List.replicate ((l0.length : Int) : Int).toNat 0) 0) else (none)) else (none)) = some r := h
 clear h
 by_cases c2 : 0 ≤ (l0.length : Int)
 rotate_left
 ·
  rw [if_neg c2] at H
  exact absurd H (by simp)
 rw [if_pos c2] at H
 have c2b0 := eq_true c2
 have c2b1 : decide (0 ≤ (l0.length : Int)) = true := decide_eq_true c2
 clear c2
 by_cases c3 : ((l0.length : Int) : Int).toNat ≤ 35184372088832
 rotate_left
 ·
  rw [if_neg c3] at H
  exact absurd H (by simp)
 rw [if_pos c3] at H
 have c3b0 := eq_true c3
 have c3b1 : decide (((l0.length : Int) : Int).toNat ≤ 35184372088832) = true := decide_eq_true c3
 clear c3
 obtain ⟨y332, hy332⟩ := yE (List.replicate ((l0.length : Int) : Int).toNat 0 : List Int)
 replace H : (laws_toIntS.l0 k l0 y332 0) = some r := yI hy332 H
 have Ny332 := aM hy332
 clear hy332
 have H' := aM H
 clear H
 go_enter Try.func8, Try.ntmps8
 go_wp2_with (first | ((with_reducible refine gate_dst (N := 7) rfl ?_); refine Kd.R_make (Kd.int .i64) _ 3 rfl (N := 7) rfl 22 _ _ rfl (l0.length : Int) rfl rfl Try.underlying22 (.int .i64 0) 8 info3 rfl (by decide) (by omega) 0 (ok := fun _ => True) (okp := fun _ => True) rfl (fun _ hk => hk) trivial (yA) (Nat.le_trans (Nat.mul_le_mul_right _ (yA : (l0.length : Int).toNat ≤ 35184372088832)) (by omega)) (Below.refl _ _) (Nat.le_refl _) ?_; intro v333 w4 ho5 hb hg_ hnew_; clear hg_ hnew_; (first | rw [← Ny332.out] at ho5 | (simp only [Int.reduceToNat] at ho5; rw [← Ny332.out] at ho5)); have HO334 := aM (Kd.R_lower ho5 (below_size (xH HB.out))); replace HB := yS0 HB hb; clear hb ho5))
 go_loopg [4] k (fun kq v4 w' => ∃ (x3_1 : List Int) (x4_1 : Int), v4 = .int .i64 x4_1 ∧ Aside0 (laws_toIntS.l0 kq l0 x3_1 x4_1 = some r) ∧ Aside0 (kq ≤ k) ∧ Aside0 (Kd.R (Kd.int .i64) 3 w' w.heap.size (fun _ => True) v333 x3_1) ∧ Aside0 (Below w.heap.size w w'))
 case atStart => exact ⟨(y332), (0), yZ, H', ⟨Nat.le_refl _⟩, ⟨xR HO334.out⟩, ⟨xH HB.out⟩⟩
 case round =>
  clear H'
  try clear c2; try clear c2b0; try clear c2b1; try clear c3; try clear c3b0; try clear c3b1
  obtain ⟨x3_1, x4_1, rfl, HA, HK1, HO_3, HB⟩ := hrel
  cases gk with
  | zero => exact absurd HA.out (by simp [laws_toIntS.l0])
  | succ k1 =>
   have H := HA.out
   clear HA
   simp only [laws_toIntS.l0] at H
   by_cases c6 : x4_1 < (l0.length : Int)
   rotate_left
   ·
    rw [if_neg c6] at H
    have c6b0 := decide_eq_false c6
    clear c6
    obtain rfl := Option.some.inj H
    go_wp2
    go_ret
    exact ⟨_, yF, xR HO_3.out, by repeat (first | (with_reducible first | exact HB.out | apply eA | apply eN | apply eD) | exact HB.out)⟩
   rw [if_pos c6] at H
   have c6b0 := decide_eq_true c6
   clear c6
   by_cases c7 : 0 ≤ x4_1
   rotate_left
   ·
    rw [if_neg c7] at H
    exact absurd H (by simp)
   rw [if_pos c7] at H
   have c7b0 := decide_eq_true c7
   clear c7
   by_cases c8 : x4_1 < (x3_1.length : Int)
   rotate_left
   ·
    rw [if_neg c8] at H
    exact absurd H (by simp)
   rw [if_pos c8] at H
   have c8b0 := decide_eq_true c8
   clear c8
   obtain ⟨y336, hy336⟩ := yE (x3_1.set (x4_1 : Int).toNat (rd l0 x4_1) : List Int)
   replace H : (laws_toIntS.l0 k1 l0 y336 (wrap64 (x4_1 + 1))) = some r := yI hy336 H
   have Ny336 := aM hy336
   clear hy336
   have H' := aM H
   clear H
   have p335 : 0 ≤ (x4_1 : Int) := yA
   have q335 : x4_1 < (l0.length : Int) := yA
   obtain ⟨ad335, e335, hx335_0⟩ := Kd.at_int HR0.out x4_1 p335 q335
   cases e335
   replace hx335_0 := (HB.out.cell (World.block_lt_of_cell? w _ hx335_0)).trans hx335_0
   replace p335 := eq_true p335
   replace q335 := eq_true q335
   have p9 : 0 ≤ (x4_1 : Int) := yA
   have q9 : (x4_1 : Int) < ((x3_1.length : Int) : Int) := yA
   obtain ⟨go9, co9, eo9, gb9, gl9, cl9, HG9⟩ := Kd.R_form HO_3.out (by omega)
   (first | cases eo9 | (injection eo9 with ea_ en_ ec_; (first | subst ea_ | (injection ea_ with ea_; subst ea_)); subst ec_; clear en_))
   have GB9 := aM gb9
   have GG9 := aM HG9
   clear gb9 gl9 HG9
   obtain ⟨hx9_0, hf9_0⟩ := Kd.R_celln 0 HO_3.out (x4_1 : Int) p9 q9
   replace p9 := eq_true p9
   replace q9 := eq_true q9
   have HP10 := Kd.R_putg HO_3.out (x4_1 : Int) (rd l0 x4_1)
   go_wp2_with (first | ((with_reducible refine gate_store (t := 3) (p := 20) rfl ?_); refine store_event (t := 3) (p := 20) (v := ?vo_w11) (w1 := (wr.setCell ⟨go9, (x4_1 : Int).toNat, none⟩ (.int .i64 (rd l0 x4_1)))) ?hg ?ho ?hn ?hr ?_; (case ho => rfl); (case hg => rfl); (case hn => rfl); (case hr => first | (go_simp; done) | (go_simp; rfl)); intro w11 hw; have hg : wr.grownBy w11 (some go9) := (by rw [hw]; exact HP10.2); have hp_ : Kd.R (Kd.int .i64) 3 w11 w.heap.size (fun _ => True) (.slice (some ⟨go9, 0, none⟩) x3_1.length co9) y336 := (by rw [hw, Ny336.out]; exact HP10.1); clear HP10; replace HO_3 := aM (hp_); replace HB := aM ((by rw [hw]; exact eS (HB.out) GB9.out : Below w.heap.size w w11)); clear hg hw hp_))
   go_roundg k1
   case measure => have := HK1.out; omega
   case rel => exact ⟨(y336), (wrap64 (x4_1 + 1)), yZ, H', ⟨by have := HK1.out; omega⟩, ⟨xR HO_3.out⟩, ⟨xH HB.out⟩⟩
def laws_toIntSS.l0 : Nat → List (List Int) → List (List Int) → Int → Option ((List (List Int)))
 | 0, _, _, _ => none
 | k + 1, x0, x3, x4 => if x4 < (x0.length : Int) then (if 0 ≤ x4 then ((laws_toIntS.f k (rd_L1 x0 x4)).bind fun t341 => (if x4 < (x3.length : Int) then (laws_toIntSS.l0 k x0 (x3.set (x4 : Int).toNat t341) (wrap64 (x4 + 1))) else (none))) else (none)) else (some x3)
def laws_toIntSS.f (k : Nat) (l0 : List (List Int)) : Option ((List (List Int))) := if 0 ≤ (l0.length : Int) then (if ((l0.length : Int) : Int).toNat ≤ 11728124029610 then (laws_toIntSS.l0 k l0 (List.replicate ((l0.length : Int) : Int).toNat []) 0) else (none)) else (none)
theorem laws_toIntSS.calls (k : Nat) (A0 : Option Addr) (c0 : Nat) (l0 : List (List Int)) (r : List (List Int)) (w : World) (hr0 : Kd.C (Kd.slice 3 (Kd.int .i64)) w A0 l0.length l0) (hc0 : l0.length ≤ c0) (h : laws_toIntSS.f k l0 = some r) :
  Calls Try.prog 17 #[.slice A0 l0.length c0] w fun e w' => ∃ v0_ : Value, e = .returned (v0_) ∧ Kd.S (Kd.slice 3 (Kd.int .i64)) 22 w' w.heap.size (fun _ => True) v0_ r ∧ Below w.heap.size w w' := by
 have HR0 := aM hr0
 have HC0 := aM hc0
 clear hr0 hc0
 have HB := aM (Below.refl w.heap.size w)
 have H : (if 0 ≤ (l0.length : Int) then (if ((l0.length : Int) : Int).toNat ≤ 11728124029610 then (laws_toIntSS.l0 k l0 (List.replicate ((l0.length : Int) : Int).toNat []) 0) else (none)) else (none)) = some r := h
 clear h
 by_cases c2 : 0 ≤ (l0.length : Int)
 rotate_left
 ·
  rw [if_neg c2] at H
  exact absurd H (by simp)
 rw [if_pos c2] at H
 have c2b0 := eq_true c2
 have c2b1 : decide (0 ≤ (l0.length : Int)) = true := decide_eq_true c2
 clear c2
 by_cases c3 : ((l0.length : Int) : Int).toNat ≤ 11728124029610
 rotate_left
 ·
  rw [if_neg c3] at H
  exact absurd H (by simp)
 rw [if_pos c3] at H
 have c3b0 := eq_true c3
 have c3b1 : decide (((l0.length : Int) : Int).toNat ≤ 11728124029610) = true := decide_eq_true c3
 clear c3
 obtain ⟨y337, hy337⟩ := yE (List.replicate ((l0.length : Int) : Int).toNat [] : List (List Int))
 replace H : (laws_toIntSS.l0 k l0 y337 0) = some r := yI hy337 H
 have Ny337 := aM hy337
 clear hy337
 have H' := aM H
 clear H
 go_enter Try.func17, Try.ntmps17
 go_wp2_with (first | ((with_reducible refine gate_dst (N := 7) rfl ?_); refine Kd.S_make (Kd.slice 3 (Kd.int .i64)) _ 22 rfl (N := 7) rfl 32 _ _ rfl (l0.length : Int) rfl rfl Try.underlying32 (.slice none 0 0) 24 info22 rfl (by decide) (by omega) [] (ok := fun _ => True) (okp := fun _ => True) ⟨_, rfl, Kd.R_nil _ _ _ _ _⟩ (fun _ hk => hk) trivial (yA) (Nat.le_trans (Nat.mul_le_mul_right _ (yA : (l0.length : Int).toNat ≤ 11728124029610)) (by omega)) (Below.refl _ _) (Nat.le_refl _) ?_; intro v338 w4 ho5 hb hg_ hnew_; clear hg_ hnew_; (first | rw [← Ny337.out] at ho5 | (simp only [Int.reduceToNat] at ho5; rw [← Ny337.out] at ho5)); have HO339 := aM (Kd.S_lower ho5 (below_size (xH HB.out))); replace HB := yS0 HB hb; clear hb ho5))
 go_loopg [4] k (fun kq v4 w' => ∃ (x3_1 : List (List Int)) (x4_1 : Int), v4 = .int .i64 x4_1 ∧ Aside0 (laws_toIntSS.l0 kq l0 x3_1 x4_1 = some r) ∧ Aside0 (kq ≤ k) ∧ Aside0 (Kd.S (Kd.slice 3 (Kd.int .i64)) 22 w' w.heap.size (fun _ => True) v338 x3_1) ∧ Aside0 (Below w.heap.size w w'))
 case atStart => exact ⟨(y337), (0), yZ, H', ⟨Nat.le_refl _⟩, ⟨xS HO339.out⟩, ⟨xH HB.out⟩⟩
 case round =>
  clear H'
  try clear c2; try clear c2b0; try clear c2b1; try clear c3; try clear c3b0; try clear c3b1
  obtain ⟨x3_1, x4_1, rfl, HA, HK1, HO_3, HB⟩ := hrel
  cases gk with
  | zero => exact absurd HA.out (by simp [laws_toIntSS.l0])
  | succ k1 =>
   have H := HA.out
   clear HA
   simp only [laws_toIntSS.l0] at H
   by_cases c6 : x4_1 < (l0.length : Int)
   rotate_left
   ·
    rw [if_neg c6] at H
    have c6b0 := decide_eq_false c6
    clear c6
    obtain rfl := Option.some.inj H
    go_wp2
    go_ret
    exact ⟨_, yF, xS HO_3.out, by repeat (first | (with_reducible first | exact HB.out | apply eA | apply eN | apply eD) | exact HB.out)⟩
   rw [if_pos c6] at H
   have c6b0 := decide_eq_true c6
   clear c6
   by_cases c7 : 0 ≤ x4_1
   rotate_left
   ·
    rw [if_neg c7] at H
    exact absurd H (by simp)
   rw [if_pos c7] at H
   have c7b0 := decide_eq_true c7
   clear c7
   replace H := oB.mp H
   obtain ⟨t341, A80, H⟩ := H
   have A8 := aM A80
   clear A80
   by_cases c9 : x4_1 < (x3_1.length : Int)
   rotate_left
   ·
    rw [if_neg c9] at H
    exact absurd H (by simp)
   rw [if_pos c9] at H
   have c9b0 := decide_eq_true c9
   clear c9
   obtain ⟨y344, hy344⟩ := yE (x3_1.set (x4_1 : Int).toNat t341 : List (List Int))
   replace H : (laws_toIntSS.l0 k1 l0 y344 (wrap64 (x4_1 + 1))) = some r := yI hy344 H
   have Ny344 := aM hy344
   clear hy344
   have H' := aM H
   clear H
   have p340 : 0 ≤ (x4_1 : Int) := yA
   have q340 : x4_1 < (l0.length : Int) := yA
   obtain ⟨ad340, A340_0, c340_0, e340, hx340_0, hl340_0, hi340_0⟩ := at_L1 HR0.out x4_1 p340 q340
   cases e340
   replace hx340_0 := (HB.out.cell (World.block_lt_of_cell? w _ hx340_0)).trans hx340_0
   have HR340_0 := aM hi340_0
   have HC340_0 := aM hl340_0
   clear hi340_0 hl340_0
   replace p340 := eq_true p340
   replace q340 := eq_true q340
   go_wp2_with (first | (refine yL 20 Try.func8 #[.slice A340_0 (rd_L1 l0 x4_1).length c340_0] ?_; (with_reducible refine (laws_toIntS.calls k1 _ _ (rd_L1 l0 x4_1) t341 _ ?side1 ?side2 A8.out).mono ?_); (case side1 => exact xC (Kd.C_below HR340_0.out HB.out)); (case side2 => exact HC340_0.out); rintro e w11 ⟨v342, rfl, ho0, hb⟩; refine ⟨_, rfl, ?_⟩; replace HO_3 := aM (Kd.S_elder' (xS HO_3.out) (Kd.R_base ho0) hb); have HO343 := aM (Kd.R_lower ho0 (below_size (xH HB.out))); replace HB := yS0 HB hb; (try clear hb; try clear hk; try clear ho0); have p10 : 0 ≤ (x4_1 : Int) := yA; have q10 : (x4_1 : Int) < ((x3_1.length : Int) : Int) := yA; obtain ⟨go10, co10, eo10, gb10, gl10, cl10, HG10⟩ := Kd.S_form HO_3.out (by omega); (first | cases eo10 | (injection eo10 with ea_ en_ ec_; (first | subst ea_ | (injection ea_ with ea_; subst ea_)); subst ec_; clear en_)); have GB10 := aM gb10; have GG10 := aM HG10; clear gb10 gl10 HG10; obtain ⟨_, ce10, hcl10, hM10, hcc10, hfr10, _, _⟩ := Kd.S_elem HO_3.out [] (x4_1 : Int) p10 q10; obtain ⟨ve10_0, rfl, ge10_0⟩ := hM10; have hx10_0 := hcc10 0 _ rfl; have hf10_0 := hfr10 0; (try simp only [show ((Kd.slice 3 (Kd.int .i64))).sz = 1 from rfl, Nat.mul_one, Nat.add_zero] at hx10_0); (try simp only [show ((Kd.slice 3 (Kd.int .i64))).sz = 1 from rfl, Nat.mul_one, Nat.add_zero] at hf10_0); clear hcl10 hcc10 hfr10; (try clear hM10); replace p10 := eq_true p10; replace q10 := eq_true q10; have n_ := aM (Kd.S_mono (ok' := (fun k_ => some k_ ≠ (v342 : Value).ownBlock)) HO_3.out (fun k_ hk => hk.2)); clear HO_3; have HO_3 := n_; clear n_; have HX12 := aM (show Kd.S (Kd.slice 3 (Kd.int .i64)) 22 w11 w.heap.size (fun k_ => ((fun _ => True)) k_ ∧ ¬ ((fun k_ => some k_ = (v342 : Value).ownBlock)) k_) (.slice (some ⟨go10, 0, none⟩) x3_1.length co10) x3_1 from (zS (Kd.S_mono HO_3.out (fun k_ hk => ⟨trivial, fun e_ => hk e_⟩)))); obtain ⟨oki12, ce12, hcl12, hM12, hcc12, hfr12, hoki12, hH12⟩ := Kd.S_elem HX12.out [] (x4_1 : Int) (yA) (by have h_ : (x4_1 : Int) < ((x3_1.length : Int) : Int) := yA; first | exact h_ | (have e_ := (Kd.S_reads' HO_3.out).1; omega) | simpa using h_); obtain ⟨ve12_0, rfl, ge12_0⟩ := hM12; have HP12 := Kd.S_seg hH12 (yA) (by have h_ : (x4_1 : Int) < ((x3_1.length : Int) : Int) := yA; first | exact h_ | (have e_ := (Kd.S_reads' HO_3.out).1; omega) | simpa using h_) (seg := [v342]) (j := 0) (show 1 ≤ 1 from by decide) (x' := t341) (Kd.M_row (rM (Kd.R_tight rfl (rM (ok' := fun k_ => ((fun _ => True)) k_ ∧ k_ ≠ go10) (Kd.R_apart' (HO343.out) (Kd.S_typed HO_3.out) (by decide)) (fun k_ hk => ⟨trivial, fun e_ => (hk.2) (by rw [e_]; rfl)⟩))) (fun _ h_ => Or.inr (h_)))) (fun _ hk => hk) (fun k_ hk_ => ((rM (ok' := fun k_ => ((fun _ => True)) k_ ∧ k_ ≠ go10) (Kd.R_apart' (HO343.out) (Kd.S_typed HO_3.out) (by decide)) (fun k_ hk => ⟨trivial, fun e_ => (hk.2) (by rw [e_]; rfl)⟩))).1 k_ hk_.symm); have hx12_0 := hcc12 0 _ rfl; (try simp only [show ((Kd.slice 3 (Kd.int .i64))).sz = 1 from rfl, Nat.mul_one, Nat.add_zero] at hx12_0); have hf12_0 := hfr12 0; (try simp only [show ((Kd.slice 3 (Kd.int .i64))).sz = 1 from rfl, Nat.mul_one, Nat.add_zero] at hf12_0); clear hcl12 hcc12 hfr12 hoki12 hH12; (try clear hM12); (try simp only [show ((Kd.slice 3 (Kd.int .i64))).sz = 1 from rfl, Nat.mul_one, Nat.add_zero] at HP12)) | ((with_reducible refine gate_store (t := 22) (p := 21) rfl ?_); refine store_event (t := 22) (p := 21) (v := ?vo_w13) (w1 := (w11.setCell ⟨go10, (x4_1 : Int).toNat, none⟩ (v342))) ?hg ?ho ?hn ?hr ?_; (case ho => rfl); (case hg => rfl); (case hn => rfl); (case hr => first | (go_simp; done) | (go_simp; rfl) | (obtain ⟨A_, c_, e_, _, _⟩ := Kd.R_reads (‹Aside0 (Kd.R _ _ _ _ _ v342 _)›).out; subst e_; go_simp; done) | (obtain ⟨A_, c_, e_, _, _⟩ := Kd.R_reads (‹Aside0 (Kd.R _ _ _ _ _ v342 _)›).out; subst e_; go_simp; rfl)); intro w13 hw; have hg : w11.grownBy w13 (some go10) := (by rw [hw]; exact HP12.2); have hp_ : Kd.S (Kd.slice 3 (Kd.int .i64)) 22 w13 w.heap.size (fun _ => True) (.slice (some ⟨go10, 0, none⟩) x3_1.length co10) y344 := (by rw [hw, Ny344.out]; exact HP12.1); clear HP12; replace HO_3 := aM (hp_); replace HB := aM ((by rw [hw]; exact eS (HB.out) GB10.out : Below w.heap.size w w13)); clear HO343; clear hg hw hp_))
   go_roundg k1
   case measure => have := HK1.out; omega
   case rel => exact ⟨(y344), (wrap64 (x4_1 + 1)), yZ, H', ⟨by have := HK1.out; omega⟩, ⟨xS HO_3.out⟩, ⟨xH HB.out⟩⟩
def impl_within.f (a0 : Int) (a1 : Int) (a2 : Int) : Option (Bool) := if a0 ≥ a1 then (some (decide (a0 ≤ a2))) else (some false)
theorem impl_within.calls (a0 : Int) (a1 : Int) (a2 : Int) (r : Bool) (w : World) (h : impl_within.f a0 a1 a2 = some r) :
  Calls Try.prog 54 #[.int .i64 a0, .int .i64 a1, .int .i64 a2] w fun e w' => e = .returned (.bool r) ∧ Drawn0 w w' := by
 have H : (if a0 ≥ a1 then (some (decide (a0 ≤ a2))) else (some false)) = some r := h
 clear h
 by_cases c4 : a0 ≥ a1
 ·
  rw [if_pos c4] at H
  have c4b0 : decide (a1 ≤ a0) = true := decide_eq_true c4
  clear c4
  obtain rfl := Option.some.inj H
  go_enter Try.func54, Try.ntmps54
  go_wp2
  go_ret
  exact ⟨by first | rfl | (simp; done) | (simp [*]; done), by repeat (first | exact Drawn0.refl _ | apply Drawn0.step)⟩
 rw [if_neg c4] at H
 have c4b0 : decide (a1 ≤ a0) = false := decide_eq_false c4
 clear c4
 obtain rfl := Option.some.inj H
 go_enter Try.func54, Try.ntmps54
 go_wp2
 go_ret
 exact ⟨by first | rfl | (simp; done) | (simp [*]; done), by repeat (first | exact Drawn0.refl _ | apply Drawn0.step)⟩
end Go.Proofs.Ytgidnmpppbkamaa.PFnExactPlaneClass
