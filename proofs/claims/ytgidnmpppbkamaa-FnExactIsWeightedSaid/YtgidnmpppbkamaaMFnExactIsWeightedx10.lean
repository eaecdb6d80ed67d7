-- Laid for this claim by a program of the session's own (wip/tool/myprint.py).
import Derived.Test.YtgidnmpppbkamaaMFnExactIsWeightedx0
import Derived.Test.YtgidnmpppbkamaaMFnExactIsWeightedx1
import Derived.Test.YtgidnmpppbkamaaMFnExactIsWeightedx9
namespace Go.Proofs.Ytgidnmpppbkamaa.PFnExactIsWeighted
open Go.RowKit Go.Proofs.YtgidnmpppbkamaaW.PrintWords Go.Proofs.YtgidnmpppbkamaaW.PrintLast Go.Proofs.YtgidnmpppbkamaaW.PrintMore
attribute [local go_sem] max2_int min2_int max_two min_two max_three min_three max_four min_four
set_option linter.unusedVariables false
set_option linter.unusedSimpArgs false
def spec_l4Can.f (k : Nat) (l0_0 : List (List Int)) (l0_1 : List Int) : Option (Bool) := (spec_l4Find.f k l0_0 l0_1).bind fun bt290 => (some ((bt290.1.length : Int) == 0))
set_option maxHeartbeats 8000000 in
set_option maxRecDepth 100000 in
theorem spec_l4Can.calls (k : Nat) (A0_0 : Option Addr) (c0_0 : Nat) (l0_0 : List (List Int)) (A0_1 : Option Addr) (c0_1 : Nat) (l0_1 : List Int) (r : Bool) (w : World) (hr0_0 : Kd.C (Kd.slice 3 (Kd.int .i64)) w A0_0 l0_0.length l0_0) (hc0_0 : l0_0.length ≤ c0_0) (hr0_1 : Kd.C (Kd.int .i64) w A0_1 l0_1.length l0_1) (hc0_1 : l0_1.length ≤ c0_1) (h : spec_l4Can.f k l0_0 l0_1 = some r) :
  Calls Try.prog 25 #[.agg #[.slice A0_0 l0_0.length c0_0, .slice A0_1 l0_1.length c0_1]] w fun e w' => e = .returned (.bool r) ∧ Below w.heap.size w w' := by
 have hu43 := Try.underlying43
 have HR0_0 := aM hr0_0
 have HC0_0 := aM hc0_0
 clear hr0_0 hc0_0
 have HR0_1 := aM hr0_1
 have HC0_1 := aM hc0_1
 clear hr0_1 hc0_1
 have HB := aM (Below.refl w.heap.size w)
 have H : ((spec_l4Find.f k l0_0 l0_1).bind fun bt290 => (some ((bt290.1.length : Int) == 0))) = some r := h
 clear h
 replace H := oB.mp H
 obtain ⟨⟨t290, t293⟩, A20, H⟩ := H
 replace H : (some ((t290.length : Int) == 0)) = some r := H
 have A2 := aM A20
 clear A20
 obtain rfl := Option.some.inj H
 go_enter Try.func25, Try.ntmps25
 go_wp2_with (first | ((with_reducible refine gate_dst (N := 1) rfl ?_); refine box_event ?hg (N := 1) ?hd (cs := #[.slice A0_0 l0_0.length c0_0, .slice A0_1 l0_1.length c0_1]) (t := 43) ?hr ?_; (case hd => rfl); (case hg => rfl); (case hr => first | (go_simp; done) | (go_simp; rfl)); intro gb289 hg w3 hbox hb; have BK289 := aM (hbox); have GW289 := aM ((by rw [hg]; exact (below_size (xH HB.out)) : w.heap.size ≤ gb289)); have GE289 := aM ((by rw [hg]; exact (below_size (xH HB.out)) : w.heap.size ≤ gb289)); replace HB := aM (below_step (xH HB.out) hb); clear hb hbox hg; have hcz4_0 : w3.cell? ⟨gb289, 0, none⟩ = some (.slice A0_0 l0_0.length c0_0) := (bC BK289.out 0).trans rfl; have hcz4_1 : w3.cell? ⟨gb289, 1, none⟩ = some (.slice A0_1 l0_1.length c0_1) := (bC BK289.out 1).trans rfl; have hfz4_0 := bF BK289.out 0; have hfz4_1 := bF BK289.out 1) | ((with_reducible refine gate_callee (f := 52) rfl ?_); refine goesL_ (some 7) rfl rfl Try.func52 (by kernel_rfl) rfl #[.agg #[.slice A0_0 l0_0.length c0_0, .slice A0_1 l0_1.length c0_1]] rfl xL ?_; (with_reducible refine (spec_l4Find.calls k _ _ l0_0 _ _ l0_1 t290 t293 _ ?side1 ?side2 ?side3 ?side4 A2.out).mono ?_); (case side1 => repeat (first | exact (Kd.C_below HR0_0.out HB.out) | (with_reducible refine Kd.C_alloc ?_ _) | (with_reducible refine Kd.C_drewN ?_ _) | (with_reducible refine Kd.C_drew ?_))); (case side2 => exact HC0_0.out); (case side3 => repeat (first | exact (Kd.C_below HR0_1.out HB.out) | (with_reducible refine Kd.C_alloc ?_ _) | (with_reducible refine Kd.C_drewN ?_ _) | (with_reducible refine Kd.C_drew ?_))); (case side4 => exact HC0_1.out); rintro e w5 ⟨v291, v294, rfl, ho0, ho1, hb⟩; refine ⟨_, rfl, ?_⟩; have HO292 := aM (Kd.V_lower (Kd.V_mono (ok' := fun k_ => some k_ ≠ (v294 : Value).ownBlock ∧ k_ ≠ gb289) ho0 (fun k_ hk_ => ⟨hk_.2, (Kd.freshB (g := gb289) (o := .cells #[.slice A0_0 l0_0.length c0_0, .slice A0_1 l0_1.length c0_1] 43 (0, 0)) (xB BK289.out) k_ hk_.1)⟩)) (below_size (xG1 HB.out GE289.out))); have HO295 := aM (Kd.R_lower (rM (ok' := fun k_ => True) ho1 (fun _ hk_ => trivial)) (below_size (xG1 HB.out GE289.out))); replace BK289 := aM (bB (g := gb289) (o := .cells #[.slice A0_0 l0_0.length c0_0, .slice A0_1 l0_1.length c0_1] 43 (0, 0)) (xB BK289.out) hb); replace HB := aM (below_step (xG1 HB.out GE289.out) hb); (try clear hb; try clear hb2; try clear hk; try clear hi; try clear ho0; try clear ho1); obtain ⟨Ao6, co6, eo6⟩ := Kd.V_slice HO292.out; subst eo6))
 go_ret
 exact ⟨by first | rfl | (simp [errW_none, errW_some] <;> rfl) | (simp [*, errW_none, errW_some] <;> rfl), xG1 HB.out GE289.out⟩
def spec_l2BitPoint.l0 : Nat → Int → Int → List Int → Int → Option (List Int)
 | 0, _, _, _, _ => none
 | k + 1, x0, x1, x5, x6 => if x6 < x0 then (if 0 ≤ x6 then (if x5.length < 17592186044416 then (spec_l2BitPoint.l0 k x0 x1 (x5 ++ [Go.bits .and .i64 (shr .i64 x1 x6) 1]) (wrap64 (x6 + 1))) else (none)) else (none)) else (some x5)
def spec_l2BitPoint.f (k : Nat) (a0 : Int) (a1 : Int) : Option (List Int) := spec_l2BitPoint.l0 k a0 a1 (([] : List Int)) 0
set_option maxHeartbeats 8000000 in
set_option maxRecDepth 100000 in
theorem spec_l2BitPoint.calls (k : Nat) (a0 : Int) (a1 : Int) (r : List Int) (w : World) (h : spec_l2BitPoint.f k a0 a1 = some r) :
  Calls Try.prog 53 #[.int .i64 a0, .int .i64 a1] w fun e w' => ∃ v0_ : Value, e = .returned (v0_) ∧ Kd.R (Kd.int .i64) 3 w' w.heap.size (fun _ => True) v0_ r ∧ Below w.heap.size w w' := by
 have HB := aM (Below.refl w.heap.size w)
 have H : (spec_l2BitPoint.l0 k a0 a1 (([] : List Int)) 0) = some r := h
 clear h
 obtain ⟨y296, hy296⟩ : ∃ y_ : List Int, y_ = (([] : List Int)) := ⟨_, rfl⟩
 replace H : (spec_l2BitPoint.l0 k a0 a1 y296 0) = some r := by first | (rw [hy296]; with_reducible exact H) | (have H2_ := (Option.bind_some _ _).symm.trans H; rw [hy296]; with_reducible exact H2_) | (have H2_ := (Option.bind_some _ _).symm.trans H; with_reducible exact H2_) | with_reducible exact H | (rw [hy296]; exact H) | exact H
 have Ny296 := aM hy296
 clear hy296
 have H' := aM H
 clear H
 go_enter Try.func53, Try.ntmps53
 go_wp2_with (first | ((with_reducible refine gate_dst (N := 7) rfl ?_); refine Kd.R_lit (Kd.int .i64) _ 3 ?hg (N := 7) ?hd (xs := ([] : List Int)) (inner := []) (ok := fun _ => True) (okp := fun _ => True) ?hr ?hp (fun _ hk => hk) trivial (Below.refl _ _) (Nat.le_refl _) (by simp) ?_; (case hd => rfl); (case hg => rfl); (case hr => first | (go_simp; done) | (go_simp; rfl)); (case hp => exact (Reps.none _ _)); intro v297 w3 ho4 hb hg_ hnew_; clear hg_ hnew_; (first | rw [← Ny296.out] at ho4 | (simp only [Int.reduceToNat] at ho4; rw [← Ny296.out] at ho4)); have HO298 := aM (Kd.R_lower ho4 (below_size (xH HB.out))); replace HB := aM (below_step (xH HB.out) hb); clear hb ho4))
 go_loopg [5, 6] k (fun kq v5 v6 w' => ∃ (x5_1 : List Int) (x6_1 : Int), v6 = .int .i64 x6_1 ∧ Aside0 (spec_l2BitPoint.l0 kq a0 a1 x5_1 x6_1 = some r) ∧ Aside0 (kq ≤ k) ∧ Aside0 (Kd.R (Kd.int .i64) 3 w' w.heap.size (fun _ => True) v5 x5_1) ∧ Aside0 (Below w.heap.size w w'))
 case atStart => exact ⟨(y296), (0), (by first | rfl | (simp; done) | (simp [*]; done)), H', ⟨Nat.le_refl _⟩, ⟨xR HO298.out⟩, ⟨xH HB.out⟩⟩
 case round =>
  clear H'
  obtain ⟨x5_1, x6_1, rfl, HA, HK1, HO_5, HB⟩ := hrel
  cases gk with
  | zero => exact absurd HA.out (by simp [spec_l2BitPoint.l0])
  | succ k1 =>
   have H := HA.out
   clear HA
   simp only [spec_l2BitPoint.l0] at H
   by_cases c5 : x6_1 < a0
   ·
    rw [if_pos c5] at H
    have c5b0 : decide (x6_1 < a0) = true := decide_eq_true c5
    clear c5
    by_cases c6 : 0 ≤ x6_1
    ·
     rw [if_pos c6] at H
     have c6b0 := eq_true c6
     have c6b1 : decide (0 ≤ x6_1) = true := decide_eq_true c6
     clear c6
     obtain ⟨ji7, hji7⟩ : ∃ j_ : Int, (shr .i64 a1 x6_1) = j_ := ⟨_, rfl⟩
     replace H : (if x5_1.length < 17592186044416 then (spec_l2BitPoint.l0 k1 a0 a1 (x5_1 ++ [Go.bits .and .i64 (ji7) 1]) (wrap64 (x6_1 + 1))) else (none)) = some r := by first | (rw [hji7] at H; exact H) | (simp only [hji7] at H ⊢; exact H)
     have hji7_ : (a1 / 2 ^ min x6_1.toNat 64) = ji7 := hji7
     have hji7z : x6_1 ≤ 64 → (a1 / 2 ^ x6_1.toNat) = ji7 := shr_small hji7
     by_cases c8 : x5_1.length < 17592186044416
     ·
      rw [if_pos c8] at H
      have LMc8 := aM c8
      clear c8
      obtain ⟨y299, hy299⟩ : ∃ y_ : List Int, y_ = (x5_1 ++ [Go.bits .and .i64 (ji7) 1]) := ⟨_, rfl⟩
      replace H : (spec_l2BitPoint.l0 k1 a0 a1 y299 (wrap64 (x6_1 + 1))) = some r := by first | (rw [hy299]; with_reducible exact H) | (have H2_ := (Option.bind_some _ _).symm.trans H; rw [hy299]; with_reducible exact H2_) | (have H2_ := (Option.bind_some _ _).symm.trans H; with_reducible exact H2_) | with_reducible exact H | (rw [hy299]; exact H) | exact H
      have Ny299 := aM hy299
      clear hy299
      have H' := aM H
      clear H
      go_wp2_with (first | ((with_reducible refine gate_builtin (b := .append) (xs := #[.tmp 13, .tmp 18]) rfl ?_); at_builtin; refine Kd.R_append (Kd.int .i64) (w0 := w) w.heap.size rfl (.tmp 13) (.tmp 18) 22 3 (.int .i64 0) 8 rfl Try.underlying22 info3 rfl (by decide) (by omega) u5 x5_1 (Go.bits .and .i64 (ji7) 1) [.int .i64 (Go.bits .and .i64 (ji7) 1)] (fun _ => True) (fun _ => False) rfl rfl ?aP (fun _ hk => hk.elim) ?aF ?aO ?aB ?aS ?aL ?_; (case aP => exact rfl); (case aB => exact (xH HB.out)); (case aF => exact (fun _ _ => trivial)); (case aO => exact (xR HO_5.out)); (case aS => exact (below_size (xH HB.out))); (case aL => have := LMc8.out; omega); intro v300 w9 ho hb hg hat; rw [← Ny299.out] at ho; replace HB := aM (hb); have HO301 := aM (ho); clear HO_5; clear ho hb hg hat))
      go_roundg k1
      case measure => have := HK1.out; omega
      case rel => exact ⟨(y299), (wrap64 (x6_1 + 1)), (by first | rfl | (simp; done) | (simp [*]; done)), H', ⟨by have := HK1.out; omega⟩, ⟨xR HO301.out⟩, ⟨xH HB.out⟩⟩
     ·
      rw [if_neg c8] at H
      exact absurd H (by simp)
    ·
     rw [if_neg c6] at H
     exact absurd H (by simp)
   ·
    rw [if_neg c5] at H
    have c5b0 : decide (x6_1 < a0) = false := decide_eq_false c5
    clear c5
    obtain rfl := Option.some.inj H
    go_wp2
    go_ret
    exact ⟨_, by first | rfl | (simp [errW_none, errW_some] <;> rfl) | (simp [*, errW_none, errW_some] <;> rfl), by (with_reducible repeat (first | apply rA | apply rN | apply rD)); exact HO_5.out, by repeat (first | (with_reducible first | exact HB.out | apply eA | apply eN | apply eD) | exact HB.out)⟩
def spec_l2Told.l0 : Nat → Int → List Int → Int → List (List Int) → List Int → Option ((List (List Int)) × List Int)
 | 0, _, _, _, _, _ => none
 | k + 1, x0, x1, x6, x310000, x310001 => if x6 < (x1.length : Int) then ((spec_l2BitPoint.f k x0 x6).bind fun t310 => (if x310000.length < 5864062014805 then (if 0 ≤ x6 then (if x310001.length < 17592186044416 then (spec_l2Told.l0 k x0 x1 (wrap64 (x6 + 1)) (x310000 ++ [t310]) (x310001 ++ [wrap64 ((wrap64 (2 * (rd x1 x6))) - 1)])) else (none)) else (none)) else (none))) else (some (x310000, x310001))
def spec_l2Told.f (k : Nat) (a0 : Int) (l1 : List Int) : Option ((List (List Int)) × List Int) := spec_l2Told.l0 k a0 l1 0 (([] : List (List Int))) (([] : List Int))
def spec_l2Told.T5 : Bool × List (List Nat × List Nat) := (true, [([], []), ([0], [0]), ([], []), ([], []), ([2, 3], [2, 3]), ([4], [4]), ([1, 5, 4], [1, 5]), ([0, 1, 2, 3, 4, 5, 6], []), ([7, 6, 6, 0, 1, 2, 3, 4, 5, 6], [6, 7])])
def spec_l2Told.B5 : List Nat := [0, 1, 0, 0, 12, 28, 63, 127, 255]
theorem spec_l2Told.tab5 : rtab .any (opsOf Try.f26 5) = spec_l2Told.T5 := by kernel_rfl
theorem spec_l2Told.bits5 : waitsOk spec_l2Told.T5.2 spec_l2Told.B5 = true := by kernel_rfl
def spec_l2Told.T6 : Bool × List (List Nat × List Nat) := (true, [([], []), ([0], [0]), ([], []), ([], []), ([2, 3], [2, 3]), ([4], [4]), ([5], [5]), ([6], [6]), ([7], [7]), ([1, 8], [1, 8]), ([0, 1, 2, 3, 4, 5, 6, 7, 8, 9], []), ([10, 9, 9, 0, 1, 2, 3, 4, 5, 6, 7, 8, 9], [9, 10])])
def spec_l2Told.B6 : List Nat := [0, 1, 0, 0, 12, 28, 60, 124, 252, 511, 1023, 2047]
theorem spec_l2Told.tab6 : rtab .any (opsOf Try.f26 6) = spec_l2Told.T6 := by kernel_rfl
theorem spec_l2Told.bits6 : waitsOk spec_l2Told.T6.2 spec_l2Told.B6 = true := by kernel_rfl
set_option maxHeartbeats 8000000 in
set_option maxRecDepth 100000 in
theorem spec_l2Told.calls (k : Nat) (a0 : Int) (A1 : Option Addr) (c1 : Nat) (l1 : List Int) (r1 : List (List Int)) (r2 : List Int) (w : World) (hr1 : Kd.C (Kd.int .i64) w A1 l1.length l1) (hc1 : l1.length ≤ c1) (h : spec_l2Told.f k a0 l1 = some (r1, r2)) :
  Calls Try.prog 26 #[.int .i64 a0, .slice A1 l1.length c1] w fun e w' => ∃ v0_ v1_ : Value, e = .returned (.agg #[v0_, v1_]) ∧ Kd.S (Kd.slice 3 (Kd.int .i64)) 22 w' w.heap.size (fun k_ => some k_ ≠ (v1_ : Value).ownBlock) v0_ r1 ∧ Kd.R (Kd.int .i64) 3 w' w.heap.size (fun _ => True) v1_ r2 ∧ Below w.heap.size w w' := by
 have hu43 := Try.underlying43
 have HR1 := aM hr1
 have HC1 := aM hc1
 clear hr1 hc1
 have HB := aM (Below.refl w.heap.size w)
 have H : (spec_l2Told.l0 k a0 l1 0 (([] : List (List Int))) (([] : List Int))) = some (r1, r2) := h
 clear h
 obtain ⟨y303, hy303⟩ : ∃ y_ : List (List Int), y_ = (([] : List (List Int))) := ⟨_, rfl⟩
 replace H : (spec_l2Told.l0 k a0 l1 0 y303 (([] : List Int))) = some (r1, r2) := by first | (rw [hy303]; with_reducible exact H) | (have H2_ := (Option.bind_some _ _).symm.trans H; rw [hy303]; with_reducible exact H2_) | (have H2_ := (Option.bind_some _ _).symm.trans H; with_reducible exact H2_) | with_reducible exact H | (rw [hy303]; exact H) | exact H
 have Ny303 := aM hy303
 clear hy303
 obtain ⟨y306, hy306⟩ : ∃ y_ : List Int, y_ = (([] : List Int)) := ⟨_, rfl⟩
 replace H : (spec_l2Told.l0 k a0 l1 0 y303 y306) = some (r1, r2) := by first | (rw [hy306]; with_reducible exact H) | (have H2_ := (Option.bind_some _ _).symm.trans H; rw [hy306]; with_reducible exact H2_) | (have H2_ := (Option.bind_some _ _).symm.trans H; with_reducible exact H2_) | with_reducible exact H | (rw [hy306]; exact H) | exact H
 have Ny306 := aM hy306
 clear hy306
 have H' := aM H
 clear H
 go_enter Try.func26, Try.ntmps26
 go_wp2_with (first | ((with_reducible refine gate_dst (N := 4) rfl ?_); refine box_event ?hg (N := 4) ?hd (cs := #[.slice none 0 0, .slice none 0 0]) (t := 43) ?hr ?_; (case hd => rfl); (case hg => rfl); (case hr => first | (go_simp; done) | (go_simp; rfl)); intro gb302 hg w3 hbox hb; have BK302 := aM (hbox); have GW302 := aM ((by rw [hg]; exact (below_size (xH HB.out)) : w.heap.size ≤ gb302)); have GE302 := aM ((by rw [hg]; exact (below_size (xH HB.out)) : w.heap.size ≤ gb302)); replace HB := aM (below_step (xH HB.out) hb); clear hb hbox hg) | ((with_reducible refine gate_dst (N := 7) rfl ?_); refine Kd.S_lit (Kd.slice 3 (Kd.int .i64)) _ 22 ?hg (N := 7) ?hd (xs := ([] : List (List Int))) (inner := []) (ok := fun _ => True) (okp := fun _ => True) ?hr ?hp (fun _ hk => hk) trivial (Below.refl _ _) (Nat.le_refl _) (by simp) ?_; (case hd => rfl); (case hg => rfl); (case hr => first | (go_simp; done) | (go_simp; rfl)); (case hp => exact (Reps.none _ _)); intro v304 w4 ho5 hb hg_ hnew_; clear hg_ hnew_; (first | rw [← Ny303.out] at ho5 | (simp only [Int.reduceToNat] at ho5; rw [← Ny303.out] at ho5)); have HO305 := aM (Kd.S_lower ho5 (below_size (xG1 HB.out GE302.out))); replace BK302 := aM (bB (g := gb302) (o := .cells #[.slice none 0 0, .slice none 0 0] 43 (0, 0)) (xB BK302.out) hb); replace HB := aM (below_step (xG1 HB.out GE302.out) hb); clear hb ho5) | ((with_reducible refine gate_dst (N := 8) rfl ?_); refine Kd.R_lit (Kd.int .i64) _ 3 ?hg (N := 8) ?hd (xs := ([] : List Int)) (inner := []) (ok := fun _ => True) (okp := fun _ => True) ?hr ?hp (fun _ hk => hk) trivial (Below.refl _ _) (Nat.le_refl _) (by simp) ?_; (case hd => rfl); (case hg => rfl); (case hr => first | (go_simp; done) | (go_simp; rfl)); (case hp => exact (Reps.none _ _)); intro v307 w6 ho7 hb hg_ hnew_; clear hg_ hnew_; (first | rw [← Ny306.out] at ho7 | (simp only [Int.reduceToNat] at ho7; rw [← Ny306.out] at ho7)); replace HO305 := aM (Kd.S_elder' (xS HO305.out) (Kd.R_base ho7) hb); have HO308 := aM (Kd.R_lower ho7 (below_size (xG1 HB.out GE302.out))); replace BK302 := aM (bB (g := gb302) (o := .cells #[.slice none 0 0, .slice none 0 0] 43 (0, 0)) (xB BK302.out) hb); replace HB := aM (below_step (xG1 HB.out GE302.out) hb); clear hb ho7; obtain ⟨Ao8, co8, eo8⟩ := Kd.R_slice HO308.out; subst eo8; obtain ⟨Ao9, co9, eo9⟩ := Kd.S_slice HO305.out; subst eo9) | ((with_reducible refine gate_dst (N := 5) rfl ?_); refine box_event ?hg (N := 5) ?hd (cs := #[.slice none 0 0, .slice none 0 0]) (t := 43) ?hr ?_; (case hd => rfl); (case hg => rfl); (case hr => first | (go_simp; done) | (go_simp; rfl)); intro gb309 hg w10 hbox hb; replace HO305 := aM (Kd.S_below (xS HO305.out) hb); replace HO308 := aM (Kd.R_below (xR HO308.out) hb); have BK309 := aM (hbox); have GW309 := aM ((by rw [hg]; exact (below_size (xG1 HB.out GE302.out)) : w.heap.size ≤ gb309)); have GE309 := aM ((by rw [hg]; exact (below_size (xG1 HB.out GE302.out)) : w.heap.size ≤ gb309)); replace HB := aM (below_step (xG1 HB.out GE302.out) hb); have NB302_309 := aM ((by rw [hg]; exact Nat.ne_of_lt (blk_lt (g := gb302) (o := .cells #[.slice none 0 0, .slice none 0 0] 43 (0, 0)) (xB BK302.out)) : gb302 ≠ gb309)); have NB309_302 := aM ((by rw [hg]; exact Nat.ne_of_gt (blk_lt (g := gb302) (o := .cells #[.slice none 0 0, .slice none 0 0] 43 (0, 0)) (xB BK302.out)) : gb309 ≠ gb302)); replace BK302 := aM (bB (g := gb302) (o := .cells #[.slice none 0 0, .slice none 0 0] 43 (0, 0)) (xB BK302.out) hb); clear hb hbox hg; have hnb11 := NB309_302.out; have hnc11 := NB302_309.out; have hcz12_0 : w10.cell? ⟨gb309, 0, none⟩ = some (.slice none 0 0) := (bC BK309.out 0).trans rfl; have hcz12_1 : w10.cell? ⟨gb309, 1, none⟩ = some (.slice none 0 0) := (bC BK309.out 1).trans rfl; have hfz12_0 := bF BK309.out 0; have hfz12_1 := bF BK309.out 1))
 go_loopg [6] k (fun kq v6 w' => ∃ (x6_1 : Int) (x310000_1 : List (List Int)) (x310001_1 : List Int) (u310000 : Value) (u310001 : Value), v6 = .int .i64 x6_1 ∧ Aside0 (spec_l2Told.l0 kq a0 l1 x6_1 x310000_1 x310001_1 = some (r1, r2)) ∧ Aside0 (kq ≤ k) ∧ Aside0 (Kd.S (Kd.slice 3 (Kd.int .i64)) 22 w' w.heap.size (fun k_ => some k_ ≠ (u310001 : Value).ownBlock) u310000 x310000_1) ∧ Aside0 (Kd.R (Kd.int .i64) 3 w' w.heap.size (fun _ => True) u310001 x310001_1) ∧ Aside0 (w'.heap[gb302]? = some (.cells #[(.slice none 0 0), (.slice none 0 0)] 43 (0, 0))) ∧ Aside0 (w'.heap[gb309]? = some (.cells #[u310000, u310001] 43 (0, 0))) ∧ Aside0 (Below w.heap.size w w'))
 case atStart => exact ⟨(0), (y303), (y306), (.slice Ao9 y303.length co9), (.slice Ao8 y306.length co8), (by first | rfl | (simp; done) | (simp [*]; done)), H', ⟨Nat.le_refl _⟩, ⟨by (with_reducible repeat (first | apply Kd.S_alloc | apply Kd.S_drewN | apply Kd.S_drew)); exact Kd.S_mono (Kd.S_far (p := ⟨gb309, 1, none⟩) (Kd.S_far (p := ⟨gb309, 0, none⟩) (Kd.S_types HO305.out BK309.out (by decide)) (fun _ hk => hk.2) (.slice Ao9 y303.length co9)) (fun _ hk => hk.2) (.slice Ao8 y306.length co8)) (fun _ hk => hk.1.2)⟩, ⟨by (with_reducible repeat (first | apply rA | apply rN | apply rD)); exact rM (Kd.R_far (p := ⟨gb309, 1, none⟩) (Kd.R_far (p := ⟨gb309, 0, none⟩) (Kd.R_types HO308.out BK309.out (by decide)) (fun _ hk => hk.2) (.slice Ao9 y303.length co9)) (fun _ hk => hk.2) (.slice Ao8 y306.length co8)) (fun _ hk => trivial)⟩, ⟨by (with_reducible repeat (first | refine bN ?_ _ | refine bD ?_ | refine bA ?_ _)); refine blk_far ?_ NB302_309.out _; (with_reducible repeat (first | refine bN ?_ _ | refine bD ?_ | refine bA ?_ _)); refine blk_far ?_ NB302_309.out _; (with_reducible repeat (first | refine bN ?_ _ | refine bD ?_ | refine bA ?_ _)); exact BK302.out⟩, ⟨by (with_reducible repeat (first | refine bN ?_ _ | refine bD ?_ | refine bA ?_ _)); refine blk_put (cs := #[.slice Ao9 y303.length co9, .slice none 0 0]) ?_ 1 _ rfl; (with_reducible repeat (first | refine bN ?_ _ | refine bD ?_ | refine bA ?_ _)); refine blk_put (cs := #[.slice none 0 0, .slice none 0 0]) ?_ 0 _ rfl; (with_reducible repeat (first | refine bN ?_ _ | refine bD ?_ | refine bA ?_ _)); exact BK309.out⟩, ⟨xG2 HB.out GE302.out GE309.out⟩⟩
 case round =>
  clear H'
  try clear c1; try clear c2; try clear hcz12_0; try clear hcz12_1; try clear hfz12_0; try clear hfz12_1
  obtain ⟨x6_1, x310000_1, x310001_1, u310000, u310001, rfl, HA, HK1, HO_310000, HO_310001, BK302, BK309, HB⟩ := hrel
  cases gk with
  | zero => exact absurd HA.out (by simp [spec_l2Told.l0])
  | succ k1 =>
   have H := HA.out
   clear HA
   simp only [spec_l2Told.l0] at H
   by_cases c13 : x6_1 < (l1.length : Int)
   ·
    rw [if_pos c13] at H
    have c13b0 : decide (x6_1 < (l1.length : Int)) = true := decide_eq_true c13
    clear c13
    replace H := oB.mp H
    obtain ⟨t310, A140, H⟩ := H
    replace H : (if x310000_1.length < 5864062014805 then (if 0 ≤ x6_1 then (if x310001_1.length < 17592186044416 then (spec_l2Told.l0 k1 a0 l1 (wrap64 (x6_1 + 1)) (x310000_1 ++ [t310]) (x310001_1 ++ [wrap64 ((wrap64 (2 * (rd l1 x6_1))) - 1)])) else (none)) else (none)) else (none)) = some (r1, r2) := H
    have A14 := aM A140
    clear A140
    by_cases c15 : x310000_1.length < 5864062014805
    ·
     rw [if_pos c15] at H
     have LMc15 := aM c15
     clear c15
     obtain ⟨y313, hy313⟩ : ∃ y_ : List (List Int), y_ = (x310000_1 ++ [t310]) := ⟨_, rfl⟩
     replace H : (if 0 ≤ x6_1 then (if x310001_1.length < 17592186044416 then (spec_l2Told.l0 k1 a0 l1 (wrap64 (x6_1 + 1)) y313 (x310001_1 ++ [wrap64 ((wrap64 (2 * (rd l1 x6_1))) - 1)])) else (none)) else (none)) = some (r1, r2) := by first | (rw [hy313]; with_reducible exact H) | (have H2_ := (Option.bind_some _ _).symm.trans H; rw [hy313]; with_reducible exact H2_) | (have H2_ := (Option.bind_some _ _).symm.trans H; with_reducible exact H2_) | with_reducible exact H | (rw [hy313]; exact H) | exact H
     have Ny313 := aM hy313
     clear hy313
     by_cases c16 : 0 ≤ x6_1
     ·
      rw [if_pos c16] at H
      have c16b0 : decide (0 ≤ x6_1) = true := decide_eq_true c16
      clear c16
      by_cases c17 : x310001_1.length < 17592186044416
      ·
       rw [if_pos c17] at H
       have LMc17 := aM c17
       clear c17
       obtain ⟨y317, hy317⟩ : ∃ y_ : List Int, y_ = (x310001_1 ++ [wrap64 ((wrap64 (2 * (rd l1 x6_1))) - 1)]) := ⟨_, rfl⟩
       replace H : (spec_l2Told.l0 k1 a0 l1 (wrap64 (x6_1 + 1)) y313 y317) = some (r1, r2) := by first | (rw [hy317]; with_reducible exact H) | (have H2_ := (Option.bind_some _ _).symm.trans H; rw [hy317]; with_reducible exact H2_) | (have H2_ := (Option.bind_some _ _).symm.trans H; with_reducible exact H2_) | with_reducible exact H | (rw [hy317]; exact H) | exact H
       have Ny317 := aM hy317
       clear hy317
       have H' := aM H
       clear H
       try go_wp2
       have n0_ := aM (Kd.S_drew HO_310000.out)
       have n1_ := aM (rD HO_310001.out)
       have n2_ := aM (bD BK302.out)
       have n3_ := aM (bD BK309.out)
       have n4_ := aM (eD HB.out)
       clear HO_310000 HO_310001 BK302 BK309 HB
       have HO_310000 := n0_
       have HO_310001 := n1_
       have BK302 := n2_
       have BK309 := n3_
       have HB := n4_
       clear n0_ n1_ n2_ n3_ n4_
       refine start_ (n := 9) (S := fun w' => w'.cell? ⟨gb309, 0, none⟩ = some (u310000) ∧ w'.cell? ⟨gb309, 1, none⟩ = some (u310001)) (ds := [8]) #[false, false, false, false, false, false, false, false, false] (by kernel_rfl) rfl rfl ⟨(bC BK309.out 0).trans rfl, (bC BK309.out 1).trans rfl⟩ (fun hHeld => ?_); refine with_tabW spec_l2Told.tab5 spec_l2Told.bits5 (fun HT_ HW_ => ?_)
       generalize wr.drew = w18 at HO_310000 HO_310001 BK302 BK309 HB hHeld ⊢
       refine pure_ (i := 0) (N := some 16) (v := ?_) (a' := ?_) #[true, false, false, false, false, false, false, false, false] rfl rfl (any_of HT_.out (by kernel_rfl)) (fun _ _ _ h => h) (Or.inl ⟨by rfl, ?_⟩) ?_ ?_
       rotate_left
       ·
        intro w'
        go_simp
        with_reducible rfl
       rotate_left
       ·
        simp only [Act.put, sA, sZ, sU, i64_w, i32_w]
        rfl
       refine pure_ (i := 2) (N := some 18) (v := ?_) (a' := ?_) #[true, false, true, false, false, false, false, false, false] rfl rfl (any_of HT_.out (by kernel_rfl)) (fun _ _ _ h => h) (Or.inl ⟨by rfl, ?_⟩) ?_ ?_
       rotate_left
       ·
        intro w'
        go_simp
        with_reducible rfl
       rotate_left
       ·
        simp only [Act.put, sA, sZ, sU, i64_w, i32_w]
        rfl
       refine pure_ (i := 3) (N := some 19) (v := ?_) (a' := ?_) #[true, false, true, true, false, false, false, false, false] rfl rfl (any_of HT_.out (by kernel_rfl)) (fun _ _ _ h => h) (Or.inl ⟨by rfl, ?_⟩) ?_ ?_
       rotate_left
       ·
        intro w'
        go_simp
        with_reducible rfl
       rotate_left
       ·
        simp only [Act.put, sA, sZ, sU, i64_w, i32_w]
        rfl
       refine take_ (i := 1) (N := some 17) (v := ?_) (a' := ?_) #[true, true, true, true, false, false, false, false, false] rfl rfl (take_ofW HT_.out HW_.out (by kernel_rfl)) (fun _ _ _ h => h) (Or.inl ⟨by rfl, ?_⟩) hHeld ?_ ?_
       rotate_left
       ·
        rintro w' ⟨s0, s1⟩
        first | (go_simp; with_reducible rfl) | (simp only [add_plain] at s0 s1; go_simp; with_reducible rfl)
       rotate_left
       ·
        simp only [Act.put, sA, sZ, sU, i64_w, i32_w]
        rfl
       refine one_ (i := 4) (N := some 20) #[true, true, true, true, true, false, false, false, false] rfl rfl (one_of HT_.out (by kernel_rfl)) (by decide) (fun K hK => ?_)
       refine goes_ Try.func53 (by kernel_rfl) rfl #[.int .i64 a0, .int .i64 x6_1] (by rfl) rfl rfl xL ?_
       with_reducible refine (spec_l2BitPoint.calls k1 a0 x6_1 t310 _ A14.out).mono ?_
       rintro e w19 ⟨v311, rfl, ho0, hb⟩
       refine ⟨_, rfl, ?_⟩
       have n0_ := aM (Kd.S_elder' (xS HO_310000.out) (Kd.R_base ho0) hb)
       have n1_ := aM (Kd.R_elder' (xR HO_310001.out) (Kd.R_base ho0) hb)
       have n2_ := aM (Kd.R_lower (Kd.R_new' ho0 (Kd.R_lt (xR HO_310001.out))) (below_size (xG2 HB.out GE302.out GE309.out)))
       have n3_ := aM (bB (g := gb302) (o := .cells #[.slice none 0 0, .slice none 0 0] 43 (0, 0)) (xB BK302.out) hb)
       have n4_ := aM (bB (g := gb309) (o := .cells #[u310000, u310001] 43 (0, 0)) (xB BK309.out) hb)
       have n5_ := aM (below_step (xG2 HB.out GE302.out GE309.out) hb)
       clear HO_310000 HO_310001 BK302 BK309 HB
       have HO_310000 := n0_
       have HO_310001 := n1_
       have HO312 := n2_
       have BK302 := n3_
       have BK309 := n4_
       have HB := n5_
       clear n0_ n1_ n2_ n3_ n4_ n5_
       (try clear hb)
       (try clear hb2)
       (try clear hk)
       (try clear hi)
       (try clear ho0)
       obtain ⟨Ao21, co21, eo21⟩ := Kd.R_slice HO312.out
       (first | subst eo21 | (injection eo21 with f1_ f2_ f3_; have f4_ := f1_.symm; have f5_ := f3_.symm; clear f1_ f2_ f3_; subst f4_; subst f5_))
       refine hK.out _ _ ⟨(bC BK309.out 0).trans rfl, (bC BK309.out 1).trans rfl⟩ (fun hHeld => ?_)
       clear hK K
       refine norm_ (a' := ?_) ?_ ?_
       rotate_left
       ·
        show Act.put _ (some 20) _ = _
        simp only [Act.put, sA, sZ, sU, i64_w, i32_w]
        rfl
       refine one_ (i := 5) (N := some 21) #[true, true, true, true, true, true, false, false, false] rfl rfl (one_of HT_.out (by kernel_rfl)) (by decide) (fun K hK => ?_)
       refine value_ (w1 := ?_) (v := ?_) (by rfl) rfl ?_ ?_
       rotate_left 2
       ·
        go_simp
        constructor
        ·
         rfl
        ·
         rfl
       refine hK.out _ _ ⟨(bC (bA BK309.out _) 0).trans rfl, (bC (bA BK309.out _) 1).trans rfl⟩ (fun hHeld => ?_)
       clear hK K
       refine norm_ (a' := ?_) ?_ ?_
       rotate_left
       ·
        show Act.put _ (some 21) _ = _
        simp only [Act.put, sA, sZ, sU, i64_w, i32_w]
        rfl
       refine one_ (i := 6) (N := some 22) #[true, true, true, true, true, true, true, false, false] rfl rfl (one_of HT_.out (by kernel_rfl)) (by decide) (fun K hK => ?_)
       refine Kd.S_append_step (Kd.slice 3 (Kd.int .i64)) (w0 := w) w.heap.size (by rfl) (.tmp 17) (.tmp 21) 32 22 (.slice none 0 0) 24 rfl Try.underlying32 info22 rfl (by decide) (by omega) u310000 x310000_1 t310 [.slice Ao21 t310.length co21] (fun k_ => some k_ ≠ (u310001 : Value).ownBlock) (fun k_ => some k_ = (.slice Ao21 t310.length co21 : Value).ownBlock) rfl rfl ?aP (fun k_ hk_ => ((rM (ok' := fun k_ => ((fun k_ => some k_ ≠ (u310001 : Value).ownBlock)) k_ ∧ some k_ ≠ (u310000 : Value).ownBlock) (Kd.R_apart' (HO312.out) (Kd.S_typed HO_310000.out) (by decide)) (fun k_ hk => ⟨hk.1.2, hk.2⟩))).1 k_ hk_.symm) ?aF ?aO ?aB ?aS ?aL ?_
       (case aP => exact Kd.M_row (rM (Kd.R_tight rfl (rM (ok' := fun k_ => ((fun k_ => some k_ ≠ (u310001 : Value).ownBlock)) k_ ∧ some k_ ≠ (u310000 : Value).ownBlock) (Kd.R_apart' (HO312.out) (Kd.S_typed HO_310000.out) (by decide)) (fun k_ hk => ⟨hk.1.2, hk.2⟩))) (fun _ h_ => h_)))
       (case aB => exact (xG2 HB.out GE302.out GE309.out))
       (case aF => exact (fun k_ hk => Kd.fresh' (Kd.R_lt (xR HO_310001.out)) k_ hk))
       (case aO => exact (by (with_reducible repeat (first | apply Kd.S_alloc | apply Kd.S_drewN | apply Kd.S_drew)); exact Kd.S_mono HO_310000.out (fun k_ hk => ⟨hk.1, fun e_ => hk.2 e_⟩)))
       (case aS => exact (below_size (xG2 HB.out GE302.out GE309.out)))
       (case aL => have := LMc15.out; omega)
       intro v314 w20 ho hb hg hat
       rw [← Ny313.out] at ho
       have n0_ := aM (Kd.R_over' (xR HO_310001.out) (Kd.S_typed (xS HO_310000.out)) (by decide) hg)
       have n1_ := aM (blk_grown (g := gb302) (o := .cells #[.slice none 0 0, .slice none 0 0] 43 (0, 0)) (xB BK302.out) hg (Kd.S_ne HO_310000.out BK302.out (by decide)))
       have n2_ := aM (blk_grown (g := gb309) (o := .cells #[u310000, u310001] 43 (0, 0)) (xB BK309.out) hg (Kd.S_ne HO_310000.out BK309.out (by decide)))
       have n3_ := aM (hb)
       have n4_ := aM (ho)
       clear HO_310001 BK302 BK309 HB HO_310000 HO312
       have HO_310001 := n0_
       have BK302 := n1_
       have BK309 := n2_
       have HB := n3_
       have HO315 := n4_
       clear n0_ n1_ n2_ n3_ n4_ ho hb hg hat
       obtain ⟨Ao22, co22, eo22⟩ := Kd.S_slice HO315.out
       (first | subst eo22 | (injection eo22 with f1_ f2_ f3_; have f4_ := f1_.symm; have f5_ := f3_.symm; clear f1_ f2_ f3_; subst f4_; subst f5_))
       refine hK.out _ _ ⟨(bC BK309.out 0).trans rfl, (bC BK309.out 1).trans rfl⟩ (fun hHeld => ?_)
       clear hK K
       refine norm_ (a' := ?_) ?_ ?_
       rotate_left
       ·
        show Act.put _ (some 22) _ = _
        simp only [Act.put, sA, sZ, sU, i64_w, i32_w]
        rfl
       refine pure_ (i := 7) (N := some 23) (v := ?_) (a' := ?_) #[true, true, true, true, true, true, true, true, false] rfl rfl (any_of HT_.out (by kernel_rfl)) (fun _ _ _ h => h) (Or.inl ⟨by rfl, ?_⟩) ?_ ?_
       rotate_left
       ·
        intro w'
        go_simp
        with_reducible rfl
       rotate_left
       ·
        simp only [Act.put, sA, sZ, sU, i64_w, i32_w]
        rfl
       refine last_ (i := 8) (N := none) #[true, true, true, true, true, true, true, true, true] rfl rfl (one_of HT_.out (by kernel_rfl)) (by decide) (fun K hK => ?_)
       have hs23 : w20.cell? ⟨gb309, 0, none⟩ = some (u310000) := (bC BK309.out 0).trans rfl
       have hfs23 := bF BK309.out 0
       have hns23_0 := NB302_309.out
       have hms23_0 := NB309_302.out
       refine skip_ (w1 := ?_) (by rfl) rfl ?_ ?_
       rotate_left
       ·
        go_simp
        rfl
       refine hK.out _ _ ?_
       clear hK K
       refine done_ (done_of HT_.out (by kernel_rfl)) ?_
       try go_wp2
       have n0_ : Aside0 (Kd.R (Kd.int .i64) 3 (w20.setCell ⟨gb309, 0, none⟩ (.slice Ao22 y313.length co22)) w.heap.size (fun _ => True) u310001 x310001_1) := ⟨by (with_reducible repeat (first | apply rA | apply rN | apply rD)); exact rM (Kd.R_far (p := ⟨gb309, 0, none⟩) (Kd.R_types HO_310001.out BK309.out (by decide)) (fun _ hk => hk.2) (.slice Ao22 y313.length co22)) (fun _ hk => trivial)⟩
       have n1_ : Aside0 (Kd.S (Kd.slice 3 (Kd.int .i64)) 22 (w20.setCell ⟨gb309, 0, none⟩ (.slice Ao22 y313.length co22)) w.heap.size (fun k_ => some k_ ≠ (u310001 : Value).ownBlock) (.slice Ao22 y313.length co22) y313) := ⟨by (with_reducible repeat (first | apply Kd.S_alloc | apply Kd.S_drewN | apply Kd.S_drew)); exact Kd.S_mono (Kd.S_far (p := ⟨gb309, 0, none⟩) (Kd.S_types HO315.out BK309.out (by decide)) (fun _ hk => hk.2) (.slice Ao22 y313.length co22)) (fun _ hk => hk.1)⟩
       have n2_ : Aside0 ((w20.setCell ⟨gb309, 0, none⟩ (.slice Ao22 y313.length co22)).heap[gb302]? = some (.cells #[.slice none 0 0, .slice none 0 0] 43 (0, 0))) := ⟨by (with_reducible repeat (first | refine bN ?_ _ | refine bD ?_ | refine bA ?_ _)); refine blk_far ?_ NB302_309.out _; (with_reducible repeat (first | refine bN ?_ _ | refine bD ?_ | refine bA ?_ _)); exact BK302.out⟩
       have n3_ : Aside0 ((w20.setCell ⟨gb309, 0, none⟩ (.slice Ao22 y313.length co22)).heap[gb309]? = some (.cells #[.slice Ao22 y313.length co22, u310001] 43 (0, 0))) := ⟨by (with_reducible repeat (first | refine bN ?_ _ | refine bD ?_ | refine bA ?_ _)); refine blk_put (cs := #[u310000, u310001]) ?_ 0 _ rfl; (with_reducible repeat (first | refine bN ?_ _ | refine bD ?_ | refine bA ?_ _)); exact BK309.out⟩
       have n4_ : Aside0 (Below w.heap.size w (w20.setCell ⟨gb309, 0, none⟩ (.slice Ao22 y313.length co22))) := ⟨xG2 HB.out GE302.out GE309.out⟩
       (try clear HO_310001)
       (try clear HO315)
       (try clear BK302)
       (try clear BK309)
       (try clear HB)
       generalize (w20.setCell ⟨gb309, 0, none⟩ (.slice Ao22 y313.length co22)) = w24 at n0_ n1_ n2_ n3_ n4_ ⊢
       have HO_310001 := n0_
       have HO315 := n1_
       have BK302 := n2_
       have BK309 := n3_
       have HB := n4_
       clear n0_ n1_ n2_ n3_ n4_
       have n0_ := aM (rD HO_310001.out)
       have n1_ := aM (Kd.S_drew HO315.out)
       have n2_ := aM (bD BK302.out)
       have n3_ := aM (bD BK309.out)
       have n4_ := aM (eD HB.out)
       clear HO_310001 HO315 BK302 BK309 HB
       have HO_310001 := n0_
       have HO315 := n1_
       have BK302 := n2_
       have BK309 := n3_
       have HB := n4_
       clear n0_ n1_ n2_ n3_ n4_
       have p316 : 0 ≤ (x6_1 : Int) := of_decide_eq_true (by first | (with_reducible assumption) | assumption)
       have q316 : x6_1 < (l1.length : Int) := of_decide_eq_true (by first | (with_reducible assumption) | assumption)
       obtain ⟨ad316, e316, hx316_0⟩ := Kd.at_int HR1.out x6_1 p316 q316
       have hw316_0 := hx316_0
       cases e316
       replace hx316_0 := (HB.out.cell (World.block_lt_of_cell? w _ hx316_0)).trans hx316_0
       replace p316 := eq_true p316
       replace q316 := eq_true q316
       refine start_ (n := 12) (S := fun w' => w'.cell? ⟨gb309, 0, none⟩ = some (.slice Ao22 y313.length co22) ∧ w'.cell? ⟨gb309, 1, none⟩ = some (u310001) ∧ w'.cell? (ad316.add (x6_1).toNat) = some (.int .i64 (rd l1 x6_1))) (ds := [11]) #[false, false, false, false, false, false, false, false, false, false, false, false] (by kernel_rfl) rfl rfl ⟨(bC BK309.out 0).trans rfl, (bC BK309.out 1).trans rfl, ((HB.out.cell (World.block_lt_of_cell? w _ hw316_0)).trans hw316_0)⟩ (fun hHeld => ?_); refine with_tabW spec_l2Told.tab6 spec_l2Told.bits6 (fun HT_ HW_ => ?_)
       generalize w24.drew = w25 at HO_310001 HO315 BK302 BK309 HB hx316_0 hHeld ⊢
       refine pure_ (i := 0) (N := some 24) (v := ?_) (a' := ?_) #[true, false, false, false, false, false, false, false, false, false, false, false] rfl rfl (any_of HT_.out (by kernel_rfl)) (fun _ _ _ h => h) (Or.inl ⟨by rfl, ?_⟩) ?_ ?_
       rotate_left
       ·
        intro w'
        go_simp
        with_reducible rfl
       rotate_left
       ·
        simp only [Act.put, sA, sZ, sU, i64_w, i32_w]
        rfl
       refine pure_ (i := 2) (N := some 26) (v := ?_) (a' := ?_) #[true, false, true, false, false, false, false, false, false, false, false, false] rfl rfl (any_of HT_.out (by kernel_rfl)) (fun _ _ _ h => h) (Or.inl ⟨by rfl, ?_⟩) ?_ ?_
       rotate_left
       ·
        intro w'
        go_simp
        with_reducible rfl
       rotate_left
       ·
        simp only [Act.put, sA, sZ, sU, i64_w, i32_w]
        rfl
       refine pure_ (i := 3) (N := some 27) (v := ?_) (a' := ?_) #[true, false, true, true, false, false, false, false, false, false, false, false] rfl rfl (any_of HT_.out (by kernel_rfl)) (fun _ _ _ h => h) (Or.inl ⟨by rfl, ?_⟩) ?_ ?_
       rotate_left
       ·
        intro w'
        go_simp
        with_reducible rfl
       rotate_left
       ·
        simp only [Act.put, sA, sZ, sU, i64_w, i32_w]
        rfl
       refine pure_ (i := 4) (N := some 28) (v := ?_) (a' := ?_) #[true, false, true, true, true, false, false, false, false, false, false, false] rfl rfl (any_of HT_.out (by kernel_rfl)) (fun _ _ _ h => h) (Or.inl ⟨by rfl, ?_⟩) ?_ ?_
       rotate_left
       ·
        intro w'
        go_simp
        with_reducible rfl
       rotate_left
       ·
        simp only [Act.put, sA, sZ, sU, i64_w, i32_w]
        rfl
       refine take_ (i := 1) (N := some 25) (v := ?_) (a' := ?_) #[true, true, true, true, true, false, false, false, false, false, false, false] rfl rfl (take_ofW HT_.out HW_.out (by kernel_rfl)) (fun _ _ _ h => h) (Or.inl ⟨by rfl, ?_⟩) hHeld ?_ ?_
       rotate_left
       ·
        rintro w' ⟨s0, s1, s2⟩
        first | (go_simp; with_reducible rfl) | (simp only [add_plain] at s0 s1 s2; go_simp; with_reducible rfl)
       rotate_left
       ·
        simp only [Act.put, sA, sZ, sU, i64_w, i32_w]
        rfl
       refine take_ (i := 5) (N := some 29) (v := ?_) (a' := ?_) #[true, true, true, true, true, true, false, false, false, false, false, false] rfl rfl (take_ofW HT_.out HW_.out (by kernel_rfl)) (fun _ _ _ h => h) (Or.inl ⟨by rfl, ?_⟩) hHeld ?_ ?_
       rotate_left
       ·
        rintro w' ⟨s0, s1, s2⟩
        first | (go_simp; with_reducible rfl) | (simp only [add_plain] at s0 s1 s2; go_simp; with_reducible rfl)
       rotate_left
       ·
        simp only [Act.put, sA, sZ, sU, i64_w, i32_w]
        rfl
       refine pure_ (i := 6) (N := some 30) (v := ?_) (a' := ?_) #[true, true, true, true, true, true, true, false, false, false, false, false] rfl rfl (any_of HT_.out (by kernel_rfl)) (fun _ _ _ h => h) (Or.inl ⟨by rfl, ?_⟩) ?_ ?_
       rotate_left
       ·
        intro w'
        go_simp
        with_reducible rfl
       rotate_left
       ·
        simp only [Act.put, sA, sZ, sU, i64_w, i32_w]
        rfl
       refine pure_ (i := 7) (N := some 31) (v := ?_) (a' := ?_) #[true, true, true, true, true, true, true, true, false, false, false, false] rfl rfl (any_of HT_.out (by kernel_rfl)) (fun _ _ _ h => h) (Or.inl ⟨by rfl, ?_⟩) ?_ ?_
       rotate_left
       ·
        intro w'
        go_simp
        with_reducible rfl
       rotate_left
       ·
        simp only [Act.put, sA, sZ, sU, i64_w, i32_w]
        rfl
       refine one_ (i := 8) (N := some 32) #[true, true, true, true, true, true, true, true, true, false, false, false] rfl rfl (one_of HT_.out (by kernel_rfl)) (by decide) (fun K hK => ?_)
       refine value_ (w1 := ?_) (v := ?_) (by rfl) rfl ?_ ?_
       rotate_left 2
       ·
        go_simp
        constructor
        ·
         rfl
        ·
         rfl
       refine hK.out _ _ ⟨(bC (bA BK309.out _) 0).trans rfl, (bC (bA BK309.out _) 1).trans rfl, (World.cell?_alloc_lt _ _ _ (World.block_lt_of_cell? _ _ (((HB.out.cell (World.block_lt_of_cell? w _ hw316_0)).trans hw316_0)))).trans (((HB.out.cell (World.block_lt_of_cell? w _ hw316_0)).trans hw316_0))⟩ (fun hHeld => ?_)
       clear hK K
       refine norm_ (a' := ?_) ?_ ?_
       rotate_left
       ·
        show Act.put _ (some 32) _ = _
        simp only [Act.put, sA, sZ, sU, i64_w, i32_w]
        rfl
       refine one_ (i := 9) (N := some 33) #[true, true, true, true, true, true, true, true, true, true, false, false] rfl rfl (one_of HT_.out (by kernel_rfl)) (by decide) (fun K hK => ?_)
       refine Kd.R_append_step (Kd.int .i64) (w0 := w) w.heap.size (by rfl) (.tmp 25) (.tmp 32) 22 3 (.int .i64 0) 8 rfl Try.underlying22 info3 rfl (by decide) (by omega) u310001 x310001_1 (wrap64 ((wrap64 (2 * (rd l1 x6_1))) - 1)) [.int .i64 (wrap64 ((wrap64 (2 * (rd l1 x6_1))) - 1))] (fun _ => True) (fun _ => False) rfl rfl ?aP (fun _ hk => hk.elim) ?aF ?aO ?aB ?aS ?aL ?_
       (case aP => exact rfl)
       (case aB => exact (xG2 HB.out GE302.out GE309.out))
       (case aF => exact (fun _ _ => trivial))
       (case aO => exact (xR HO_310001.out))
       (case aS => exact (below_size (xG2 HB.out GE302.out GE309.out)))
       (case aL => have := LMc17.out; omega)
       intro v318 w26 ho hb hg hat
       rw [← Ny317.out] at ho
       have n0_ := aM (blk_grown (g := gb302) (o := .cells #[.slice none 0 0, .slice none 0 0] 43 (0, 0)) (xB BK302.out) hg (Kd.R_ne HO_310001.out BK302.out (by decide)))
       have n1_ := aM (blk_grown (g := gb309) (o := .cells #[.slice Ao22 y313.length co22, u310001] 43 (0, 0)) (xB BK309.out) hg (Kd.R_ne HO_310001.out BK309.out (by decide)))
       have n2_ := aM (Kd.S_after (ok := (fun _ => True)) (by (with_reducible repeat (first | apply Kd.S_alloc | apply Kd.S_drewN | apply Kd.S_drew)); exact Kd.S_mono HO315.out (fun _ hk => ⟨trivial, hk⟩)) hg hat)
       have n3_ := aM (hb)
       have n4_ := aM (ho)
       clear BK302 BK309 HO315 HB HO_310001
       have BK302 := n0_
       have BK309 := n1_
       have HO315 := n2_
       have HB := n3_
       have HO319 := n4_
       clear n0_ n1_ n2_ n3_ n4_ ho hb hg hat
       obtain ⟨Ao27, co27, eo27⟩ := Kd.R_slice HO319.out
       (first | subst eo27 | (injection eo27 with f1_ f2_ f3_; have f4_ := f1_.symm; have f5_ := f3_.symm; clear f1_ f2_ f3_; subst f4_; subst f5_))
       refine hK.out _ _ ⟨(bC BK309.out 0).trans rfl, (bC BK309.out 1).trans rfl, ((HB.out.cell (World.block_lt_of_cell? w _ hw316_0)).trans hw316_0)⟩ (fun hHeld => ?_)
       clear hK K
       refine norm_ (a' := ?_) ?_ ?_
       rotate_left
       ·
        show Act.put _ (some 33) _ = _
        simp only [Act.put, sA, sZ, sU, i64_w, i32_w]
        rfl
       refine pure_ (i := 10) (N := some 34) (v := ?_) (a' := ?_) #[true, true, true, true, true, true, true, true, true, true, true, false] rfl rfl (any_of HT_.out (by kernel_rfl)) (fun _ _ _ h => h) (Or.inl ⟨by rfl, ?_⟩) ?_ ?_
       rotate_left
       ·
        intro w'
        go_simp
        with_reducible rfl
       rotate_left
       ·
        simp only [Act.put, sA, sZ, sU, i64_w, i32_w]
        rfl
       refine last_ (i := 11) (N := none) #[true, true, true, true, true, true, true, true, true, true, true, true] rfl rfl (one_of HT_.out (by kernel_rfl)) (by decide) (fun K hK => ?_)
       have hs28 : w26.cell? ⟨gb309, 1, none⟩ = some (u310001) := (bC BK309.out 1).trans rfl
       have hfs28 := bF BK309.out 1
       have hns28_0 := NB302_309.out
       have hms28_0 := NB309_302.out
       refine skip_ (w1 := ?_) (by rfl) rfl ?_ ?_
       rotate_left
       ·
        go_simp
        rfl
       refine hK.out _ _ ?_
       clear hK K
       refine done_ (done_of HT_.out (by kernel_rfl)) ?_
       try go_wp2
       go_roundg k1
       case measure => have := HK1.out; omega
       case rel => exact ⟨(wrap64 (x6_1 + 1)), (y313), (y317), (.slice Ao22 y313.length co22), (.slice Ao27 y317.length co27), (by first | rfl | (simp; done) | (simp [*]; done)), H', ⟨by have := HK1.out; omega⟩, ⟨by (with_reducible repeat (first | apply Kd.S_alloc | apply Kd.S_drewN | apply Kd.S_drew)); exact Kd.S_mono (Kd.S_far (p := ⟨gb309, 1, none⟩) (Kd.S_types HO315.out BK309.out (by decide)) (fun _ hk => hk.2) (.slice Ao27 y317.length co27)) (fun _ hk => hk.1.2)⟩, ⟨by (with_reducible repeat (first | apply rA | apply rN | apply rD)); exact rM (Kd.R_far (p := ⟨gb309, 1, none⟩) (Kd.R_types HO319.out BK309.out (by decide)) (fun _ hk => hk.2) (.slice Ao27 y317.length co27)) (fun _ hk => trivial)⟩, ⟨by (with_reducible repeat (first | refine bN ?_ _ | refine bD ?_ | refine bA ?_ _)); refine blk_far ?_ NB302_309.out _; (with_reducible repeat (first | refine bN ?_ _ | refine bD ?_ | refine bA ?_ _)); exact BK302.out⟩, ⟨by (with_reducible repeat (first | refine bN ?_ _ | refine bD ?_ | refine bA ?_ _)); refine blk_put (cs := #[.slice Ao22 y313.length co22, u310001]) ?_ 1 _ rfl; (with_reducible repeat (first | refine bN ?_ _ | refine bD ?_ | refine bA ?_ _)); exact BK309.out⟩, ⟨xG2 HB.out GE302.out GE309.out⟩⟩
      ·
       rw [if_neg c17] at H
       exact absurd H (by simp)
     ·
      rw [if_neg c16] at H
      exact absurd H (by simp)
    ·
     rw [if_neg c15] at H
     exact absurd H (by simp)
   ·
    rw [if_neg c13] at H
    have c13b0 : decide (x6_1 < (l1.length : Int)) = false := decide_eq_false c13
    clear c13
    simp only [Option.some.injEq, Prod.mk.injEq] at H
    obtain ⟨rfl, rfl⟩ := H
    have hnb29 := NB309_302.out
    have hnc29 := NB302_309.out
    have hcz30_0 : wr.cell? ⟨gb309, 0, none⟩ = some (u310000) := (bC BK309.out 0).trans rfl
    have hcz30_1 : wr.cell? ⟨gb309, 1, none⟩ = some (u310001) := (bC BK309.out 1).trans rfl
    have hfz30_0 := bF BK309.out 0
    have hfz30_1 := bF BK309.out 1
    obtain ⟨Ao31, co31, eo31⟩ := Kd.S_slice HO_310000.out
    subst eo31
    have hcz32_0 : wr.cell? ⟨gb302, 0, none⟩ = some (.slice none 0 0) := (bC BK302.out 0).trans rfl
    have hcz32_1 : wr.cell? ⟨gb302, 1, none⟩ = some (.slice none 0 0) := (bC BK302.out 1).trans rfl
    have hfz32_0 := bF BK302.out 0
    have hfz32_1 := bF BK302.out 1
    obtain ⟨Ao33, co33, eo33⟩ := Kd.R_slice HO_310001.out
    subst eo33
    go_wp2
    refine bodyPost_ret (results_cell_row rfl _ _ gb302 43 #[.slice Ao31 x310000_1.length co31, .slice Ao33 x310001_1.length co33] (0, 0) _ rfl (by (with_reducible repeat (first | refine bN ?_ _ | refine bD ?_ | refine bA ?_ _)); refine blk_put (cs := #[.slice Ao31 x310000_1.length co31, .slice none 0 0]) ?_ 1 _ rfl; (with_reducible repeat (first | refine bN ?_ _ | refine bD ?_ | refine bA ?_ _)); refine blk_put (cs := #[.slice none 0 0, .slice none 0 0]) ?_ 0 _ rfl; (with_reducible repeat (first | refine bN ?_ _ | refine bD ?_ | refine bA ?_ _)); exact BK302.out) Try.underlying43 rfl (by kernel_rfl)) rfl ?_
    exact ⟨_, _, by first | rfl | (simp [errW_none, errW_some] <;> rfl) | (simp [*, errW_none, errW_some] <;> rfl), by (with_reducible repeat (first | apply Kd.S_alloc | apply Kd.S_drewN | apply Kd.S_drew)); exact Kd.S_mono (Kd.S_far (p := ⟨gb302, 1, none⟩) (Kd.S_far (p := ⟨gb302, 0, none⟩) (Kd.S_types HO_310000.out BK302.out (by decide)) (fun _ hk => hk.2) (.slice Ao31 x310000_1.length co31)) (fun _ hk => hk.2) (.slice Ao33 x310001_1.length co33)) (fun _ hk => hk.1), by (with_reducible repeat (first | apply rA | apply rN | apply rD)); exact rM (Kd.R_far (p := ⟨gb302, 1, none⟩) (Kd.R_far (p := ⟨gb302, 0, none⟩) (Kd.R_types HO_310001.out BK302.out (by decide)) (fun _ hk => hk.2) (.slice Ao31 x310000_1.length co31)) (fun _ hk => hk.2) (.slice Ao33 x310001_1.length co33)) (fun _ hk => trivial), xG2 HB.out GE302.out GE309.out⟩
def spec_IsWeighted.f (k : Nat) (a0 : Int) (l1 : List Int) : Option (Bool × Bool) := (spec_l6Valid.f k a0 l1).bind fun t320 => (if t320 = true then ((spec_l2Told.f k a0 l1).bind fun bt321 => ((spec_l4Can.f k bt321.1 bt321.2).bind fun t327 => (some (t327, true)))) else (some (false, false)))
set_option maxHeartbeats 8000000 in
set_option maxRecDepth 100000 in
theorem spec_IsWeighted.calls (k : Nat) (a0 : Int) (A1 : Option Addr) (c1 : Nat) (l1 : List Int) (r1 : Bool) (r2 : Bool) (w : World) (hr1 : Kd.C (Kd.int .i64) w A1 l1.length l1) (hc1 : l1.length ≤ c1) (h : spec_IsWeighted.f k a0 l1 = some (r1, r2)) :
  Calls Try.prog 7 #[.int .i64 a0, .slice A1 l1.length c1] w fun e w' => e = .returned (.tuple #[.bool r1, .bool r2]) ∧ Below w.heap.size w w' := by
 have HR1 := aM hr1
 have HC1 := aM hc1
 clear hr1 hc1
 have HB := aM (Below.refl w.heap.size w)
 have H : ((spec_l6Valid.f k a0 l1).bind fun t320 => (if t320 = true then ((spec_l2Told.f k a0 l1).bind fun bt321 => ((spec_l4Can.f k bt321.1 bt321.2).bind fun t327 => (some (t327, true)))) else (some (false, false)))) = some (r1, r2) := h
 clear h
 replace H := oB.mp H
 obtain ⟨t320, A30, H⟩ := H
 replace H : (if t320 = true then ((spec_l2Told.f k a0 l1).bind fun bt321 => ((spec_l4Can.f k bt321.1 bt321.2).bind fun t327 => (some (t327, true)))) else (some (false, false))) = some (r1, r2) := H
 have A3 := aM A30
 clear A30
 by_cases c4 : t320 = true
 ·
  subst c4
  have H1 : ((spec_l2Told.f k a0 l1).bind fun bt321 => ((spec_l4Can.f k bt321.1 bt321.2).bind fun t327 => (some (t327, true)))) = some (r1, r2) := by rw [if_pos rfl] at H; exact H
  clear H
  have H := H1
  clear H1
  replace H := oB.mp H
  obtain ⟨⟨t321, t324⟩, A50, H⟩ := H
  replace H : ((spec_l4Can.f k t321 t324).bind fun t327 => (some (t327, true))) = some (r1, r2) := H
  have A5 := aM A50
  clear A50
  replace H := oB.mp H
  obtain ⟨t327, A60, H⟩ := H
  replace H : (some (t327, true)) = some (r1, r2) := H
  have A6 := aM A60
  clear A60
  simp only [Option.some.injEq, Prod.mk.injEq] at H
  obtain ⟨rfl, rfl⟩ := H
  go_enter Try.func7, Try.ntmps7
  go_wp2_with (first | ((with_reducible refine gate_callee (f := 24) rfl ?_); refine goesL_ (some 8) rfl rfl Try.func24 (by kernel_rfl) rfl #[.int .i64 a0, .slice A1 l1.length c1] rfl xL ?_; (with_reducible refine (spec_l6Valid.calls k a0 _ _ l1 true _ ?side1 ?side2 A3.out).mono ?_); (case side1 => exact xC HR1.out); (case side2 => exact HC1.out); rintro e w' ⟨rfl, ⟨nd, rfl⟩⟩; refine ⟨_, rfl, ?_⟩) | ((with_reducible refine gate_callee (f := 26) rfl ?_); refine goesL_ (some 12) rfl rfl Try.func26 (by kernel_rfl) rfl #[.int .i64 a0, .slice A1 l1.length c1] rfl xL ?_; (with_reducible refine (spec_l2Told.calls k a0 _ _ l1 t321 t324 _ ?side1 ?side2 A5.out).mono ?_); (case side1 => exact xC HR1.out); (case side2 => exact HC1.out); rintro e w7 ⟨v322, v325, rfl, ho0, ho1, hb⟩; refine ⟨_, rfl, ?_⟩; have HO323 := aM (Kd.S_lower ho0 (below_size (xH HB.out))); have HO326 := aM (Kd.R_lower ho1 (below_size (xH HB.out))); replace HB := aM (below_step (xH HB.out) hb); (try clear hb; try clear hb2; try clear hk; try clear hi; try clear ho0; try clear ho1); obtain ⟨Ao8, co8, eo8⟩ := Kd.S_slice HO323.out; subst eo8; obtain ⟨Ao9, co9, eo9⟩ := Kd.R_slice HO326.out; subst eo9) | ((with_reducible refine gate_callee (f := 25) rfl ?_); refine goesL_ (some 13) rfl rfl Try.func25 (by kernel_rfl) rfl #[.agg #[.slice Ao8 t321.length co8, .slice Ao9 t324.length co9]] rfl xL ?_; (with_reducible refine (spec_l4Can.calls k _ _ t321 _ _ t324 t327 _ ?side1 ?side2 ?side3 ?side4 A6.out).mono ?_); (case side1 => repeat (first | exact (Kd.S_reads' HO323.out).2.2 | (with_reducible refine Kd.C_alloc ?_ _) | (with_reducible refine Kd.C_drewN ?_ _) | (with_reducible refine Kd.C_drew ?_))); (case side2 => exact (Kd.S_reads' HO323.out).2.1); (case side3 => exact xC (Kd.R_reads' HO326.out).2.2); (case side4 => exact (Kd.R_reads' HO326.out).2.1); rintro e w10 ⟨rfl, hb⟩; refine ⟨_, rfl, ?_⟩; replace HO323 := aM (Kd.S_below (xS HO323.out) hb); replace HO326 := aM (Kd.R_below (xR HO326.out) hb); replace HB := aM (below_step (xH HB.out) hb); (try clear hb; try clear hb2; try clear hk; try clear hi)))
  go_ret2
  exact ⟨by first | rfl | (simp [errW_none, errW_some] <;> rfl) | (simp [*, errW_none, errW_some] <;> rfl), by repeat (first | (with_reducible first | exact HB.out | apply eA | apply eN | apply eD) | exact HB.out)⟩
 ·
  replace c4 := Bool.eq_false_iff.mpr c4
  subst c4
  have H1 : (some (false, false)) = some (r1, r2) := by rw [if_neg (show ¬ (false = true) by decide)] at H; exact H
  clear H
  have H := H1
  clear H1
  simp only [Option.some.injEq, Prod.mk.injEq] at H
  obtain ⟨rfl, rfl⟩ := H
  go_enter Try.func7, Try.ntmps7
  go_wp2_with (first | ((with_reducible refine gate_callee (f := 24) rfl ?_); refine goesL_ (some 8) rfl rfl Try.func24 (by kernel_rfl) rfl #[.int .i64 a0, .slice A1 l1.length c1] rfl xL ?_; (with_reducible refine (spec_l6Valid.calls k a0 _ _ l1 false _ ?side1 ?side2 A3.out).mono ?_); (case side1 => exact xC HR1.out); (case side2 => exact HC1.out); rintro e w' ⟨rfl, ⟨nd, rfl⟩⟩; refine ⟨_, rfl, ?_⟩))
  go_ret2
  exact ⟨by first | rfl | (simp [errW_none, errW_some] <;> rfl) | (simp [*, errW_none, errW_some] <;> rfl), by repeat (first | (with_reducible first | exact HB.out | apply eA | apply eN | apply eD) | exact HB.out)⟩
def laws_toIntS.l0 : Nat → List Int → List Int → Int → Option (List Int)
 | 0, _, _, _ => none
 | k + 1, x0, x3, x4 => if x4 < (x0.length : Int) then (if 0 ≤ x4 then (if x4 < (x3.length : Int) then (laws_toIntS.l0 k x0 (x3.set (x4 : Int).toNat (rd x0 x4)) (wrap64 (x4 + 1))) else (none)) else (none)) else (some x3)
def laws_toIntS.f (k : Nat) (l0 : List Int) : Option (List Int) := if 0 ≤ (l0.length : Int) then (if ((l0.length : Int) : Int).toNat ≤ 35184372088832 then (laws_toIntS.l0 k l0 (List.replicate ((l0.length : Int) : Int).toNat 0) 0) else (none)) else (none)
set_option maxHeartbeats 8000000 in
set_option maxRecDepth 100000 in
theorem laws_toIntS.calls (k : Nat) (A0 : Option Addr) (c0 : Nat) (l0 : List Int) (r : List Int) (w : World) (hr0 : Kd.C (Kd.int .i64) w A0 l0.length l0) (hc0 : l0.length ≤ c0) (h : laws_toIntS.f k l0 = some r) :
  Calls Try.prog 8 #[.slice A0 l0.length c0] w fun e w' => ∃ v0_ : Value, e = .returned (v0_) ∧ Kd.R (Kd.int .i64) 3 w' w.heap.size (fun _ => True) v0_ r ∧ Below w.heap.size w w' := by
 have HR0 := aM hr0
 have HC0 := aM hc0
 clear hr0 hc0
 have HB := aM (Below.refl w.heap.size w)
 have H : (if 0 ≤ (l0.length : Int) then (if ((l0.length : Int) : Int).toNat ≤ 35184372088832 then (laws_toIntS.l0 k l0 (List.replicate ((l0.length : Int) : Int).toNat 0) 0) else (none)) else (none)) = some r := h
 clear h
 by_cases c2 : 0 ≤ (l0.length : Int)
 ·
  rw [if_pos c2] at H
  have c2b0 := eq_true c2
  have c2b1 : decide (0 ≤ (l0.length : Int)) = true := decide_eq_true c2
  clear c2
  by_cases c3 : ((l0.length : Int) : Int).toNat ≤ 35184372088832
  ·
   rw [if_pos c3] at H
   have c3b0 := eq_true c3
   have c3b1 : decide (((l0.length : Int) : Int).toNat ≤ 35184372088832) = true := decide_eq_true c3
   clear c3
   obtain ⟨y328, hy328⟩ : ∃ y_ : List Int, y_ = (List.replicate ((l0.length : Int) : Int).toNat 0) := ⟨_, rfl⟩
   replace H : (laws_toIntS.l0 k l0 y328 0) = some r := by first | (rw [hy328]; with_reducible exact H) | (have H2_ := (Option.bind_some _ _).symm.trans H; rw [hy328]; with_reducible exact H2_) | (have H2_ := (Option.bind_some _ _).symm.trans H; with_reducible exact H2_) | with_reducible exact H | (rw [hy328]; exact H) | exact H
   have Ny328 := aM hy328
   clear hy328
   have H' := aM H
   clear H
   go_enter Try.func8, Try.ntmps8
   go_wp2_with (first | ((with_reducible refine gate_dst (N := 7) rfl ?_); refine Kd.R_make (Kd.int .i64) _ 3 rfl (N := 7) rfl 22 _ _ rfl (l0.length : Int) rfl rfl Try.underlying22 (.int .i64 0) 8 info3 rfl (by decide) (by omega) 0 (ok := fun _ => True) (okp := fun _ => True) rfl (fun _ hk => hk) trivial (of_decide_eq_true (by first | (with_reducible assumption) | assumption)) (Nat.le_trans (Nat.mul_le_mul_right _ (of_decide_eq_true (by first | (with_reducible assumption) | assumption) : (l0.length : Int).toNat ≤ 35184372088832)) (by omega)) (Below.refl _ _) (Nat.le_refl _) ?_; intro v329 w4 ho5 hb hg_ hnew_; clear hg_ hnew_; (first | rw [← Ny328.out] at ho5 | (simp only [Int.reduceToNat] at ho5; rw [← Ny328.out] at ho5)); have HO330 := aM (Kd.R_lower ho5 (below_size (xH HB.out))); replace HB := aM (below_step (xH HB.out) hb); clear hb ho5))
   go_loopg [4] k (fun kq v4 w' => ∃ (x3_1 : List Int) (x4_1 : Int), v4 = .int .i64 x4_1 ∧ Aside0 (laws_toIntS.l0 kq l0 x3_1 x4_1 = some r) ∧ Aside0 (kq ≤ k) ∧ Aside0 (Kd.R (Kd.int .i64) 3 w' w.heap.size (fun _ => True) v329 x3_1) ∧ Aside0 (Below w.heap.size w w'))
   case atStart => exact ⟨(y328), (0), (by first | rfl | (simp; done) | (simp [*]; done)), H', ⟨Nat.le_refl _⟩, ⟨xR HO330.out⟩, ⟨xH HB.out⟩⟩
   case round =>
    clear H'
    try clear c2; try clear c2b0; try clear c2b1; try clear c3; try clear c3b0; try clear c3b1
    obtain ⟨x3_1, x4_1, rfl, HA, HK1, HO_3, HB⟩ := hrel
    cases gk with
    | zero => exact absurd HA.out (by simp [laws_toIntS.l0])
    | succ k1 =>
     have H := HA.out
     clear HA
     simp only [laws_toIntS.l0] at H
     by_cases c6 : x4_1 < (l0.length : Int)
     ·
      rw [if_pos c6] at H
      have c6b0 : decide (x4_1 < (l0.length : Int)) = true := decide_eq_true c6
      clear c6
      by_cases c7 : 0 ≤ x4_1
      ·
       rw [if_pos c7] at H
       have c7b0 : decide (0 ≤ x4_1) = true := decide_eq_true c7
       clear c7
       by_cases c8 : x4_1 < (x3_1.length : Int)
       ·
        rw [if_pos c8] at H
        have c8b0 : decide (x4_1 < (x3_1.length : Int)) = true := decide_eq_true c8
        clear c8
        obtain ⟨y332, hy332⟩ : ∃ y_ : List Int, y_ = (x3_1.set (x4_1 : Int).toNat (rd l0 x4_1)) := ⟨_, rfl⟩
        replace H : (laws_toIntS.l0 k1 l0 y332 (wrap64 (x4_1 + 1))) = some r := by first | (rw [hy332]; with_reducible exact H) | (have H2_ := (Option.bind_some _ _).symm.trans H; rw [hy332]; with_reducible exact H2_) | (have H2_ := (Option.bind_some _ _).symm.trans H; with_reducible exact H2_) | with_reducible exact H | (rw [hy332]; exact H) | exact H
        have Ny332 := aM hy332
        clear hy332
        have H' := aM H
        clear H
        have p331 : 0 ≤ (x4_1 : Int) := of_decide_eq_true (by first | (with_reducible assumption) | assumption)
        have q331 : x4_1 < (l0.length : Int) := of_decide_eq_true (by first | (with_reducible assumption) | assumption)
        obtain ⟨ad331, e331, hx331_0⟩ := Kd.at_int HR0.out x4_1 p331 q331
        cases e331
        replace hx331_0 := (HB.out.cell (World.block_lt_of_cell? w _ hx331_0)).trans hx331_0
        replace p331 := eq_true p331
        replace q331 := eq_true q331
        have p9 : 0 ≤ (x4_1 : Int) := of_decide_eq_true (by first | (with_reducible assumption) | assumption)
        have q9 : (x4_1 : Int) < ((x3_1.length : Int) : Int) := of_decide_eq_true (by first | (with_reducible assumption) | assumption)
        obtain ⟨go9, co9, eo9, gb9, gl9, cl9, HG9⟩ := Kd.R_form HO_3.out (by omega)
        (first | cases eo9 | (injection eo9 with ea_ en_ ec_; (first | subst ea_ | (injection ea_ with ea_; subst ea_)); subst ec_; clear en_))
        have GB9 := aM gb9
        have GG9 := aM HG9
        clear gb9 gl9 HG9
        obtain ⟨hx9_0, hf9_0⟩ := Kd.R_celln 0 HO_3.out (x4_1 : Int) p9 q9
        replace p9 := eq_true p9
        replace q9 := eq_true q9
        have HP10 := Kd.R_putg HO_3.out (x4_1 : Int) (rd l0 x4_1)
        go_wp2_with (first | ((with_reducible refine gate_store (t := 3) (p := 20) rfl ?_); refine store_event (t := 3) (p := 20) (v := ?vo_w11) (w1 := (wr.setCell ⟨go9, (x4_1 : Int).toNat, none⟩ (.int .i64 (rd l0 x4_1)))) ?hg ?ho ?hn ?hr ?_; (case ho => rfl); (case hg => rfl); (case hn => rfl); (case hr => first | (go_simp; done) | (go_simp; rfl)); intro w11 hw; have hg : wr.grownBy w11 (some go9) := (by rw [hw]; exact HP10.2); have hp_ : Kd.R (Kd.int .i64) 3 w11 w.heap.size (fun _ => True) (.slice (some ⟨go9, 0, none⟩) x3_1.length co9) y332 := (by rw [hw, Ny332.out]; exact HP10.1); clear HP10; replace HO_3 := aM (hp_); replace HB := aM ((by rw [hw]; exact eS (HB.out) GB9.out : Below w.heap.size w w11)); clear hg hw hp_))
        go_roundg k1
        case measure => have := HK1.out; omega
        case rel => exact ⟨(y332), (wrap64 (x4_1 + 1)), (by first | rfl | (simp; done) | (simp [*]; done)), H', ⟨by have := HK1.out; omega⟩, ⟨xR HO_3.out⟩, ⟨xH HB.out⟩⟩
       ·
        rw [if_neg c8] at H
        exact absurd H (by simp)
      ·
       rw [if_neg c7] at H
       exact absurd H (by simp)
     ·
      rw [if_neg c6] at H
      have c6b0 : decide (x4_1 < (l0.length : Int)) = false := decide_eq_false c6
      clear c6
      obtain rfl := Option.some.inj H
      go_wp2
      go_ret
      exact ⟨_, by first | rfl | (simp [errW_none, errW_some] <;> rfl) | (simp [*, errW_none, errW_some] <;> rfl), by (with_reducible repeat (first | apply rA | apply rN | apply rD)); exact HO_3.out, by repeat (first | (with_reducible first | exact HB.out | apply eA | apply eN | apply eD) | exact HB.out)⟩
  ·
   rw [if_neg c3] at H
   exact absurd H (by simp)
 ·
  rw [if_neg c2] at H
  exact absurd H (by simp)
def impl_within.f (a0 : Int) (a1 : Int) (a2 : Int) : Option (Bool) := if a0 ≥ a1 then (some (decide (a0 ≤ a2))) else (some false)
set_option maxHeartbeats 8000000 in
set_option maxRecDepth 100000 in
theorem impl_within.calls (a0 : Int) (a1 : Int) (a2 : Int) (r : Bool) (w : World) (h : impl_within.f a0 a1 a2 = some r) :
  Calls Try.prog 54 #[.int .i64 a0, .int .i64 a1, .int .i64 a2] w fun e w' => e = .returned (.bool r) ∧ Drawn0 w w' := by
 have H : (if a0 ≥ a1 then (some (decide (a0 ≤ a2))) else (some false)) = some r := h
 clear h
 by_cases c4 : a0 ≥ a1
 ·
  rw [if_pos c4] at H
  have c4b0 : decide (a1 ≤ a0) = true := decide_eq_true c4
  clear c4
  obtain rfl := Option.some.inj H
  go_enter Try.func54, Try.ntmps54
  go_wp2
  go_ret
  exact ⟨by first | rfl | (simp; done) | (simp [*]; done), by repeat (first | exact Drawn0.refl _ | apply Drawn0.step)⟩
 ·
  rw [if_neg c4] at H
  have c4b0 : decide (a1 ≤ a0) = false := decide_eq_false c4
  clear c4
  obtain rfl := Option.some.inj H
  go_enter Try.func54, Try.ntmps54
  go_wp2
  go_ret
  exact ⟨by first | rfl | (simp; done) | (simp [*]; done), by repeat (first | exact Drawn0.refl _ | apply Drawn0.step)⟩
end Go.Proofs.Ytgidnmpppbkamaa.PFnExactIsWeighted
