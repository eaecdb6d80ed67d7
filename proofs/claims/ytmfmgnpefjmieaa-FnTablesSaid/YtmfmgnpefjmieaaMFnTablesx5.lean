-- Laid for this claim by a program of the session's own (wip/tool/myprint.py).
import Derived.Test.YtmfmgnpefjmieaaMFnTablesx4
namespace Go.Proofs.Ytmfmgnpefjmieaa.PFnTables
open Go.RowKit Go.Proofs.YtmfmgnpefjmieaaW.PrintWords Go.Proofs.YtmfmgnpefjmieaaW.PrintLast Go.Proofs.YtmfmgnpefjmieaaW.PrintMore
attribute [local go_sem] max2_int min2_int max_two min_two max_three min_three max_four min_four
set_option linter.unusedVariables false
set_option maxHeartbeats 8000000
set_option maxRecDepth 100000
set_option linter.unusedSimpArgs false
def spec_l2Numbers.l0 : Nat → List Int → Int → Int → Option (Bool)
  | 0, _, _, _ => none
  | k + 1, x0, x1, x5 => if x5 < (x0.length : Int) then (if 0 ≤ x5 then ((spec_l1In.f (rd x0 x5) (wrap64 (-x1)) x1).bind fun t218 => (if t218 = true then (spec_l2Numbers.l0 k x0 x1 (wrap64 (x5 + 1))) else (some false))) else (none)) else (some true)
def spec_l2Numbers.f (k : Nat) (l0 : List Int) (a1 : Int) : Option (Bool) := spec_l2Numbers.l0 k l0 a1 0
theorem spec_l2Numbers.calls (k : Nat) (A0 : Option Addr) (c0 : Nat) (l0 : List Int) (a1 : Int) (r : Bool) (w : World) (hr0 : Kd.C (Kd.int .i64) w A0 l0.length l0) (hc0 : l0.length ≤ c0) (h : spec_l2Numbers.f k l0 a1 = some r) :
    Calls Try.prog 161 #[.slice A0 l0.length c0, .int .i64 a1] w fun e w' => e = .returned (.bool r) ∧ Drawn0 w w' := by
 have HR0 := aM hr0; have HC0 := aM hc0; clear hr0 hc0; have H : (spec_l2Numbers.l0 k l0 a1 0) = some r := h; clear h; have H' := aM H; clear H; go_enter Try.func161, Try.ntmps161; go_wp2; go_loopg [5] k (fun kq v5 w' => ∃ (x5_1 : Int), v5 = .int .i64 x5_1 ∧ Aside0 (spec_l2Numbers.l0 kq l0 a1 x5_1 = some r) ∧ Aside0 (kq ≤ k) ∧ Drawn0 w w'); case atStart => exact ⟨(0), yZ, H', ⟨Nat.le_refl _⟩, yDn⟩
 case round =>
  clear H'; try clear c1
  obtain ⟨x5_1, rfl, HA, HK1, ⟨m1, rfl⟩⟩ := hrel; cases gk with
  | zero => exact absurd HA.out (by simp [spec_l2Numbers.l0])
  | succ k1 =>
   have H := HA.out; clear HA; simp only [spec_l2Numbers.l0] at H; obtain ⟨-, c3b0, H⟩ | ⟨-, c3b0, H⟩ := yif H
   rotate_left
   ·
    obtain rfl := Option.some.inj H; go_wp2; go_ret; exact ⟨yZ, yDn⟩
   obtain ⟨-, c4b0, H⟩ | ⟨c4, -, H⟩ := yif H
   rotate_left
   · exact absurd H (by simp)
   replace H := oA H; obtain ⟨t218, A5, H⟩ := H; by_cases c6 : t218 = true
   rotate_left
   ·
    replace c6 := Bool.eq_false_iff.mpr c6; subst c6; rw [if_neg (show ¬ (false = true) by decide)] at H; obtain rfl := Option.some.inj H; obtain ⟨ad217, e217, hx217_0, p217, q217⟩ := yi HR0.out x5_1; cases e217
    go_wp2_with (first | (refine yL 19 Try.func111 #[.int .i64 (rd l0 x5_1), .int .i64 (wrap64 (-a1)), .int .i64 a1] ?_; (with_reducible refine (spec_l1In.calls (rd l0 x5_1) (wrap64 (-a1)) a1 false _ A5.out).mono ?_); rintro e w' ⟨rfl, ⟨nd, rfl⟩⟩; refine ⟨_, rfl, ?_⟩)); go_ret; exact ⟨yZ, yDn⟩
   subst c6; rw [if_pos rfl] at H; have H' := aM H; clear H; obtain ⟨ad217, e217, hx217_0, p217, q217⟩ := yi HR0.out x5_1; cases e217
   go_wp2_with (first | (refine yL 19 Try.func111 #[.int .i64 (rd l0 x5_1), .int .i64 (wrap64 (-a1)), .int .i64 a1] ?_; (with_reducible refine (spec_l1In.calls (rd l0 x5_1) (wrap64 (-a1)) a1 true _ A5.out).mono ?_); rintro e w' ⟨rfl, ⟨nd, rfl⟩⟩; refine ⟨_, rfl, ?_⟩)); go_roundg k1; case measure => have := HK1.out; omega
   case rel => exact ⟨(wrap64 (x5_1 + 1)), yZ, H', ⟨by have := HK1.out; omega⟩, yDn⟩
def spec_l2Plane.f (k : Nat) (l0_0 : List Int) (a0_1 : Int) : Option (Bool) := (spec_l1In.f (l0_0.length : Int) 1 4).bind fun t220 => (if t220 = true then ((spec_l2Numbers.f k l0_0 99).bind fun t221 => (if t221 = true then ((spec_l1In.f a0_1 (-99) 99).bind fun t222 => (some t222)) else (some false))) else (some false))
theorem spec_l2Plane.calls (k : Nat) (A0_0 : Option Addr) (c0_0 : Nat) (l0_0 : List Int) (a0_1 : Int) (r : Bool) (w : World) (hr0_0 : Kd.C (Kd.int .i64) w A0_0 l0_0.length l0_0) (hc0_0 : l0_0.length ≤ c0_0) (h : spec_l2Plane.f k l0_0 a0_1 = some r) :
    Calls Try.prog 144 #[.agg #[.slice A0_0 l0_0.length c0_0, .int .i64 a0_1]] w fun e w' => e = .returned (.bool r) ∧ Below w.heap.size w w' := by
 have hu28 := Try.underlying28; have HR0_0 := aM hr0_0; have HC0_0 := aM hc0_0; clear hr0_0 hc0_0; have HB := aM (Below.refl w.heap.size w); have H : ((spec_l1In.f (l0_0.length : Int) 1 4).bind fun t220 => (if t220 = true then ((spec_l2Numbers.f k l0_0 99).bind fun t221 => (if t221 = true then ((spec_l1In.f a0_1 (-99) 99).bind fun t222 => (some t222)) else (some false))) else (some false))) = some r := h; clear h; replace H := oA H; obtain ⟨t220, A2, H⟩ := H; by_cases c3 : t220 = true
 rotate_left
 ·
  replace c3 := Bool.eq_false_iff.mpr c3; subst c3; rw [if_neg (show ¬ (false = true) by decide)] at H; obtain rfl := Option.some.inj H; go_enter Try.func144, Try.ntmps144; go_wp2_with (first | (refine yB 1 #[.slice A0_0 l0_0.length c0_0, .int .i64 a0_1] 28 ?_; intro gb219 hg w11 hbox hb; have BK219 := aM (hbox); have GW219 := yV0 hg HB; have GE219 := yV0 hg HB; replace HB := yS0 HB hb; clear hb hbox hg; obtain ⟨hcz12_0, hcz12_1, hfz12_0, hfz12_1⟩ := yD2 BK219) | (refine yL 6 Try.func111 #[.int .i64 (l0_0.length : Int), .int .i64 1, .int .i64 4] ?_; (with_reducible refine (spec_l1In.calls (l0_0.length : Int) 1 4 false _ A2.out).mono ?_); rintro e w' ⟨rfl, ⟨nd, rfl⟩⟩; refine ⟨_, rfl, ?_⟩)); go_ret; exact ⟨yF, xG1 HB.out GE219.out⟩
 subst c3; rw [if_pos rfl] at H; replace H := oA H; obtain ⟨t221, A4, H⟩ := H; by_cases c5 : t221 = true
 rotate_left
 ·
  replace c5 := Bool.eq_false_iff.mpr c5; subst c5; rw [if_neg (show ¬ (false = true) by decide)] at H; obtain rfl := Option.some.inj H; go_enter Try.func144, Try.ntmps144; go_wp2_with (first | (refine yB 1 #[.slice A0_0 l0_0.length c0_0, .int .i64 a0_1] 28 ?_; intro gb219 hg w9 hbox hb; have BK219 := aM (hbox); have GW219 := yV0 hg HB; have GE219 := yV0 hg HB; replace HB := yS0 HB hb; clear hb hbox hg; obtain ⟨hcz10_0, hcz10_1, hfz10_0, hfz10_1⟩ := yD2 BK219) | (refine yL 6 Try.func111 #[.int .i64 (l0_0.length : Int), .int .i64 1, .int .i64 4] ?_; (with_reducible refine (spec_l1In.calls (l0_0.length : Int) 1 4 true _ A2.out).mono ?_); rintro e w' ⟨rfl, ⟨nd, rfl⟩⟩; refine ⟨_, rfl, ?_⟩) | (go_at_call 161; (with_reducible refine (spec_l2Numbers.calls k _ _ l0_0 99 false _ (xC (Kd.C_below HR0_0.out (xG1 HB.out GE219.out))) HC0_0.out A4.out).mono ?_); rintro e w' ⟨rfl, ⟨nd, rfl⟩⟩)); go_ret; exact ⟨yF, xG1 HB.out GE219.out⟩
 subst c5; rw [if_pos rfl] at H; replace H := oA H; obtain ⟨t222, A6, H⟩ := H; obtain rfl := Option.some.inj H; go_enter Try.func144, Try.ntmps144; go_wp2_with (first | (refine yB 1 #[.slice A0_0 l0_0.length c0_0, .int .i64 a0_1] 28 ?_; intro gb219 hg w7 hbox hb; have BK219 := aM (hbox); have GW219 := yV0 hg HB; have GE219 := yV0 hg HB; replace HB := yS0 HB hb; clear hb hbox hg; obtain ⟨hcz8_0, hcz8_1, hfz8_0, hfz8_1⟩ := yD2 BK219) | (refine yL 6 Try.func111 #[.int .i64 (l0_0.length : Int), .int .i64 1, .int .i64 4] ?_; (with_reducible refine (spec_l1In.calls (l0_0.length : Int) 1 4 true _ A2.out).mono ?_); rintro e w' ⟨rfl, ⟨nd, rfl⟩⟩; refine ⟨_, rfl, ?_⟩) | (go_at_call 161; (with_reducible refine (spec_l2Numbers.calls k _ _ l0_0 99 true _ (xC (Kd.C_below HR0_0.out (xG1 HB.out GE219.out))) HC0_0.out A4.out).mono ?_); rintro e w' ⟨rfl, ⟨nd, rfl⟩⟩) | (go_at_call 111; (with_reducible refine (spec_l1In.calls a0_1 (-99) 99 t222 _ A6.out).mono ?_); rintro e w' ⟨rfl, ⟨nd, rfl⟩⟩)); go_ret; exact ⟨yF, xG1 HB.out GE219.out⟩
def spec_l2BitPoint.l0 : Nat → Int → Int → List Int → Int → Option (List Int)
  | 0, _, _, _, _ => none
  | k + 1, x0, x1, x5, x6 => if x6 < x0 then (if 0 ≤ x6 then (if x5.length < 17592186044416 then (spec_l2BitPoint.l0 k x0 x1 (x5 ++ [Go.bits .and .i64 (shr .i64 x1 x6) 1]) (wrap64 (x6 + 1))) else (none)) else (none)) else (some x5)
def spec_l2BitPoint.f (k : Nat) (a0 : Int) (a1 : Int) : Option (List Int) := spec_l2BitPoint.l0 k a0 a1 (([] : List Int)) 0
theorem spec_l2BitPoint.calls (k : Nat) (a0 : Int) (a1 : Int) (r : List Int) (w : World) (h : spec_l2BitPoint.f k a0 a1 = some r) :
    Calls Try.prog 153 #[.int .i64 a0, .int .i64 a1] w fun e w' => ∃ v0_ : Value, e = .returned (v0_) ∧ Kd.R (Kd.int .i64) 3 w' w.heap.size (fun _ => True) v0_ r ∧ Below w.heap.size w w' := by
 have HB := aM (Below.refl w.heap.size w); have H : (spec_l2BitPoint.l0 k a0 a1 (([] : List Int)) 0) = some r := h; clear h; obtain ⟨y223, hy223⟩ := yE (([] : List Int) : List Int); replace H : (spec_l2BitPoint.l0 k a0 a1 y223 0) = some r := yI hy223 H; have Ny223 := aM hy223; clear hy223; have H' := aM H; clear H; go_enter Try.func153, Try.ntmps153; go_wp2_with (first | ((with_reducible refine gate_dst (N := 7) rfl ?_); refine Kd.R_lit (Kd.int .i64) _ 3 ?hg (N := 7) ?hd (xs := ([] : List Int)) (inner := []) (ok := fun _ => True) (okp := fun _ => True) ?hr ?hp (fun _ hk => hk) trivial (Below.refl _ _) (Nat.le_refl _) (by simp) ?_; (case hd => rfl); (case hg => rfl); (case hr => first | (go_simp; done) | (go_simp; rfl)); (case hp => exact (Reps.none _ _)); intro v224 w3 ho4 hb hg_ hnew_; clear hg_ hnew_; (first | rw [← Ny223.out] at ho4 | (simp only [Int.reduceToNat] at ho4; rw [← Ny223.out] at ho4)); have HO225 := aM (Kd.R_lower ho4 (below_size (xH HB.out))); replace HB := yS0 HB hb; clear hb ho4)); go_loopg [5, 6] k (fun kq v5 v6 w' => ∃ (x5_1 : List Int) (x6_1 : Int), v6 = .int .i64 x6_1 ∧ Aside0 (spec_l2BitPoint.l0 kq a0 a1 x5_1 x6_1 = some r) ∧ Aside0 (kq ≤ k) ∧ Aside0 (Kd.R (Kd.int .i64) 3 w' w.heap.size (fun _ => True) v5 x5_1) ∧ Aside0 (Below w.heap.size w w')); case atStart => exact ⟨(y223), (0), yZ, H', ⟨Nat.le_refl _⟩, ⟨xR HO225.out⟩, ⟨xH HB.out⟩⟩
 case round =>
  clear H'; try clear c1
  obtain ⟨x5_1, x6_1, rfl, HA, HK1, HO_5, HB⟩ := hrel; cases gk with
  | zero => exact absurd HA.out (by simp [spec_l2BitPoint.l0])
  | succ k1 =>
   have H := HA.out; clear HA; simp only [spec_l2BitPoint.l0] at H; obtain ⟨-, c5b0, H⟩ | ⟨-, c5b0, H⟩ := yif H
   rotate_left
   ·
    obtain rfl := Option.some.inj H; go_wp2; go_ret; exact ⟨_, yF, xR HO_5.out, xH HB.out⟩
   obtain ⟨c6, -, H⟩ | ⟨c6, -, H⟩ := yif H
   rotate_left
   · exact absurd H (by simp)
   have c6b0 := eq_true c6; have c6b1 : decide (0 ≤ x6_1) = true := decide_eq_true c6; clear c6; obtain ⟨ji7, hji7⟩ := yJ ((shr .i64 a1 x6_1)); (first | rw [hji7] at H | simp only [hji7] at H); have hji7_ : (a1 / 2 ^ min x6_1.toNat 64) = ji7 := hji7; have hji7z : x6_1 ≤ 64 → (a1 / 2 ^ x6_1.toNat) = ji7 := shr_small hji7; obtain ⟨c8, -, H⟩ | ⟨c8, -, H⟩ := yif H
   rotate_left
   · exact absurd H (by simp)
   have LMc8 := aM c8; clear c8; obtain ⟨y226, hy226⟩ := yE (x5_1 ++ [Go.bits .and .i64 (ji7) 1] : List Int); replace H : (spec_l2BitPoint.l0 k1 a0 a1 y226 (wrap64 (x6_1 + 1))) = some r := yI hy226 H; have Ny226 := aM hy226; clear hy226; have H' := aM H; clear H; go_wp2_with (first | ((with_reducible refine gate_builtin (b := .append) (xs := #[.tmp 13, .tmp 18]) rfl ?_); at_builtin; refine Kd.R_append (Kd.int .i64) (w0 := w) w.heap.size rfl (.tmp 13) (.tmp 18) 24 3 (.int .i64 0) 8 rfl Try.underlying24 info3 rfl (by decide) (by omega) u5 x5_1 (Go.bits .and .i64 (ji7) 1) [.int .i64 (Go.bits .and .i64 (ji7) 1)] (fun _ => True) (fun _ => False) rfl rfl ?aP (fun _ hk => hk.elim) ?aF ?aO ?aB ?aS ?aL ?_; (case aP => exact rfl); (case aB => exact (xH HB.out)); (case aF => exact (fun _ _ => trivial)); (case aO => exact (xR HO_5.out)); (case aS => exact (below_size (xH HB.out))); (case aL => have := LMc8.out; omega); intro v227 w9 ho hb hg hat; rw [← Ny226.out] at ho; replace HB := aM (hb); have HO228 := aM (ho); clear HO_5; clear ho hb hg hat)); go_roundg k1; case measure => have := HK1.out; omega
   case rel => exact ⟨(y226), (wrap64 (x6_1 + 1)), yZ, H', ⟨by have := HK1.out; omega⟩, ⟨xR HO228.out⟩, ⟨xH HB.out⟩⟩
def spec_l2Dot.l0 : Nat → List Int → List Int → Int → Int → Option (Int)
  | 0, _, _, _, _ => none
  | k + 1, x0, x1, x5, x6 => if x6 < (x0.length : Int) then (if 0 ≤ x6 then (if x6 < (x1.length : Int) then (spec_l2Dot.l0 k x0 x1 (wrap64 (x5 + (wrap64 ((rd x0 x6) * (rd x1 x6))))) (wrap64 (x6 + 1))) else (none)) else (none)) else (some x5)
def spec_l2Dot.f (k : Nat) (l0 : List Int) (l1 : List Int) : Option (Int) := spec_l2Dot.l0 k l0 l1 0 0
theorem spec_l2Dot.calls (k : Nat) (A0 : Option Addr) (c0 : Nat) (l0 : List Int) (A1 : Option Addr) (c1 : Nat) (l1 : List Int) (r : Int) (w : World) (hr0 : Kd.C (Kd.int .i64) w A0 l0.length l0) (hc0 : l0.length ≤ c0) (hr1 : Kd.C (Kd.int .i64) w A1 l1.length l1) (hc1 : l1.length ≤ c1) (h : spec_l2Dot.f k l0 l1 = some r) :
    Calls Try.prog 152 #[.slice A0 l0.length c0, .slice A1 l1.length c1] w fun e w' => e = .returned (.int .i64 r) ∧ Drawn0 w w' := by
 have HR0 := aM hr0; have HC0 := aM hc0; clear hr0 hc0; have HR1 := aM hr1; have HC1 := aM hc1; clear hr1 hc1; have H : (spec_l2Dot.l0 k l0 l1 0 0) = some r := h; clear h; have H' := aM H; clear H; go_enter Try.func152, Try.ntmps152; go_wp2
 repeat (go_quiet (fail); try go_wp2)
 go_loopg [5, 6] k (fun kq v5 v6 w' => ∃ (x5_1 : Int) (x6_1 : Int), v5 = .int .i64 x5_1 ∧ v6 = .int .i64 x6_1 ∧ Aside0 (spec_l2Dot.l0 kq l0 l1 x5_1 x6_1 = some r) ∧ Aside0 (kq ≤ k) ∧ Drawn0 w w'); case atStart => exact ⟨(0), (0), yZ, yZ, H', ⟨Nat.le_refl _⟩, yDn⟩
 case round =>
  clear H'; try clear c1
  obtain ⟨x5_1, x6_1, rfl, rfl, HA, HK1, ⟨m1, rfl⟩⟩ := hrel; cases gk with
  | zero => exact absurd HA.out (by simp [spec_l2Dot.l0])
  | succ k1 =>
   have H := HA.out; clear HA; simp only [spec_l2Dot.l0] at H; obtain ⟨-, c3b0, H⟩ | ⟨-, c3b0, H⟩ := yif H
   rotate_left
   ·
    obtain rfl := Option.some.inj H; go_wp2
    repeat (go_quiet (fail); try go_wp2)
    go_ret; exact ⟨yZ, yDn⟩
   obtain ⟨-, c4b0, H⟩ | ⟨c4, -, H⟩ := yif H
   rotate_left
   · exact absurd H (by simp)
   obtain ⟨-, c5b0, H⟩ | ⟨c5, -, H⟩ := yif H
   rotate_left
   · exact absurd H (by simp)
   have H' := aM H; clear H; obtain ⟨ad229, e229, hx229_0, p229, q229⟩ := yi HR0.out x6_1; cases e229
   obtain ⟨ad230, e230, hx230_0, p230, q230⟩ := yi HR1.out x6_1; cases e230
   go_wp2
   repeat (go_quiet (fail); try go_wp2)
   go_roundg k1; case measure => have := HK1.out; omega
   case rel => exact ⟨(wrap64 (x5_1 + (wrap64 ((rd l0 x6_1) * (rd l1 x6_1))))), (wrap64 (x6_1 + 1)), yZ, yZ, H', ⟨by have := HK1.out; omega⟩, yDn⟩
def spec_l2Side.f (k : Nat) (l0_0 : List Int) (a0_1 : Int) (l1 : List Int) : Option (Int) := (spec_l2Dot.f k l0_0 l1).bind fun t232 => (if t232 ≥ a0_1 then (some 1) else (some (-1)))
theorem spec_l2Side.calls (k : Nat) (A0_0 : Option Addr) (c0_0 : Nat) (l0_0 : List Int) (a0_1 : Int) (A1 : Option Addr) (c1 : Nat) (l1 : List Int) (r : Int) (w : World) (hr0_0 : Kd.C (Kd.int .i64) w A0_0 l0_0.length l0_0) (hc0_0 : l0_0.length ≤ c0_0) (hr1 : Kd.C (Kd.int .i64) w A1 l1.length l1) (hc1 : l1.length ≤ c1) (h : spec_l2Side.f k l0_0 a0_1 l1 = some r) :
    Calls Try.prog 162 #[.agg #[.slice A0_0 l0_0.length c0_0, .int .i64 a0_1], .slice A1 l1.length c1] w fun e w' => e = .returned (.int .i64 r) ∧ Below w.heap.size w w' := by
 have hu28 := Try.underlying28; have HR0_0 := aM hr0_0; have HC0_0 := aM hc0_0; clear hr0_0 hc0_0; have HR1 := aM hr1; have HC1 := aM hc1; clear hr1 hc1; have HB := aM (Below.refl w.heap.size w); have H : ((spec_l2Dot.f k l0_0 l1).bind fun t232 => (if t232 ≥ a0_1 then (some 1) else (some (-1)))) = some r := h; clear h; replace H := oA H; obtain ⟨t232, A3, H⟩ := H; obtain ⟨c4, -, H⟩ | ⟨c4, -, H⟩ := yif H
 ·
  have c4b0 : decide (a0_1 ≤ t232) = true := decide_eq_true c4; clear c4; obtain rfl := Option.some.inj H; go_enter Try.func162, Try.ntmps162; go_wp2_with (first | (refine yB 2 #[.slice A0_0 l0_0.length c0_0, .int .i64 a0_1] 28 ?_; intro gb231 hg w5 hbox hb; have BK231 := aM (hbox); have GW231 := yV0 hg HB; have GE231 := yV0 hg HB; replace HB := yS0 HB hb; clear hb hbox hg; obtain ⟨hcz6_0, hcz6_1, hfz6_0, hfz6_1⟩ := yD2 BK231) | (go_at_call 152; (with_reducible refine (spec_l2Dot.calls k _ _ l0_0 _ _ l1 t232 _ (xC (Kd.C_below HR0_0.out HB.out)) HC0_0.out (xC (Kd.C_below HR1.out HB.out)) HC1.out A3.out).mono ?_); rintro e w' ⟨rfl, ⟨nd, rfl⟩⟩; (try exact yDr)))
  repeat (go_quiet (first | (refine yB 2 #[.slice A0_0 l0_0.length c0_0, .int .i64 a0_1] 28 ?_; intro gb231 hg w5 hbox hb; have BK231 := aM (hbox); have GW231 := yV0 hg HB; have GE231 := yV0 hg HB; replace HB := yS0 HB hb; clear hb hbox hg; obtain ⟨hcz6_0, hcz6_1, hfz6_0, hfz6_1⟩ := yD2 BK231) | (go_at_call 152; (with_reducible refine (spec_l2Dot.calls k _ _ l0_0 _ _ l1 t232 _ (xC (Kd.C_below HR0_0.out HB.out)) HC0_0.out (xC (Kd.C_below HR1.out HB.out)) HC1.out A3.out).mono ?_); rintro e w' ⟨rfl, ⟨nd, rfl⟩⟩; (try exact yDr))); try go_wp2_with (first | (refine yB 2 #[.slice A0_0 l0_0.length c0_0, .int .i64 a0_1] 28 ?_; intro gb231 hg w5 hbox hb; have BK231 := aM (hbox); have GW231 := yV0 hg HB; have GE231 := yV0 hg HB; replace HB := yS0 HB hb; clear hb hbox hg; obtain ⟨hcz6_0, hcz6_1, hfz6_0, hfz6_1⟩ := yD2 BK231) | (go_at_call 152; (with_reducible refine (spec_l2Dot.calls k _ _ l0_0 _ _ l1 t232 _ (xC (Kd.C_below HR0_0.out HB.out)) HC0_0.out (xC (Kd.C_below HR1.out HB.out)) HC1.out A3.out).mono ?_); rintro e w' ⟨rfl, ⟨nd, rfl⟩⟩; (try exact yDr))))
  go_ret; exact ⟨yF, xG1 HB.out GE231.out⟩
 have c4b0 : decide (a0_1 ≤ t232) = false := decide_eq_false c4; clear c4; obtain rfl := Option.some.inj H; go_enter Try.func162, Try.ntmps162; go_wp2_with (first | (refine yB 2 #[.slice A0_0 l0_0.length c0_0, .int .i64 a0_1] 28 ?_; intro gb231 hg w7 hbox hb; have BK231 := aM (hbox); have GW231 := yV0 hg HB; have GE231 := yV0 hg HB; replace HB := yS0 HB hb; clear hb hbox hg; obtain ⟨hcz8_0, hcz8_1, hfz8_0, hfz8_1⟩ := yD2 BK231) | (go_at_call 152; (with_reducible refine (spec_l2Dot.calls k _ _ l0_0 _ _ l1 t232 _ (xC (Kd.C_below HR0_0.out HB.out)) HC0_0.out (xC (Kd.C_below HR1.out HB.out)) HC1.out A3.out).mono ?_); rintro e w' ⟨rfl, ⟨nd, rfl⟩⟩; (try exact yDr)))
 repeat (go_quiet (first | (refine yB 2 #[.slice A0_0 l0_0.length c0_0, .int .i64 a0_1] 28 ?_; intro gb231 hg w7 hbox hb; have BK231 := aM (hbox); have GW231 := yV0 hg HB; have GE231 := yV0 hg HB; replace HB := yS0 HB hb; clear hb hbox hg; obtain ⟨hcz8_0, hcz8_1, hfz8_0, hfz8_1⟩ := yD2 BK231) | (go_at_call 152; (with_reducible refine (spec_l2Dot.calls k _ _ l0_0 _ _ l1 t232 _ (xC (Kd.C_below HR0_0.out HB.out)) HC0_0.out (xC (Kd.C_below HR1.out HB.out)) HC1.out A3.out).mono ?_); rintro e w' ⟨rfl, ⟨nd, rfl⟩⟩; (try exact yDr))); try go_wp2_with (first | (refine yB 2 #[.slice A0_0 l0_0.length c0_0, .int .i64 a0_1] 28 ?_; intro gb231 hg w7 hbox hb; have BK231 := aM (hbox); have GW231 := yV0 hg HB; have GE231 := yV0 hg HB; replace HB := yS0 HB hb; clear hb hbox hg; obtain ⟨hcz8_0, hcz8_1, hfz8_0, hfz8_1⟩ := yD2 BK231) | (go_at_call 152; (with_reducible refine (spec_l2Dot.calls k _ _ l0_0 _ _ l1 t232 _ (xC (Kd.C_below HR0_0.out HB.out)) HC0_0.out (xC (Kd.C_below HR1.out HB.out)) HC1.out A3.out).mono ?_); rintro e w' ⟨rfl, ⟨nd, rfl⟩⟩; (try exact yDr))))
 go_ret; exact ⟨yF, xG1 HB.out GE231.out⟩
def spec_l2TableOf.l0 : Nat → Int → List Int → Int → List Int → Int → Option (List Int)
  | 0, _, _, _, _, _ => none
  | k + 1, x0, x5, x6, x234000, x234001 => if 0 ≤ x0 then (if x6 < (shl .i64 1 x0) then ((spec_l2BitPoint.f k x0 x6).bind fun t237 => ((spec_l2Side.f k x234000 x234001 t237).bind fun t240 => (if x5.length < 17592186044416 then (spec_l2TableOf.l0 k x0 (x5 ++ [wrap64 (Int.tdiv (wrap64 (t240 + 1)) 2)]) (wrap64 (x6 + 1)) x234000 x234001) else (none)))) else (some x5)) else (none)
def spec_l2TableOf.f (k : Nat) (a0 : Int) (l1_0 : List Int) (a1_1 : Int) : Option (List Int) := spec_l2TableOf.l0 k a0 (([] : List Int)) 0 l1_0 a1_1
def spec_l2TableOf.T5 : Bool × List (List Nat × List Nat) := (true, [([], []), ([], []), ([], []), ([], []), ([2, 3], [2, 3]), ([1, 4, 4], [1, 4]), ([5], [5]), ([6], [6]), ([7], [7]), ([0, 8, 5], [0, 8]), ([9, 9, 0, 1, 2, 3, 4, 5, 6, 7, 8, 9], [0, 9])])
def spec_l2TableOf.B5 : List Nat := [0, 0, 0, 0, 12, 30, 62, 126, 254, 511, 1023]
theorem spec_l2TableOf.tab5 : rtab .any (opsOf Try.f145 5) = spec_l2TableOf.T5 := by kernel_rfl
theorem spec_l2TableOf.bits5 : waitsOk spec_l2TableOf.T5.2 spec_l2TableOf.B5 = true := by kernel_rfl
theorem spec_l2TableOf.calls (k : Nat) (a0 : Int) (A1_0 : Option Addr) (c1_0 : Nat) (l1_0 : List Int) (a1_1 : Int) (r : List Int) (w : World) (hr1_0 : Kd.C (Kd.int .i64) w A1_0 l1_0.length l1_0) (hc1_0 : l1_0.length ≤ c1_0) (h : spec_l2TableOf.f k a0 l1_0 a1_1 = some r) :
    Calls Try.prog 145 #[.int .i64 a0, .agg #[.slice A1_0 l1_0.length c1_0, .int .i64 a1_1]] w fun e w' => ∃ v0_ : Value, e = .returned (v0_) ∧ Kd.R (Kd.int .i64) 3 w' w.heap.size (fun _ => True) v0_ r ∧ Below w.heap.size w w' := by
 have hu28 := Try.underlying28; have HR1_0 := aM hr1_0; have HC1_0 := aM hc1_0; clear hr1_0 hc1_0; have HB := aM (Below.refl w.heap.size w); have H : (spec_l2TableOf.l0 k a0 (([] : List Int)) 0 l1_0 a1_1) = some r := h; clear h; obtain ⟨y234, hy234⟩ := yE (([] : List Int) : List Int); replace H : (spec_l2TableOf.l0 k a0 y234 0 l1_0 a1_1) = some r := yI hy234 H; have Ny234 := aM hy234; clear hy234; have H' := aM H; clear H; go_enter Try.func145, Try.ntmps145; go_wp2_with (first | (refine yB 3 #[.slice A1_0 l1_0.length c1_0, .int .i64 a1_1] 28 ?_; intro gb233 hg w3 hbox hb; have BK233 := aM (hbox); have GW233 := yV0 hg HB; have GE233 := yV0 hg HB; replace HB := yS0 HB hb; clear hb hbox hg) | ((with_reducible refine gate_dst (N := 7) rfl ?_); refine Kd.R_lit (Kd.int .i64) _ 3 ?hg (N := 7) ?hd (xs := ([] : List Int)) (inner := []) (ok := fun _ => True) (okp := fun _ => True) ?hr ?hp (fun _ hk => hk) trivial (Below.refl _ _) (Nat.le_refl _) (by simp) ?_; (case hd => rfl); (case hg => rfl); (case hr => first | (go_simp; done) | (go_simp; rfl)); (case hp => exact (Reps.none _ _)); intro v235 w4 ho5 hb hg_ hnew_; clear hg_ hnew_; (first | rw [← Ny234.out] at ho5 | (simp only [Int.reduceToNat] at ho5; rw [← Ny234.out] at ho5)); have HO236 := aM (Kd.R_lower ho5 (below_size (xG1 HB.out GE233.out))); replace BK233 := yK BK233 hb; replace HB := yS1 HB GE233 hb; clear hb ho5)); go_loopg [5, 6] k (fun kq v5 v6 w' => ∃ (x5_1 : List Int) (x6_1 : Int), v6 = .int .i64 x6_1 ∧ Aside0 (spec_l2TableOf.l0 kq a0 x5_1 x6_1 l1_0 a1_1 = some r) ∧ Aside0 (kq ≤ k) ∧ Aside0 (Kd.R (Kd.int .i64) 3 w' w.heap.size (fun _ => True) v5 x5_1) ∧ Aside0 (w'.heap[gb233]? = some (.cells #[(.slice A1_0 l1_0.length c1_0), .int .i64 a1_1] 28 (0, 0))) ∧ Aside0 (Below w.heap.size w w')); case atStart => exact ⟨(y234), (0), yZ, H', ⟨Nat.le_refl _⟩, ⟨xR HO236.out⟩, ⟨xB BK233.out⟩, ⟨xG1 HB.out GE233.out⟩⟩
 case round =>
  clear H'; try clear c1
  obtain ⟨x5_1, x6_1, rfl, HA, HK1, HO_5, BK233, HB⟩ := hrel; cases gk with
  | zero => exact absurd HA.out (by simp [spec_l2TableOf.l0])
  | succ k1 =>
   have H := HA.out; clear HA; simp only [spec_l2TableOf.l0] at H; obtain ⟨c6, -, H⟩ | ⟨c6, -, H⟩ := yif H
   rotate_left
   · exact absurd H (by simp)
   have c6b0 := eq_true c6; have c6b1 : decide (0 ≤ a0) = true := decide_eq_true c6; clear c6; obtain ⟨ji7, hji7⟩ := yJ ((shl .i64 1 a0)); (first | rw [hji7] at H | simp only [hji7] at H); have hji7_ : (IntKind.i64.wrap (1 * 2 ^ min a0.toNat 64)) = ji7 := hji7; have hji7z : a0 ≤ 64 → (IntKind.i64.wrap (1 * 2 ^ a0.toNat)) = ji7 := shl_small hji7; have hji7u : (IntKind.i64.wrap (2 ^ min a0.toNat 64)) = ji7 := by have h_ := hji7_; rw [Int.one_mul] at h_; exact h_
   have hji7v : a0 ≤ 64 → (IntKind.i64.wrap (2 ^ a0.toNat)) = ji7 := fun hle_ => by have h_ := hji7z hle_; rw [Int.one_mul] at h_; exact h_
   have hji7y : (wrap64 (1 * 2 ^ min a0.toNat 64)) = ji7 := (i64_w _).symm.trans hji7_; have hji7x : a0 ≤ 64 → (wrap64 (1 * 2 ^ a0.toNat)) = ji7 := fun h_ => (i64_w _).symm.trans (hji7z h_); obtain ⟨-, c8b0, H⟩ | ⟨-, c8b0, H⟩ := yif H
   rotate_left
   ·
    obtain rfl := Option.some.inj H; go_wp2; go_ret; exact ⟨_, by first | rfl | (simp [errW_none, errW_some] <;> rfl) | (simp only [← hji7]; first | rfl | (simp [errW_none, errW_some] <;> rfl)) | (simp [*, errW_none, errW_some] <;> rfl), xR HO_5.out, xG1 HB.out GE233.out⟩
   replace H := oA H; obtain ⟨t237, A9, H⟩ := H; replace H := oA H; obtain ⟨t240, A10, H⟩ := H; obtain ⟨c11, -, H⟩ | ⟨c11, -, H⟩ := yif H
   rotate_left
   · exact absurd H (by simp)
   have LMc11 := aM c11; clear c11; obtain ⟨y241, hy241⟩ := yE (x5_1 ++ [wrap64 (Int.tdiv (wrap64 (t240 + 1)) 2)] : List Int); replace H : (spec_l2TableOf.l0 k1 a0 y241 (wrap64 (x6_1 + 1)) l1_0 a1_1) = some r := yI hy241 H; have Ny241 := aM hy241; clear hy241; have H' := aM H; clear H; try go_wp2
   replace HO_5 := aM (rD HO_5.out); replace BK233 := aM (bD BK233.out); replace HB := aM (eD HB.out); refine start_ (n := 11) (S := fun w' => w'.cell? ⟨gb233, 0, none⟩ = some (.slice A1_0 l1_0.length c1_0) ∧ w'.cell? ⟨gb233, 1, none⟩ = some (.int .i64 a1_1)) (ds := []) (bm 11 0) (by kernel_rfl) rfl rfl ⟨(bC BK233.out 0).trans rfl, (bC BK233.out 1).trans rfl⟩ (fun hHeld => ?_); refine with_tabW spec_l2TableOf.tab5 spec_l2TableOf.bits5 (fun HT_ HW_ => ?_); generalize wr.drew = w12 at HO_5 BK233 HB hHeld ⊢; refine yP 0 14 (bm 11 1) HT_ ?_; refine yP 2 16 (bm 11 5) HT_ ?_; refine yP 3 17 (bm 11 13) HT_ ?_; refine yT2 1 15 (bm 11 15) HT_ HW_ hHeld ?_; refine yO 4 18 (bm 11 31) HT_ (fun K hK => ?_); refine yG Try.func153 #[.int .i64 a0, .int .i64 x6_1] ?_; with_reducible refine (spec_l2BitPoint.calls k1 a0 x6_1 t237 _ A9.out).mono ?_
   rintro e w13 ⟨v238, rfl, ho0, hb⟩; refine ⟨_, rfl, ?_⟩; have HO239 := aM (Kd.R_lower (Kd.R_new' ho0 (Kd.R_lt (xR HO_5.out))) (below_size (xG1 HB.out GE233.out))); replace HO_5 := aM (Kd.R_elder' (xR HO_5.out) (Kd.R_base ho0) hb); replace BK233 := yK BK233 hb; replace HB := yS1 HB GE233 hb; (try clear hb); (try clear hb2); (try clear hk); (try clear hi); (try clear ho0); obtain ⟨Ao14, co14, eo14⟩ := Kd.R_slice HO239.out; (first | subst eo14 | (injection eo14 with f1_ f2_ f3_; have f4_ := f1_.symm; have f5_ := f3_.symm; clear f1_ f2_ f3_; subst f4_; subst f5_)); refine hK.out _ _ ⟨(bC BK233.out 0).trans rfl, (bC BK233.out 1).trans rfl⟩ (fun hHeld => ?_); clear hK K; refine norm_ (a' := ?_) ?_ ?_
   rotate_left
   ·
    show Act.put _ (some 18) _ = _; simp only [Act.put, sA, sZ, sU, i64_w, i32_w]; rfl
   refine yO 5 19 (bm 11 63) HT_ (fun K hK => ?_); refine yG Try.func162 #[.agg #[.slice A1_0 l1_0.length c1_0, .int .i64 a1_1], .slice Ao14 t237.length co14] ?_; with_reducible refine (spec_l2Side.calls k1 _ _ l1_0 a1_1 _ _ t237 t240 _ ?side1 ?side2 ?side3 ?side4 A10.out).mono ?_
   (case side1 => exact xC (Kd.C_below HR1_0.out HB.out)); (case side2 => exact HC1_0.out); (case side3 => exact xC (Kd.R_reads' HO239.out).2.2); (case side4 => exact (Kd.R_reads' HO239.out).2.1); rintro e w15 ⟨rfl, hb⟩; refine ⟨_, rfl, ?_⟩; replace HO_5 := aM (Kd.R_below (xR HO_5.out) hb); replace HO239 := aM (Kd.R_below (xR HO239.out) hb); replace BK233 := yK BK233 hb; replace HB := yS1 HB GE233 hb; (try clear hb); (try clear hb2); (try clear hk); (try clear hi); refine hK.out _ _ ⟨(bC BK233.out 0).trans rfl, (bC BK233.out 1).trans rfl⟩ (fun hHeld => ?_); clear hK K; refine norm_ (a' := ?_) ?_ ?_
   rotate_left
   ·
    show Act.put _ (some 19) _ = _; simp only [Act.put, sA, sZ, sU, i64_w, i32_w]; rfl
   refine yP 6 20 (bm 11 127) HT_ ?_; refine yP 7 21 (bm 11 255) HT_ ?_; refine yO 8 22 (bm 11 511) HT_ (fun K hK => ?_); refine value_ (w1 := ?_) (v := ?_) (by rfl) rfl ?_ ?_
   rotate_left 2
   ·
    go_simp; constructor
    · rfl
    · rfl
   refine hK.out _ _ ⟨(bC (bA BK233.out _) 0).trans rfl, (bC (bA BK233.out _) 1).trans rfl⟩ (fun hHeld => ?_); clear hK K; refine norm_ (a' := ?_) ?_ ?_
   rotate_left
   ·
    show Act.put _ (some 22) _ = _; simp only [Act.put, sA, sZ, sU, i64_w, i32_w]; rfl
   refine yO 9 23 (bm 11 1023) HT_ (fun K hK => ?_); refine Kd.R_append_step (Kd.int .i64) (w0 := w) w.heap.size (by rfl) (.tmp 14) (.tmp 22) 24 3 (.int .i64 0) 8 rfl Try.underlying24 info3 rfl (by decide) (by omega) u5 x5_1 (wrap64 (Int.tdiv (wrap64 (t240 + 1)) 2)) [.int .i64 (wrap64 (Int.tdiv (wrap64 (t240 + 1)) 2))] (fun k_ => some k_ ≠ (.slice Ao14 t237.length co14 : Value).ownBlock) (fun _ => False) rfl rfl ?aP (fun _ hk => hk.elim) ?aF ?aO ?aB ?aS ?aL ?_; (case aP => exact rfl); (case aB => exact (xG1 HB.out GE233.out)); (case aF => exact (fun k_ hk => Kd.fresh' (Kd.R_lt (xR HO239.out)) k_ hk)); (case aO => exact (zR (rM HO_5.out (fun _ hk => hk.2)))); (case aS => exact (below_size (xG1 HB.out GE233.out))); (case aL => have := LMc11.out; omega); intro v242 w16 ho hb hg hat; rw [← Ny241.out] at ho; replace BK233 := yR BK233 hg (Kd.R_ne HO_5.out BK233.out (by decide)); replace HO239 := aM (Kd.R_after (ok := (fun _ => True)) (xR HO239.out) hg hat); replace HB := aM (hb); have HO243 := aM (ho); clear HO_5; clear ho hb hg hat; refine hK.out _ _ ⟨(bC BK233.out 0).trans rfl, (bC BK233.out 1).trans rfl⟩ (fun hHeld => ?_); clear hK K; refine norm_ (a' := ?_) ?_ ?_
   rotate_left
   ·
    show Act.put _ (some 23) _ = _; simp only [Act.put, sA, sZ, sU, i64_w, i32_w]; rfl
   refine yP 10 5 (bm 11 2047) HT_ ?_; refine done_ (done_of HT_.out (by kernel_rfl)) ?_; try go_wp2
   go_roundg k1; case measure => have := HK1.out; omega
   case rel => exact ⟨(y241), (wrap64 (x6_1 + 1)), yZ, H', ⟨by have := HK1.out; omega⟩, ⟨zR (rM HO243.out (fun _ hk => trivial))⟩, ⟨xB BK233.out⟩, ⟨xG1 HB.out GE233.out⟩⟩
end Go.Proofs.Ytmfmgnpefjmieaa.PFnTables
