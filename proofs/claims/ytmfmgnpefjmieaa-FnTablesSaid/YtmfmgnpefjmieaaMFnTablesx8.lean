-- Laid for this claim by a program of the session's own (wip/tool/myprint.py).
import Derived.Test.YtmfmgnpefjmieaaMFnTablesx7
namespace Go.Proofs.Ytmfmgnpefjmieaa.PFnTables
open Go.RowKit Go.Proofs.YtmfmgnpefjmieaaW.PrintWords Go.Proofs.YtmfmgnpefjmieaaW.PrintLast Go.Proofs.YtmfmgnpefjmieaaW.PrintMore
attribute [local go_sem] max2_int min2_int max_two min_two max_three min_three max_four min_four
set_option linter.unusedVariables false
set_option maxHeartbeats 8000000
set_option maxRecDepth 100000
set_option linter.unusedSimpArgs false
def spec_l1Rising.l0 : Nat → List Int → Int → Int → Int → Option (Bool)
  | 0, _, _, _, _ => none
  | k + 1, x0, x1, x2, x7 => if x7 < (x0.length : Int) then (if 0 ≤ x7 then ((spec_l1In.f (rd x0 x7) x1 x2).bind fun t337 => (if t337 = true then (if x7 > 0 then (if 0 ≤ (wrap64 (x7 - 1)) then (if (wrap64 (x7 - 1)) < (x0.length : Int) then (if (rd x0 (wrap64 (x7 - 1))) ≥ (rd x0 x7) then (some false) else (spec_l1Rising.l0 k x0 x1 x2 (wrap64 (x7 + 1)))) else (none)) else (none)) else (spec_l1Rising.l0 k x0 x1 x2 (wrap64 (x7 + 1)))) else (some false))) else (none)) else (some true)
def spec_l1Rising.f (k : Nat) (l0 : List Int) (a1 : Int) (a2 : Int) : Option (Bool) := spec_l1Rising.l0 k l0 a1 a2 0
theorem spec_l1Rising.calls (k : Nat) (A0 : Option Addr) (c0 : Nat) (l0 : List Int) (a1 : Int) (a2 : Int) (r : Bool) (w : World) (hr0 : Kd.C (Kd.int .i64) w A0 l0.length l0) (hc0 : l0.length ≤ c0) (h : spec_l1Rising.f k l0 a1 a2 = some r) :
    Calls Try.prog 102 #[.slice A0 l0.length c0, .int .i64 a1, .int .i64 a2] w fun e w' => e = .returned (.bool r) ∧ Drawn0 w w' := by
 have HR0 := aM hr0; have HC0 := aM hc0; clear hr0 hc0; have H : (spec_l1Rising.l0 k l0 a1 a2 0) = some r := h; clear h; have H' := aM H; clear H; go_enter Try.func102, Try.ntmps102; go_wp2
 repeat (go_quiet (fail); try go_wp2)
 go_loopg [7] k (fun kq v7 w' => ∃ (x7_1 : Int), v7 = .int .i64 x7_1 ∧ Aside0 (spec_l1Rising.l0 kq l0 a1 a2 x7_1 = some r) ∧ Aside0 (kq ≤ k) ∧ Drawn0 w w'); case atStart => exact ⟨(0), yZ, H', ⟨Nat.le_refl _⟩, yDn⟩
 case round =>
  clear H'; try clear c1
  obtain ⟨x7_1, rfl, HA, HK1, ⟨m1, rfl⟩⟩ := hrel; cases gk with
  | zero => exact absurd HA.out (by simp [spec_l1Rising.l0])
  | succ k1 =>
   have H := HA.out; clear HA; simp only [spec_l1Rising.l0] at H; obtain ⟨-, c4b0, H⟩ | ⟨-, c4b0, H⟩ := yif H
   rotate_left
   ·
    obtain rfl := Option.some.inj H; go_wp2
    repeat (go_quiet (fail); try go_wp2)
    go_ret; exact ⟨yZ, yDn⟩
   obtain ⟨-, c5b0, H⟩ | ⟨c5, -, H⟩ := yif H
   rotate_left
   · exact absurd H (by simp)
   replace H := oA H; obtain ⟨t337, A6, H⟩ := H; by_cases c7 : t337 = true
   rotate_left
   ·
    replace c7 := Bool.eq_false_iff.mpr c7; subst c7; rw [if_neg (show ¬ (false = true) by decide)] at H; obtain rfl := Option.some.inj H; obtain ⟨ad336, e336, hx336_0, p336, q336⟩ := yi HR0.out x7_1; cases e336
    go_wp2_with (first | (go_at_call 111; (with_reducible refine (spec_l1In.calls (rd l0 x7_1) a1 a2 false _ A6.out).mono ?_); rintro e w' ⟨rfl, ⟨nd, rfl⟩⟩; (try exact yDr)))
    repeat (go_quiet (first | (go_at_call 111; (with_reducible refine (spec_l1In.calls (rd l0 x7_1) a1 a2 false _ A6.out).mono ?_); rintro e w' ⟨rfl, ⟨nd, rfl⟩⟩; (try exact yDr))); try go_wp2_with (first | (go_at_call 111; (with_reducible refine (spec_l1In.calls (rd l0 x7_1) a1 a2 false _ A6.out).mono ?_); rintro e w' ⟨rfl, ⟨nd, rfl⟩⟩; (try exact yDr))))
    go_ret; exact ⟨yZ, yDn⟩
   subst c7; rw [if_pos rfl] at H; obtain ⟨c8, -, H⟩ | ⟨c8, -, H⟩ := yif H
   rotate_left
   ·
    have c8b0 : decide (0 < x7_1) = false := decide_eq_false c8; clear c8; have H' := aM H; clear H; obtain ⟨ad336, e336, hx336_0, p336, q336⟩ := yi HR0.out x7_1; cases e336
    go_wp2_with (first | (go_at_call 111; (with_reducible refine (spec_l1In.calls (rd l0 x7_1) a1 a2 true _ A6.out).mono ?_); rintro e w' ⟨rfl, ⟨nd, rfl⟩⟩; (try exact yDr)))
    repeat (go_quiet (first | (go_at_call 111; (with_reducible refine (spec_l1In.calls (rd l0 x7_1) a1 a2 true _ A6.out).mono ?_); rintro e w' ⟨rfl, ⟨nd, rfl⟩⟩; (try exact yDr))); try go_wp2_with (first | (go_at_call 111; (with_reducible refine (spec_l1In.calls (rd l0 x7_1) a1 a2 true _ A6.out).mono ?_); rintro e w' ⟨rfl, ⟨nd, rfl⟩⟩; (try exact yDr))))
    go_roundg k1; case measure => have := HK1.out; omega
    case rel => exact ⟨(wrap64 (x7_1 + 1)), yZ, H', ⟨by have := HK1.out; omega⟩, yDn⟩
   have c8b0 : decide (0 < x7_1) = true := decide_eq_true c8; clear c8; obtain ⟨ji9, hji9⟩ := yJ ((wrap64 (x7_1 - 1))); (first | rw [hji9] at H | simp only [hji9] at H); (try rw [hji9] at A6); have hji9w : (IntKind.i64.wrap (x7_1 - 1)) = ji9 := (i64_w _).trans hji9; obtain ⟨-, c10b0, H⟩ | ⟨c10, -, H⟩ := yif H
   rotate_left
   · exact absurd H (by simp)
   obtain ⟨-, c11b0, H⟩ | ⟨c11, -, H⟩ := yif H
   rotate_left
   · exact absurd H (by simp)
   obtain ⟨c12, -, H⟩ | ⟨c12, -, H⟩ := yif H
   ·
    have c12b0 : decide ((rd l0 x7_1) ≤ (rd l0 (ji9))) = true := decide_eq_true c12; clear c12; obtain rfl := Option.some.inj H; obtain ⟨ad336, e336, hx336_0, p336, q336⟩ := yi HR0.out x7_1; cases e336
    go_wp2_with (first | (go_at_call 111; (with_reducible refine (spec_l1In.calls (rd l0 x7_1) a1 a2 true _ A6.out).mono ?_); rintro e w' ⟨rfl, ⟨nd, rfl⟩⟩; (try exact yDr); have p338 : 0 ≤ ((ji9) : Int) := yA; have q338 : (ji9) < (l0.length : Int) := yA; obtain ⟨ad338, e338, hx338_0⟩ := Kd.at_int HR0.out (ji9) p338 q338; obtain rfl : ad336 = ad338 := (by injection e338); replace p338 := eq_true p338; replace q338 := eq_true q338; have p339 : 0 ≤ (x7_1 : Int) := yA; have q339 : x7_1 < (l0.length : Int) := yA; obtain ⟨ad339, e339, hx339_0⟩ := Kd.at_int HR0.out x7_1 p339 q339; obtain rfl : ad336 = ad339 := (by injection e339); replace p339 := eq_true p339; replace q339 := eq_true q339))
    repeat (go_quiet (first | (go_at_call 111; (with_reducible refine (spec_l1In.calls (rd l0 x7_1) a1 a2 true _ A6.out).mono ?_); rintro e w' ⟨rfl, ⟨nd, rfl⟩⟩; (try exact yDr); have p338 : 0 ≤ ((ji9) : Int) := yA; have q338 : (ji9) < (l0.length : Int) := yA; obtain ⟨ad338, e338, hx338_0⟩ := Kd.at_int HR0.out (ji9) p338 q338; obtain rfl : ad336 = ad338 := (by injection e338); replace p338 := eq_true p338; replace q338 := eq_true q338; have p339 : 0 ≤ (x7_1 : Int) := yA; have q339 : x7_1 < (l0.length : Int) := yA; obtain ⟨ad339, e339, hx339_0⟩ := Kd.at_int HR0.out x7_1 p339 q339; obtain rfl : ad336 = ad339 := (by injection e339); replace p339 := eq_true p339; replace q339 := eq_true q339)); try go_wp2_with (first | (go_at_call 111; (with_reducible refine (spec_l1In.calls (rd l0 x7_1) a1 a2 true _ A6.out).mono ?_); rintro e w' ⟨rfl, ⟨nd, rfl⟩⟩; (try exact yDr); have p338 : 0 ≤ ((ji9) : Int) := yA; have q338 : (ji9) < (l0.length : Int) := yA; obtain ⟨ad338, e338, hx338_0⟩ := Kd.at_int HR0.out (ji9) p338 q338; obtain rfl : ad336 = ad338 := (by injection e338); replace p338 := eq_true p338; replace q338 := eq_true q338; have p339 : 0 ≤ (x7_1 : Int) := yA; have q339 : x7_1 < (l0.length : Int) := yA; obtain ⟨ad339, e339, hx339_0⟩ := Kd.at_int HR0.out x7_1 p339 q339; obtain rfl : ad336 = ad339 := (by injection e339); replace p339 := eq_true p339; replace q339 := eq_true q339)))
    go_ret; exact ⟨by first | rfl | (simp; done) | (simp only [← hji9] <;> (first | rfl | simp)) | (simp [*]; done), yDn⟩
   have c12b0 : decide ((rd l0 x7_1) ≤ (rd l0 (ji9))) = false := decide_eq_false c12; clear c12; have H' := aM H; clear H; obtain ⟨ad336, e336, hx336_0, p336, q336⟩ := yi HR0.out x7_1; cases e336
   go_wp2_with (first | (go_at_call 111; (with_reducible refine (spec_l1In.calls (rd l0 x7_1) a1 a2 true _ A6.out).mono ?_); rintro e w' ⟨rfl, ⟨nd, rfl⟩⟩; (try exact yDr); have p338 : 0 ≤ ((ji9) : Int) := yA; have q338 : (ji9) < (l0.length : Int) := yA; obtain ⟨ad338, e338, hx338_0⟩ := Kd.at_int HR0.out (ji9) p338 q338; obtain rfl : ad336 = ad338 := (by injection e338); replace p338 := eq_true p338; replace q338 := eq_true q338; have p339 : 0 ≤ (x7_1 : Int) := yA; have q339 : x7_1 < (l0.length : Int) := yA; obtain ⟨ad339, e339, hx339_0⟩ := Kd.at_int HR0.out x7_1 p339 q339; obtain rfl : ad336 = ad339 := (by injection e339); replace p339 := eq_true p339; replace q339 := eq_true q339))
   repeat (go_quiet (first | (go_at_call 111; (with_reducible refine (spec_l1In.calls (rd l0 x7_1) a1 a2 true _ A6.out).mono ?_); rintro e w' ⟨rfl, ⟨nd, rfl⟩⟩; (try exact yDr); have p338 : 0 ≤ ((ji9) : Int) := yA; have q338 : (ji9) < (l0.length : Int) := yA; obtain ⟨ad338, e338, hx338_0⟩ := Kd.at_int HR0.out (ji9) p338 q338; obtain rfl : ad336 = ad338 := (by injection e338); replace p338 := eq_true p338; replace q338 := eq_true q338; have p339 : 0 ≤ (x7_1 : Int) := yA; have q339 : x7_1 < (l0.length : Int) := yA; obtain ⟨ad339, e339, hx339_0⟩ := Kd.at_int HR0.out x7_1 p339 q339; obtain rfl : ad336 = ad339 := (by injection e339); replace p339 := eq_true p339; replace q339 := eq_true q339)); try go_wp2_with (first | (go_at_call 111; (with_reducible refine (spec_l1In.calls (rd l0 x7_1) a1 a2 true _ A6.out).mono ?_); rintro e w' ⟨rfl, ⟨nd, rfl⟩⟩; (try exact yDr); have p338 : 0 ≤ ((ji9) : Int) := yA; have q338 : (ji9) < (l0.length : Int) := yA; obtain ⟨ad338, e338, hx338_0⟩ := Kd.at_int HR0.out (ji9) p338 q338; obtain rfl : ad336 = ad338 := (by injection e338); replace p338 := eq_true p338; replace q338 := eq_true q338; have p339 : 0 ≤ (x7_1 : Int) := yA; have q339 : x7_1 < (l0.length : Int) := yA; obtain ⟨ad339, e339, hx339_0⟩ := Kd.at_int HR0.out x7_1 p339 q339; obtain rfl : ad336 = ad339 := (by injection e339); replace p339 := eq_true p339; replace q339 := eq_true q339)))
   go_roundg k1; case measure => have := HK1.out; omega
   case rel => exact ⟨(wrap64 (x7_1 + 1)), yZ, H', ⟨by have := HK1.out; omega⟩, yDn⟩
mutual
def spec_FlipBits.j0 : Nat → List Int → List Int → List Int → Bool → Option (List Int × Bool)
  | 0, _, _, _, _ => none
  | k + 1, x1, x2, x8, x23 => if x23 = true then (some (x8, false)) else (spec_FlipBits.l0 k x1 x2 x8 0)
def spec_FlipBits.l0 : Nat → List Int → List Int → List Int → Int → Option (List Int × Bool)
  | 0, _, _, _, _ => none
  | k + 1, x1, x2, x8, x9 => if x9 < (x1.length : Int) then (spec_FlipBits.l1 k x1 x2 x8 x9 x9 0) else (some (x8, true))
def spec_FlipBits.l1 : Nat → List Int → List Int → List Int → Int → Int → Int → Option (List Int × Bool)
  | 0, _, _, _, _, _, _ => none
  | k + 1, x1, x2, x8, x9, x10, x11 => if x11 < (x2.length : Int) then (if 0 ≤ x11 then (if 0 ≤ (rd x2 x11) then (spec_FlipBits.l1 k x1 x2 x8 x9 (Go.bits .xor .i64 x10 (shl .i64 1 (rd x2 x11))) (wrap64 (x11 + 1))) else (none)) else (none)) else (if 0 ≤ x10 then (if x10 < (x1.length : Int) then (if x8.length < 17592186044416 then (spec_FlipBits.l0 k x1 x2 (x8 ++ [rd x1 x10]) (wrap64 (x9 + 1))) else (none)) else (none)) else (none))
end
def spec_FlipBits.f (k : Nat) (a0 : Int) (l1 : List Int) (l2 : List Int) : Option (List Int × Bool) := (some (([] : List Int) : List Int)).bind fun y340 => ((spec_l2Table.f k a0 l1).bind fun t343 => (if t343 = true then ((spec_l1Rising.f k l2 0 (wrap64 (a0 - 1))).bind fun t344 => (spec_FlipBits.j0 k l1 l2 y340 (!t344))) else (spec_FlipBits.j0 k l1 l2 y340 true)))
theorem spec_FlipBits.calls (k : Nat) (a0 : Int) (A1 : Option Addr) (c1 : Nat) (l1 : List Int) (A2 : Option Addr) (c2 : Nat) (l2 : List Int) (r1 : List Int) (r2 : Bool) (w : World) (hr1 : Kd.C (Kd.int .i64) w A1 l1.length l1) (hc1 : l1.length ≤ c1) (hr2 : Kd.C (Kd.int .i64) w A2 l2.length l2) (hc2 : l2.length ≤ c2) (h : spec_FlipBits.f k a0 l1 l2 = some (r1, r2)) :
    Calls Try.prog 38 #[.int .i64 a0, .slice A1 l1.length c1, .slice A2 l2.length c2] w fun e w' => ∃ v0_ : Value, e = .returned (.tuple #[v0_, .bool r2]) ∧ Kd.R (Kd.int .i64) 3 w' w.heap.size (fun _ => True) v0_ r1 ∧ Below w.heap.size w w' := by
 have HR1 := aM hr1; have HC1 := aM hc1; clear hr1 hc1; have HR2 := aM hr2; have HC2 := aM hc2; clear hr2 hc2; have HB := aM (Below.refl w.heap.size w); have H : ((some (([] : List Int) : List Int)).bind fun y340 => ((spec_l2Table.f k a0 l1).bind fun t343 => (if t343 = true then ((spec_l1Rising.f k l2 0 (wrap64 (a0 - 1))).bind fun t344 => (spec_FlipBits.j0 k l1 l2 y340 (!t344))) else (spec_FlipBits.j0 k l1 l2 y340 true)))) = some (r1, r2) := h; clear h; obtain ⟨y340, hy340⟩ := yE (([] : List Int) : List Int); replace H : ((spec_l2Table.f k a0 l1).bind fun t343 => (if t343 = true then ((spec_l1Rising.f k l2 0 (wrap64 (a0 - 1))).bind fun t344 => (spec_FlipBits.j0 k l1 l2 y340 (!t344))) else (spec_FlipBits.j0 k l1 l2 y340 true))) = some (r1, r2) := yI hy340 H; have Ny340 := aM hy340; clear hy340; have HC4 := aM H; clear H; go_enter Try.func38, Try.ntmps38; go_upto_region 2 with (first | ((with_reducible refine gate_dst (N := 12) rfl ?_); refine Kd.R_lit (Kd.int .i64) _ 3 ?hg (N := 12) ?hd (xs := ([] : List Int)) (inner := []) (ok := fun _ => True) (okp := fun _ => True) ?hr ?hp (fun _ hk => hk) trivial (Below.refl _ _) (Nat.le_refl _) (by simp) ?_; (case hd => rfl); (case hg => rfl); (case hr => first | (go_simp; done) | (go_simp; rfl)); (case hp => exact (Reps.none _ _)); intro v341 w5 ho6 hb hg_ hnew_; clear hg_ hnew_; (first | rw [← Ny340.out] at ho6 | (simp only [Int.reduceToNat] at ho6; rw [← Ny340.out] at ho6)); have HO342 := aM (Kd.R_lower ho6 (below_size (xH HB.out))); replace HB := yS0 HB hb; clear hb ho6)); (try simp only [Act.put, sA, sZ, sU]); go_cut [23] (fun v23 wc => ∃ (kq : Nat) (x23_3 : Bool), v23 = .bool x23_3 ∧ Aside0 (spec_FlipBits.j0 kq l1 l2 y340 x23_3 = some (r1, r2)) ∧ Aside0 (kq ≤ k) ∧ Aside0 (Kd.R (Kd.int .i64) 3 wc w.heap.size (fun _ => True) v341 y340) ∧ Aside0 (Below w.heap.size w wc))
 case first =>
  have H := HC4.out; clear HC4; replace H := oA H; obtain ⟨t343, A7, H⟩ := H; by_cases c8 : t343 = true
  rotate_left
  ·
   replace c8 := Bool.eq_false_iff.mpr c8; subst c8; rw [if_neg (show ¬ (false = true) by decide)] at H; have H' := aM H; clear H; go_wp2_with (first | (refine yL 15 Try.func76 #[.int .i64 a0, .slice A1 l1.length c1] ?_; (with_reducible refine (spec_l2Table.calls k a0 _ _ l1 false _ (xC (Kd.C_below HR1.out HB.out)) HC1.out A7.out).mono ?_); rintro e w' ⟨rfl, ⟨nd, rfl⟩⟩; refine ⟨_, rfl, ?_⟩)); go_meet; case rel => exact ⟨_, (true), yZ, H', ⟨yM⟩, ⟨xR HO342.out⟩, ⟨xH HB.out⟩⟩
  subst c8; rw [if_pos rfl] at H; replace H := oA H; obtain ⟨t344, A9, H⟩ := H; have H' := aM H; clear H; go_wp2_with (first | (refine yL 15 Try.func76 #[.int .i64 a0, .slice A1 l1.length c1] ?_; (with_reducible refine (spec_l2Table.calls k a0 _ _ l1 true _ (xC (Kd.C_below HR1.out HB.out)) HC1.out A7.out).mono ?_); rintro e w' ⟨rfl, ⟨nd, rfl⟩⟩; refine ⟨_, rfl, ?_⟩) | (go_at_call 102; (with_reducible refine (spec_l1Rising.calls k _ _ l2 0 (wrap64 (a0 - 1)) t344 _ (xC (Kd.C_below HR2.out (xH HB.out))) HC2.out A9.out).mono ?_); rintro e w' ⟨rfl, ⟨nd, rfl⟩⟩)); go_meet; case rel => exact ⟨_, (!t344), yZ, H', ⟨yM⟩, ⟨xR HO342.out⟩, ⟨xH HB.out⟩⟩
 case rest =>
  clear HC4; try clear c1
  try clear c2
  try clear c7
  try clear c8
  obtain ⟨kq, x23_3, rfl, HA, HJ3, HO_8, HB⟩ := hcut; cases kq with
  | zero => exact absurd HA.out (by simp [spec_FlipBits.j0])
  | succ kj3 =>
   have H := HA.out; clear HA; simp only [spec_FlipBits.j0] at H; by_cases c10 : x23_3 = true
   ·
    subst c10; rw [if_pos rfl] at H; simp only [Option.some.injEq, Prod.mk.injEq] at H; obtain ⟨rfl, rfl⟩ := H; go_wp2; go_ret2; exact ⟨_, yF, xR HO_8.out, xH HB.out⟩
   replace c10 := Bool.eq_false_iff.mpr c10; subst c10; rw [if_neg (show ¬ (false = true) by decide)] at H; have H' := aM H; clear H; go_wp2; go_loopg [8, 9] kj3 (fun kq v8 v9 w' => ∃ (x8_2 : List Int) (x9_2 : Int), v9 = .int .i64 x9_2 ∧ Aside0 (spec_FlipBits.l0 kq l1 l2 x8_2 x9_2 = some (r1, r2)) ∧ Aside0 (kq ≤ kj3) ∧ Aside0 (Kd.R (Kd.int .i64) 3 w' w.heap.size (fun _ => True) v8 x8_2) ∧ Aside0 (Below w.heap.size w w')); case atStart => exact ⟨(y340), (0), yZ, H', ⟨Nat.le_refl _⟩, ⟨xR HO_8.out⟩, ⟨xH HB.out⟩⟩
   case round =>
    clear H'; try clear c10
    obtain ⟨x8_2, x9_2, rfl, HA, HK2, HO_8, HB⟩ := hrel; cases gk with
    | zero => exact absurd HA.out (by simp [spec_FlipBits.l0])
    | succ k2 =>
     have H := HA.out; clear HA; simp only [spec_FlipBits.l0] at H; obtain ⟨c11, c11b0, H⟩ | ⟨-, c11b0, H⟩ := yif H
     rotate_left
     ·
      simp only [Option.some.injEq, Prod.mk.injEq] at H; obtain ⟨rfl, rfl⟩ := H; go_wp2; go_ret2; exact ⟨_, yF, xR HO_8.out, xH HB.out⟩
     clear c11; have H' := aM H; clear H; go_wp2; go_loopg [10, 11] k2 (fun kq v10 v11 w' => ∃ (x10_3 : Int) (x11_3 : Int), v10 = .int .i64 x10_3 ∧ v11 = .int .i64 x11_3 ∧ Aside0 (spec_FlipBits.l1 kq l1 l2 x8_2 x9_2 x10_3 x11_3 = some (r1, r2)) ∧ Aside0 (kq ≤ k2) ∧ Aside0 (Kd.R (Kd.int .i64) 3 w' w.heap.size (fun _ => True) u8 x8_2) ∧ Aside0 (Below w.heap.size w w')); case atStart => exact ⟨(x9_2), (0), yZ, yZ, H', ⟨Nat.le_refl _⟩, ⟨xR HO_8.out⟩, ⟨xH HB.out⟩⟩
     case round =>
      clear H'; try clear c11
      try clear c11b0
      obtain ⟨x10_3, x11_3, rfl, rfl, HA, HK3, HO_8, HB⟩ := hrel; cases gk with
      | zero => exact absurd HA.out (by simp [spec_FlipBits.l1])
      | succ k3 =>
       have H := HA.out; clear HA; simp only [spec_FlipBits.l1] at H; obtain ⟨-, c12b0, H⟩ | ⟨-, c12b0, H⟩ := yif H
       ·
        obtain ⟨-, c13b0, H⟩ | ⟨c13, -, H⟩ := yif H
        rotate_left
        · exact absurd H (by simp)
        obtain ⟨c14, -, H⟩ | ⟨c14, -, H⟩ := yif H
        rotate_left
        · exact absurd H (by simp)
        have c14b0 := eq_true c14; have c14b1 : decide (0 ≤ (rd l2 x11_3)) = true := decide_eq_true c14; clear c14; obtain ⟨ji15, hji15⟩ := yJ ((shl .i64 1 (rd l2 x11_3))); (first | rw [hji15] at H | simp only [hji15] at H); have hji15_ : (IntKind.i64.wrap (1 * 2 ^ min (rd l2 x11_3).toNat 64)) = ji15 := hji15; have hji15z : (rd l2 x11_3) ≤ 64 → (IntKind.i64.wrap (1 * 2 ^ (rd l2 x11_3).toNat)) = ji15 := shl_small hji15; have hji15u : (IntKind.i64.wrap (2 ^ min (rd l2 x11_3).toNat 64)) = ji15 := by have h_ := hji15_; rw [Int.one_mul] at h_; exact h_
        have hji15v : (rd l2 x11_3) ≤ 64 → (IntKind.i64.wrap (2 ^ (rd l2 x11_3).toNat)) = ji15 := fun hle_ => by have h_ := hji15z hle_; rw [Int.one_mul] at h_; exact h_
        have hji15y : (wrap64 (1 * 2 ^ min (rd l2 x11_3).toNat 64)) = ji15 := (i64_w _).symm.trans hji15_; have hji15x : (rd l2 x11_3) ≤ 64 → (wrap64 (1 * 2 ^ (rd l2 x11_3).toNat)) = ji15 := fun h_ => (i64_w _).symm.trans (hji15z h_); have H' := aM H; clear H; obtain ⟨ad345, e345, hx345_0, p345, q345⟩ := yi HR2.out x11_3; cases e345
        replace hx345_0 := yc HB hx345_0; go_wp2; go_roundg k3; case measure => have := HJ3.out; have := HK2.out; have := HK3.out; omega
        case rel => exact ⟨(Go.bits .xor .i64 x10_3 (ji15)), (wrap64 (x11_3 + 1)), (by first | rfl | (simp; done) | (simp only [← hji15] <;> (first | rfl | simp)) | (simp [*]; done)), yZ, H', ⟨by have := HJ3.out; have := HK2.out; have := HK3.out; omega⟩, ⟨xR HO_8.out⟩, ⟨xH HB.out⟩⟩
       obtain ⟨-, c16b0, H⟩ | ⟨c16, -, H⟩ := yif H
       rotate_left
       · exact absurd H (by simp)
       obtain ⟨-, c17b0, H⟩ | ⟨c17, -, H⟩ := yif H
       rotate_left
       · exact absurd H (by simp)
       obtain ⟨c18, -, H⟩ | ⟨c18, -, H⟩ := yif H
       rotate_left
       · exact absurd H (by simp)
       have LMc18 := aM c18; clear c18; obtain ⟨y347, hy347⟩ := yE (x8_2 ++ [rd l1 x10_3] : List Int); replace H : (spec_FlipBits.l0 k3 l1 l2 y347 (wrap64 (x9_2 + 1))) = some (r1, r2) := yI hy347 H; have Ny347 := aM hy347; clear hy347; have H' := aM H; clear H; obtain ⟨ad346, e346, hx346_0, p346, q346⟩ := yi HR1.out x10_3; cases e346
       replace hx346_0 := yc HB hx346_0; go_wp2_with (first | ((with_reducible refine gate_builtin (b := .append) (xs := #[.tmp 45, .tmp 50]) rfl ?_); at_builtin; refine Kd.R_append (Kd.int .i64) (w0 := w) w.heap.size rfl (.tmp 45) (.tmp 50) 24 3 (.int .i64 0) 8 rfl Try.underlying24 info3 rfl (by decide) (by omega) u8 x8_2 (rd l1 x10_3) [.int .i64 (rd l1 x10_3)] (fun _ => True) (fun _ => False) rfl rfl ?aP (fun _ hk => hk.elim) ?aF ?aO ?aB ?aS ?aL ?_; (case aP => exact rfl); (case aB => exact (xH HB.out)); (case aF => exact (fun _ _ => trivial)); (case aO => exact (xR HO_8.out)); (case aS => exact (below_size (xH HB.out))); (case aL => have := LMc18.out; omega); intro v348 w19 ho hb hg hat; rw [← Ny347.out] at ho; replace HB := aM (hb); have HO349 := aM (ho); clear HO_8; clear ho hb hg hat)); go_roundg k3; case measure => have := HJ3.out; have := HK2.out; have := HK3.out; omega
       case rel => exact ⟨(y347), (wrap64 (x9_2 + 1)), yZ, H', ⟨by have := HJ3.out; have := HK2.out; have := HK3.out; omega⟩, ⟨xR HO349.out⟩, ⟨xH HB.out⟩⟩
theorem dual1 (j : Int) (gb : Nat) (A1 : Option Addr) (c1 : Nat) (l1 : List Int) (W : World) (hb : W.heap[gb]? = some (.cells #[.slice A1 l1.length c1] 24 (0, 0)))
    (hr : Kd.C (Kd.int .i64) W A1 l1.length l1) (h0 : 0 ≤ wrap64 (wrap64 ((l1.length : Int) - 1) - j)) (h1 : wrap64 (wrap64 ((l1.length : Int) - 1) - j) < (l1.length : Int)) :
    Calls Try.prog 103 #[.int .i64 j, .pointer (some ⟨gb, 0, none⟩)] W fun e W' => e = .returned (.int .i64 (wrap64 (1 - rd l1 (wrap64 (wrap64 ((l1.length : Int) - 1) - j))))) ∧ Drawn0 W W' := by
  have hb0 : W.cell? ⟨gb, 0, none⟩ = some (.slice A1 l1.length c1) := (bC hb 0).trans rfl; have hfb := bF hb 0; have HB := aM hb; clear hb; obtain ⟨y, hy⟩ : ∃ y : Int, wrap64 ((l1.length : Int) - 1) = y := ⟨_, rfl⟩
  rw [hy] at h0 h1 ⊢; obtain ⟨x, hx⟩ : ∃ x : Int, wrap64 (y - j) = x := ⟨_, rfl⟩
  rw [hx] at h0 h1 ⊢; obtain ⟨ad, ead, hc⟩ := Kd.at_int hr x h0 h1; cases ead
  have c0 := eq_true h0; have c1_ := eq_true h1; go_enter Try.func103, Try.ntmps103; go_wp2
  repeat (go_quiet (fail); try go_wp2)
  go_ret; exact ⟨rfl, yDn⟩
def resAt (j b v : Int) : Int := Go.bits .or .i64 (Go.bits .or .i64 (Go.bits .and .i64 j (wrap64 (wrap64 (2 ^ min b.toNat 64) - 1))) (wrap64 (v * 2 ^ min b.toNat 64))) (wrap64 (wrap64 (j - Go.bits .and .i64 j (wrap64 (wrap64 (2 ^ min b.toNat 64) - 1))) * 2))
theorem restr1 (j b v : Int) (gt gb gv : Nat) (A1 : Option Addr) (c1 : Nat) (l1 : List Int) (W : World) (ht : W.heap[gt]? = some (.cells #[.slice A1 l1.length c1] 24 (0, 0))) (hb : W.heap[gb]? = some (.cells #[.int .i64 b] 3 (0, 0))) (hv : W.heap[gv]? = some (.cells #[.int .i64 v] 3 (0, 0)))
    (hr : Kd.C (Kd.int .i64) W A1 l1.length l1) (hb0 : 0 ≤ b) (h0 : 0 ≤ resAt j b v) (h1 : resAt j b v < (l1.length : Int)) :
    Calls Try.prog 110 #[.int .i64 j, .pointer (some ⟨gb, 0, none⟩), .pointer (some ⟨gt, 0, none⟩), .pointer (some ⟨gv, 0, none⟩)] W fun e W' => e = .returned (.int .i64 (rd l1 (resAt j b v))) ∧ Drawn0 W W' := by
  have ht0 : W.cell? ⟨gt, 0, none⟩ = some (.slice A1 l1.length c1) := (bC ht 0).trans rfl; have hbb0 : W.cell? ⟨gb, 0, none⟩ = some (.int .i64 b) := (bC hb 0).trans rfl; have hv0 : W.cell? ⟨gv, 0, none⟩ = some (.int .i64 v) := (bC hv 0).trans rfl; have hft := bF ht 0; have hfb := bF hb 0; have hfv := bF hv 0; clear ht hb hv; obtain ⟨x, hx⟩ : ∃ x : Int, resAt j b v = x := ⟨_, rfl⟩
  rw [hx] at h0 h1 ⊢; obtain ⟨ad, ead, hc⟩ := Kd.at_int hr x h0 h1; cases ead
  have c0 := eq_true h0; have c1_ := eq_true h1; unfold resAt at hx; go_enter Try.func110, Try.ntmps110; go_wp2; go_region
  all_goals go_wp2
  go_ret; exact ⟨rfl, yDn⟩
def dualsOf (l1 : List Int) : Option (List Int × Bool) :=
  if l1.length ≤ 1048576 ∧ ∀ k, k < l1.length → 0 ≤ wrap64 (wrap64 ((l1.length : Int) - 1) - (k : Int)) ∧ wrap64 (wrap64 ((l1.length : Int) - 1) - (k : Int)) < (l1.length : Int) then some ((List.range l1.length).map fun k : Nat => wrap64 (1 - rd l1 (wrap64 (wrap64 ((l1.length : Int) - 1) - (k : Int)))), true) else none
def impl_DualTable.f (k : Nat) (a0 : Int) (l1 : List Int) : Option (List Int × Bool) :=
  (impl_isTable.f k a0 l1).bind fun t1 => (if t1 = true then (dualsOf l1) else (some ([], false)))
theorem impl_DualTable.calls (k : Nat) (a0 : Int) (A1 : Option Addr) (c1 : Nat) (l1 : List Int) (r1 : List Int) (r2 : Bool) (w : World) (hr1 : Kd.C (Kd.int .i64) w A1 l1.length l1) (hc1 : l1.length ≤ c1) (h : impl_DualTable.f k a0 l1 = some (r1, r2)) :
    Calls Try.prog 39 #[.int .i64 a0, .slice A1 l1.length c1] w fun e w' => ∃ v0_ : Value, e = .returned (.tuple #[v0_, .bool r2]) ∧ Kd.R (Kd.int .i64) 3 w' w.heap.size (fun _ => True) v0_ r1 ∧ Below w.heap.size w w' := by
 have HR1 := aM hr1; have HC1 := aM hc1; clear hr1 hc1; have HB := aM (Below.refl w.heap.size w); unfold impl_DualTable.f at h; replace h := oB.mp h; obtain ⟨t1, A1_, h⟩ := h; have AA1 := aM A1_; clear A1_; by_cases c4 : t1 = true
 rotate_left
 ·
  rw [if_neg c4] at h; have e_ := Bool.eq_false_iff.2 c4; subst e_; simp only [Option.some.injEq, Prod.mk.injEq] at h; obtain ⟨rfl, rfl⟩ := h; go_enter Try.func39, Try.ntmps39; go_wp2_with (first | (refine yB 3 #[.slice A1 l1.length c1] 24 ?_; intro gb hg wBgb hbox hb; have BKgb := aM hbox; have GEgb := aM ((by rw [hg]; exact (below_size (xH HB.out))) : w.heap.size ≤ gb); replace HB := yS0 HB hb; have hczgb := (bC BKgb.out 0).trans rfl; have hfzgb := bF BKgb.out 0; clear hb hbox hg) | (go_at_call 74; (with_reducible refine (impl_isTable.calls k a0 _ _ l1 false _ (xC (Kd.C_below HR1.out (xH HB.out))) HC1.out AA1.out).mono ?_); rintro e w' ⟨rfl, ⟨nd, rfl⟩⟩)); go_ret2; exact ⟨_, rfl, Kd.R_nil .., (xH HB.out)⟩
 subst c4; rw [if_pos rfl] at h
 have hcond : l1.length ≤ 1048576 ∧ ∀ k, k < l1.length → 0 ≤ wrap64 (wrap64 ((l1.length : Int) - 1) - (k : Int)) ∧ wrap64 (wrap64 ((l1.length : Int) - 1) - (k : Int)) < (l1.length : Int) := by
  unfold dualsOf at h; by_cases c : l1.length ≤ 1048576 ∧ ∀ k, k < l1.length → 0 ≤ wrap64 (wrap64 ((l1.length : Int) - 1) - (k : Int)) ∧ wrap64 (wrap64 ((l1.length : Int) - 1) - (k : Int)) < (l1.length : Int)
  · exact c
  · rw [if_neg c] at h; cases h
 unfold dualsOf at h; rw [if_pos hcond] at h; simp only [Option.some.injEq, Prod.mk.injEq] at h; obtain ⟨rfl, rfl⟩ := h; have HCD := aM hcond; clear hcond; go_enter Try.func39, Try.ntmps39; go_wp2_with (first | (refine yB 3 #[.slice A1 l1.length c1] 24 ?_; intro gb hg wBgb hbox hb; have BKgb := aM hbox; have GEgb := aM ((by rw [hg]; exact (below_size (xH HB.out))) : w.heap.size ≤ gb); replace HB := yS0 HB hb; have hczgb := (bC BKgb.out 0).trans rfl; have hfzgb := bF BKgb.out 0; clear hb hbox hg) | (go_at_call 74; (with_reducible refine (impl_isTable.calls k a0 _ _ l1 true _ (xC (Kd.C_below HR1.out (xH HB.out))) HC1.out AA1.out).mono ?_); rintro e w' ⟨rfl, ⟨nd, rfl⟩⟩) | (go_at_call 100; (refine (looked_calls l1.length HCD.out.1 103 Try.f103 Try.func103 (by kernel_rfl) rfl #[.pointer (some ⟨gb, 0, none⟩)] (fun k : Nat => wrap64 (1 - rd l1 (wrap64 (wrap64 ((l1.length : Int) - 1) - (k : Int))))) _ (fun i hi W hW => (dual1 i gb A1 c1 l1 W ?h1 ?h2 (HCD.out.2 i hi).1 (HCD.out.2 i hi).2).mono (fun e W' hh => ⟨hh.1, hh.2.below⟩))).mono ?_); (case h1 => exact (hW.block gb (blk_lt BKgb.out)).trans BKgb.out); (case h2 => exact Kd.C_below (Kd.C_below HR1.out (xH HB.out)) hW); rintro e w' ⟨v0, rfl, ho, hb⟩; have HO := aM (Kd.R_lower ho (below_size (xH HB.out))); have n0_ := yS0 HB hb; clear HB; have HB := n0_; clear n0_ ho hb)); go_ret2; exact ⟨_, rfl, HO.out, HB.out⟩
def spec_DualTable.l0 : Nat → List Int → List Int → Int → Option (List Int × Bool)
  | 0, _, _, _ => none
  | k + 1, x1, x6, x7 => if x7 < (x1.length : Int) then (if 0 ≤ (wrap64 ((wrap64 ((x1.length : Int) - 1)) - x7)) then (if (wrap64 ((wrap64 ((x1.length : Int) - 1)) - x7)) < (x1.length : Int) then (if x6.length < 17592186044416 then (spec_DualTable.l0 k x1 (x6 ++ [wrap64 (1 - (rd x1 (wrap64 ((wrap64 ((x1.length : Int) - 1)) - x7))))]) (wrap64 (x7 + 1))) else (none)) else (none)) else (none)) else (some (x6, true))
def spec_DualTable.f (k : Nat) (a0 : Int) (l1 : List Int) : Option (List Int × Bool) := (some (([] : List Int) : List Int)).bind fun y350 => ((spec_l2Table.f k a0 l1).bind fun t353 => (if t353 = true then (spec_DualTable.l0 k l1 y350 0) else (some (y350, false))))
theorem spec_DualTable.calls (k : Nat) (a0 : Int) (A1 : Option Addr) (c1 : Nat) (l1 : List Int) (r1 : List Int) (r2 : Bool) (w : World) (hr1 : Kd.C (Kd.int .i64) w A1 l1.length l1) (hc1 : l1.length ≤ c1) (h : spec_DualTable.f k a0 l1 = some (r1, r2)) :
    Calls Try.prog 40 #[.int .i64 a0, .slice A1 l1.length c1] w fun e w' => ∃ v0_ : Value, e = .returned (.tuple #[v0_, .bool r2]) ∧ Kd.R (Kd.int .i64) 3 w' w.heap.size (fun _ => True) v0_ r1 ∧ Below w.heap.size w w' := by
 have HR1 := aM hr1; have HC1 := aM hc1; clear hr1 hc1; have HB := aM (Below.refl w.heap.size w); have H : ((some (([] : List Int) : List Int)).bind fun y350 => ((spec_l2Table.f k a0 l1).bind fun t353 => (if t353 = true then (spec_DualTable.l0 k l1 y350 0) else (some (y350, false))))) = some (r1, r2) := h; clear h; obtain ⟨y350, hy350⟩ := yE (([] : List Int) : List Int); replace H : ((spec_l2Table.f k a0 l1).bind fun t353 => (if t353 = true then (spec_DualTable.l0 k l1 y350 0) else (some (y350, false)))) = some (r1, r2) := yI hy350 H; have Ny350 := aM hy350; clear hy350; replace H := oA H; obtain ⟨t353, A3, H⟩ := H; by_cases c4 : t353 = true
 rotate_left
 ·
  replace c4 := Bool.eq_false_iff.mpr c4; subst c4; rw [if_neg (show ¬ (false = true) by decide)] at H; simp only [Option.some.injEq, Prod.mk.injEq] at H; obtain ⟨rfl, rfl⟩ := H; go_enter Try.func40, Try.ntmps40; go_wp2_with (first | ((with_reducible refine gate_dst (N := 8) rfl ?_); refine Kd.R_lit (Kd.int .i64) _ 3 ?hg (N := 8) ?hd (xs := ([] : List Int)) (inner := []) (ok := fun _ => True) (okp := fun _ => True) ?hr ?hp (fun _ hk => hk) trivial (Below.refl _ _) (Nat.le_refl _) (by simp) ?_; (case hd => rfl); (case hg => rfl); (case hr => first | (go_simp; done) | (go_simp; rfl)); (case hp => exact (Reps.none _ _)); intro v351 w13 ho14 hb hg_ hnew_; clear hg_ hnew_; (first | rw [← Ny350.out] at ho14 | (simp only [Int.reduceToNat] at ho14; rw [← Ny350.out] at ho14)); have HO352 := aM (Kd.R_lower ho14 (below_size (xH HB.out))); replace HB := yS0 HB hb; clear hb ho14) | (refine yL 11 Try.func76 #[.int .i64 a0, .slice A1 l1.length c1] ?_; (with_reducible refine (spec_l2Table.calls k a0 _ _ l1 false _ (xC (Kd.C_below HR1.out HB.out)) HC1.out A3.out).mono ?_); rintro e w' ⟨rfl, ⟨nd, rfl⟩⟩; refine ⟨_, rfl, ?_⟩)); go_ret2; exact ⟨_, yF, xR HO352.out, xH HB.out⟩
 subst c4; rw [if_pos rfl] at H; have H' := aM H; clear H; go_enter Try.func40, Try.ntmps40; go_wp2_with (first | ((with_reducible refine gate_dst (N := 8) rfl ?_); refine Kd.R_lit (Kd.int .i64) _ 3 ?hg (N := 8) ?hd (xs := ([] : List Int)) (inner := []) (ok := fun _ => True) (okp := fun _ => True) ?hr ?hp (fun _ hk => hk) trivial (Below.refl _ _) (Nat.le_refl _) (by simp) ?_; (case hd => rfl); (case hg => rfl); (case hr => first | (go_simp; done) | (go_simp; rfl)); (case hp => exact (Reps.none _ _)); intro v351 w5 ho6 hb hg_ hnew_; clear hg_ hnew_; (first | rw [← Ny350.out] at ho6 | (simp only [Int.reduceToNat] at ho6; rw [← Ny350.out] at ho6)); have HO352 := aM (Kd.R_lower ho6 (below_size (xH HB.out))); replace HB := yS0 HB hb; clear hb ho6) | (refine yL 11 Try.func76 #[.int .i64 a0, .slice A1 l1.length c1] ?_; (with_reducible refine (spec_l2Table.calls k a0 _ _ l1 true _ (xC (Kd.C_below HR1.out HB.out)) HC1.out A3.out).mono ?_); rintro e w' ⟨rfl, ⟨nd, rfl⟩⟩; refine ⟨_, rfl, ?_⟩)); go_loopg [6, 7] k (fun kq v6 v7 w' => ∃ (x6_1 : List Int) (x7_1 : Int), v7 = .int .i64 x7_1 ∧ Aside0 (spec_DualTable.l0 kq l1 x6_1 x7_1 = some (r1, r2)) ∧ Aside0 (kq ≤ k) ∧ Aside0 (Kd.R (Kd.int .i64) 3 w' w.heap.size (fun _ => True) v6 x6_1) ∧ Aside0 (Below w.heap.size w w')); case atStart => exact ⟨(y350), (0), yZ, H', ⟨Nat.le_refl _⟩, ⟨xR HO352.out⟩, ⟨xH HB.out⟩⟩
 case round =>
  clear H'; try clear c1
  try clear c4
  obtain ⟨x6_1, x7_1, rfl, HA, HK1, HO_6, HB⟩ := hrel; cases gk with
  | zero => exact absurd HA.out (by simp [spec_DualTable.l0])
  | succ k1 =>
   have H := HA.out; clear HA; simp only [spec_DualTable.l0] at H; obtain ⟨-, c7b0, H⟩ | ⟨-, c7b0, H⟩ := yif H
   rotate_left
   ·
    simp only [Option.some.injEq, Prod.mk.injEq] at H; obtain ⟨rfl, rfl⟩ := H; go_wp2; go_ret2; exact ⟨_, yF, xR HO_6.out, xH HB.out⟩
   obtain ⟨ji8, hji8⟩ := yJ ((wrap64 ((wrap64 ((l1.length : Int) - 1)) - x7_1))); (first | rw [hji8] at H | simp only [hji8] at H); have hji8w : (IntKind.i64.wrap ((wrap64 ((l1.length : Int) - 1)) - x7_1)) = ji8 := (i64_w _).trans hji8; obtain ⟨-, c9b0, H⟩ | ⟨c9, -, H⟩ := yif H
   rotate_left
   · exact absurd H (by simp)
   obtain ⟨-, c10b0, H⟩ | ⟨c10, -, H⟩ := yif H
   rotate_left
   · exact absurd H (by simp)
   obtain ⟨c11, -, H⟩ | ⟨c11, -, H⟩ := yif H
   rotate_left
   · exact absurd H (by simp)
   have LMc11 := aM c11; clear c11; obtain ⟨y355, hy355⟩ := yE (x6_1 ++ [wrap64 (1 - (rd l1 (ji8)))] : List Int); replace H : (spec_DualTable.l0 k1 l1 y355 (wrap64 (x7_1 + 1))) = some (r1, r2) := yI hy355 H; have Ny355 := aM hy355; clear hy355; have H' := aM H; clear H; obtain ⟨ad354, e354, hx354_0, p354, q354⟩ := yi HR1.out (ji8); cases e354
   replace hx354_0 := yc HB hx354_0; go_wp2_with (first | ((with_reducible refine gate_builtin (b := .append) (xs := #[.tmp 20, .tmp 30]) rfl ?_); at_builtin; refine Kd.R_append (Kd.int .i64) (w0 := w) w.heap.size rfl (.tmp 20) (.tmp 30) 24 3 (.int .i64 0) 8 rfl Try.underlying24 info3 rfl (by decide) (by omega) u6 x6_1 (wrap64 (1 - (rd l1 (ji8)))) [.int .i64 (wrap64 (1 - (rd l1 (ji8))))] (fun _ => True) (fun _ => False) rfl rfl ?aP (fun _ hk => hk.elim) ?aF ?aO ?aB ?aS ?aL ?_; (case aP => exact rfl); (case aB => exact (xH HB.out)); (case aF => exact (fun _ _ => trivial)); (case aO => exact (xR HO_6.out)); (case aS => exact (below_size (xH HB.out))); (case aL => have := LMc11.out; omega); intro v356 w12 ho hb hg hat; rw [← Ny355.out] at ho; replace HB := aM (hb); have HO357 := aM (ho); clear HO_6; clear ho hb hg hat)); go_roundg k1; case measure => have := HK1.out; omega
   case rel => exact ⟨(y355), (wrap64 (x7_1 + 1)), yZ, H', ⟨by have := HK1.out; omega⟩, ⟨xR HO357.out⟩, ⟨xH HB.out⟩⟩
def spec_l1Own.f (l0 : List Int) : Option (List Int) := (some (([] : List Int) : List Int)).bind fun y358 => (if y358.length + l0.length < 17592186044416 then (some (y358 ++ l0)) else (none))
theorem spec_l1Own.calls (A0 : Option Addr) (c0 : Nat) (l0 : List Int) (r : List Int) (w : World) (hr0 : Kd.C (Kd.int .i64) w A0 l0.length l0) (hc0 : l0.length ≤ c0) (h : spec_l1Own.f l0 = some r) :
    Calls Try.prog 104 #[.slice A0 l0.length c0] w fun e w' => ∃ v0_ : Value, e = .returned (v0_) ∧ Kd.R (Kd.int .i64) 3 w' w.heap.size (fun _ => True) v0_ r ∧ Below w.heap.size w w' := by
 have HR0 := aM hr0; have HC0 := aM hc0; clear hr0 hc0; have HB := aM (Below.refl w.heap.size w); have H : ((some (([] : List Int) : List Int)).bind fun y358 => (if y358.length + l0.length < 17592186044416 then (some (y358 ++ l0)) else (none))) = some r := h; clear h; obtain ⟨y358, hy358⟩ := yE (([] : List Int) : List Int); replace H : (if y358.length + l0.length < 17592186044416 then (some (y358 ++ l0)) else (none)) = some r := yI hy358 H; have Ny358 := aM hy358; clear hy358; obtain ⟨c2, -, H⟩ | ⟨c2, -, H⟩ := yif H
 rotate_left
 · exact absurd H (by simp)
 have LMc2 := aM c2; clear c2; obtain ⟨y361, hy361⟩ := yE (y358 ++ l0 : List Int); replace H : (some y361) = some r := yI hy361 H; have Ny361 := aM hy361; clear hy361; obtain rfl := Option.some.inj H; go_enter Try.func104, Try.ntmps104; go_wp2_with (first | ((with_reducible refine gate_dst (N := 3) rfl ?_); refine Kd.R_lit (Kd.int .i64) _ 3 ?hg (N := 3) ?hd (xs := ([] : List Int)) (inner := []) (ok := fun _ => True) (okp := fun _ => True) ?hr ?hp (fun _ hk => hk) trivial (Below.refl _ _) (Nat.le_refl _) (by simp) ?_; (case hd => rfl); (case hg => rfl); (case hr => first | (go_simp; done) | (go_simp; rfl)); (case hp => exact (Reps.none _ _)); intro v359 w3 ho4 hb hg_ hnew_; clear hg_ hnew_; (first | rw [← Ny358.out] at ho4 | (simp only [Int.reduceToNat] at ho4; rw [← Ny358.out] at ho4)); have HO360 := aM (Kd.R_lower ho4 (below_size (xH HB.out))); replace HB := yS0 HB hb; clear hb ho4) | ((with_reducible refine gate_builtin (b := .append) (xs := #[.tmp 3, .tmp 4]) rfl ?_); at_builtin; refine Kd.R_append_rows (Kd.int .i64) (w0 := w) w.heap.size rfl (.tmp 3) (.tmp 4) 24 3 (.int .i64 0) 8 rfl Try.underlying24 info3 rfl (by decide) (by omega) v359 y358 l0 _ _ _ (fun _ => True) (fun _ => False) rfl rfl ?aO ?aR (fun _ _ h => h) (fun _ h => h.elim) ?aF ?aB ?aS ?aL ?_; (case aR => exact xC (Kd.C_below HR0.out HB.out)); (case aB => exact (xH HB.out)); (case aF => exact (fun _ _ => trivial)); (case aO => exact (xR HO360.out)); (case aS => exact (below_size (xH HB.out))); (case aL => have := LMc2.out; omega); intro v362 w5 ho hb hg hat; rw [← Ny361.out] at ho; replace HB := aM (hb); have HO363 := aM (ho); clear HO360; clear ho hb hg hat)); go_ret; exact ⟨_, yF, xR HO363.out, xH HB.out⟩
end Go.Proofs.Ytmfmgnpefjmieaa.PFnTables
