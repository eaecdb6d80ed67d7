-- Laid for this claim by a program of the session's own (wip/tool/myprint.py).
import Derived.Test.YtkgekmpnbhomgaaDoorMFnVotesx0
import Derived.Test.YtkgekmpnbhomgaaDoorMFnVotesx8
namespace Go.Proofs.YtkgekmpnbhomgaaDoor.PFnVotes
open Go.RowKit Go.Proofs.YtkgekmpnbhomgaaDoorW.PrintWords Go.Proofs.YtkgekmpnbhomgaaDoorW.PrintLast Go.Proofs.YtkgekmpnbhomgaaDoorW.PrintMore
attribute [local go_sem] max2_int min2_int max_two min_two max_three min_three max_four min_four
set_option linter.unusedVariables false
set_option maxHeartbeats 8000000
set_option maxRecDepth 100000
set_option linter.unusedSimpArgs false
def spec_l6Put.l0 : Nat → List (List Int) → List Int → Int → Option ((List (List Int)))
 | 0, _, _, _ => none
 | k + 1, x0, x1, x5 => if x5 < (x0.length : Int) then (if 0 ≤ x5 then ((spec_l6Before.f k (rd_L3 x0 x5) x1).bind fun t272 => (if t272 = true then (spec_l6Put.l0 k x0 x1 (wrap64 (x5 + 1))) else ((some (([] : List (List Int)) : List (List Int))).bind fun y273 => (if x5 ≤ (x0.length : Int) then ((some (x0.take (x5 : Int).toNat : List (List Int))).bind fun y276 => (if y273.length + y276.length < 5864062014805 then ((some (y273 ++ y276 : List (List Int))).bind fun y281 => ((some (([x1] : List (List Int)) : List (List Int))).bind fun y284 => (if y281.length + y284.length < 5864062014805 then ((some (y281 ++ y284 : List (List Int))).bind fun y287 => ((some (x0.drop (x5 : Int).toNat : List (List Int))).bind fun y290 => (if y287.length + y290.length < 5864062014805 then (some (y287 ++ y290)) else (none)))) else (none)))) else (none))) else (none))))) else (none)) else ((some (([] : List (List Int)) : List (List Int))).bind fun y298 => (if 0 ≤ x5 then (if x5 ≤ (x0.length : Int) then ((some (x0.take (x5 : Int).toNat : List (List Int))).bind fun y301 => (if y298.length + y301.length < 5864062014805 then ((some (y298 ++ y301 : List (List Int))).bind fun y306 => ((some (([x1] : List (List Int)) : List (List Int))).bind fun y309 => (if y306.length + y309.length < 5864062014805 then ((some (y306 ++ y309 : List (List Int))).bind fun y312 => ((some (x0.drop (x5 : Int).toNat : List (List Int))).bind fun y315 => (if y312.length + y315.length < 5864062014805 then (some (y312 ++ y315)) else (none)))) else (none)))) else (none))) else (none)) else (none)))
def spec_l6Put.f (k : Nat) (l0 : List (List Int)) (l1 : List Int) : Option ((List (List Int))) := spec_l6Put.l0 k l0 l1 0
def spec_l6Put.T4 : Bool × List (List Nat × List Nat) := (true, [([], []), ([], []), ([], []), ([1, 2], [1, 2]), ([0, 3], [0, 3]), ([], []), ([5], [5]), ([4, 6, 4], [4, 6]), ([], []), ([], []), ([8, 9], [8, 9]), ([7, 10, 7], [7, 10]), ([11, 11, 0, 1, 2, 3, 4, 5, 6, 7, 8, 9, 10, 11], [11])])
def spec_l6Put.B4 : List Nat := [0, 0, 0, 6, 15, 0, 32, 127, 0, 0, 768, 2047, 4095]
theorem spec_l6Put.tab4 : rtab .any (opsOf Tryd.f59 4) = spec_l6Put.T4 := by kernel_rfl
theorem spec_l6Put.bits4 : waitsOk spec_l6Put.T4.2 spec_l6Put.B4 = true := by kernel_rfl
theorem spec_l6Put.calls (k : Nat) (P0_ : Nat → Prop) (A0 : Option Addr) (c0 : Nat) (l0 : List (List Int)) (P1_ : Nat → Prop) (A1 : Option Addr) (c1 : Nat) (l1 : List Int) (r : List (List Int)) (w : World) (hs0 : Kd.V (Kd.slice 3 (Kd.int .i64)) 24 w w.heap.size (fun k_ => P0_ k_) (.slice A0 l0.length c0) l0) (hs1 : Kd.V (Kd.int .i64) 3 w w.heap.size (fun k_ => P1_ k_) (.slice A1 l1.length c1) l1) (h : spec_l6Put.f k l0 l1 = some r) :
  Calls Tryd.prog 59 #[.slice A0 l0.length c0, .slice A1 l1.length c1] w fun e w' => ∃ v0_ : Value, e = .returned (v0_) ∧ Kd.N (Kd.slice 3 (Kd.int .i64)) 24 w' w.heap.size (fun k_ => ((P0_ k_ ∨ P1_ k_) ∨ w.heap.size ≤ k_)) v0_ r ∧ Below w.heap.size w w' := by
 have HO0 := aM (show Kd.V (Kd.slice 3 (Kd.int .i64)) 24 w w.heap.size (fun k_ => ((P0_ k_ ∨ P1_ k_) ∨ w.heap.size ≤ k_)) (.slice A0 l0.length c0) l0 from Kd.V_mono hs0 (fun k_ hk => .inl (.inl hk)))
 have HO1 := aM (show Kd.V (Kd.int .i64) 3 w w.heap.size (fun k_ => ((P0_ k_ ∨ P1_ k_) ∨ w.heap.size ≤ k_)) (.slice A1 l1.length c1) l1 from Kd.V_mono hs1 (fun k_ hk => .inl (.inr hk)))
 have HB := aM (Below.refl w.heap.size w)
 have H : (spec_l6Put.l0 k l0 l1 0) = some r := h
 clear h
 have H' := aM H
 clear H
 go_enter Tryd.func59, Tryd.ntmps59
 go_wp2
 go_loopg [5] k (fun kq v5 w' => ∃ (x5_1 : Int), v5 = .int .i64 x5_1 ∧ Aside0 (spec_l6Put.l0 kq l0 l1 x5_1 = some r) ∧ Aside0 (kq ≤ k) ∧ Aside0 (Kd.V (Kd.slice 3 (Kd.int .i64)) 24 w' w.heap.size (fun k_ => ((P0_ k_ ∨ P1_ k_) ∨ w.heap.size ≤ k_)) (.slice A0 l0.length c0) l0) ∧ Aside0 (Kd.V (Kd.int .i64) 3 w' w.heap.size (fun k_ => ((P0_ k_ ∨ P1_ k_) ∨ w.heap.size ≤ k_)) (.slice A1 l1.length c1) l1) ∧ Aside0 (Below w.heap.size w w'))
 case atStart => exact ⟨(0), yZ, H', ⟨Nat.le_refl _⟩, ⟨xV HO0.out⟩, ⟨xV HO1.out⟩, ⟨xH HB.out⟩⟩
 case round =>
  clear H'
  try clear c1; try clear p2
  obtain ⟨x5_1, rfl, HA, HK1, HO_0, HO_1, HB⟩ := hrel
  cases gk with
  | zero => exact absurd HA.out (by simp [spec_l6Put.l0])
  | succ k1 =>
   have H := HA.out
   clear HA
   simp only [spec_l6Put.l0] at H
   by_cases c3 : x5_1 < (l0.length : Int)
   ·
    rw [if_pos c3] at H
    have c3b0 := decide_eq_true c3
    clear c3
    by_cases c4 : 0 ≤ x5_1
    ·
     rw [if_pos c4] at H
     have c4b0 := decide_eq_true c4
     clear c4
     replace H := oB.mp H
     obtain ⟨t272, A50, H⟩ := H
     replace H : (if t272 = true then (spec_l6Put.l0 k1 l0 l1 (wrap64 (x5_1 + 1))) else ((some (([] : List (List Int)) : List (List Int))).bind fun y273 => (if x5_1 ≤ (l0.length : Int) then ((some (l0.take (x5_1 : Int).toNat : List (List Int))).bind fun y276 => (if y273.length + y276.length < 5864062014805 then ((some (y273 ++ y276 : List (List Int))).bind fun y281 => ((some (([l1] : List (List Int)) : List (List Int))).bind fun y284 => (if y281.length + y284.length < 5864062014805 then ((some (y281 ++ y284 : List (List Int))).bind fun y287 => ((some (l0.drop (x5_1 : Int).toNat : List (List Int))).bind fun y290 => (if y287.length + y290.length < 5864062014805 then (some (y287 ++ y290)) else (none)))) else (none)))) else (none))) else (none)))) = some r := H
     have A5 := aM A50
     clear A50
     by_cases c6 : t272 = true
     ·
      subst c6
      have H1 : (spec_l6Put.l0 k1 l0 l1 (wrap64 (x5_1 + 1))) = some r := by rw [if_pos rfl] at H; exact H
      clear H
      have H := H1
      clear H1
      have H' := aM H
      clear H
      have p271 : 0 ≤ (x5_1 : Int) := yA
      have q271 : x5_1 < (l0.length : Int) := yA
      obtain ⟨ad271, A271_0, c271_0, e271, hx271_0, hl271_0, hi271_0⟩ := at_L3 (Kd.V_reads' HO_0.out).2.2 x5_1 p271 q271
      cases e271
      obtain ⟨ce271, hce271, hMe271, hcc271⟩ := Kd.V_get HO_0.out [] x5_1 p271 (by first | exact q271 | exact yA | (have e_ := (Kd.V_reads' HO_0.out).1; omega))
      obtain ⟨ua271_0, uc271_0, rfl, ul271_0, ge271_0⟩ := Kd.FK_slice_open hMe271
      have hv271_0 := hcc271 0 _ rfl
      rw [Nat.add_zero, show ((Kd.slice 3 (Kd.int .i64))).sz = 1 from rfl, Nat.mul_one] at hv271_0
      replace hv271_0 := Option.some.inj (hv271_0.symm.trans hx271_0)
      injection hv271_0 with hva_ hvn_ hvc_
      rw [hva_] at ge271_0
      rw [hvc_] at ul271_0
      have HL271_0 := aM (show Kd.V (Kd.int .i64) 3 _ w.heap.size _ _ (rd_L3 l0 x5_1) from Kd.V_mk ul271_0 ge271_0)
      clear hva_ hvn_ hvc_ ge271_0 ul271_0 hcc271 hce271
      have HR271_0 := aM hi271_0
      have HC271_0 := aM hl271_0
      clear hi271_0 hl271_0
      replace p271 := eq_true p271
      replace q271 := eq_true q271
      go_wp2_with (first | (go_at_call 68; (with_reducible refine (spec_l6Before.calls k1 _ _ (rd_L3 l0 x5_1) _ _ l1 true _ ?side1 ?side2 ?side3 ?side4 A5.out).mono ?_); (case side1 => repeat (first | exact (by repeat (first | (with_reducible exact HR271_0.out) | (with_reducible refine Kd.C_alloc ?_ _) | (with_reducible refine Kd.C_drewN ?_ _) | (with_reducible refine Kd.C_drew ?_) | exact HR271_0.out)) | (with_reducible refine Kd.C_alloc ?_ _) | (with_reducible refine Kd.C_drewN ?_ _) | (with_reducible refine Kd.C_drew ?_))); (case side2 => exact HC271_0.out); (case side3 => repeat (first | exact (Kd.V_reads' HO_1.out).2.2 | (with_reducible refine Kd.C_alloc ?_ _) | (with_reducible refine Kd.C_drewN ?_ _) | (with_reducible refine Kd.C_drew ?_))); (case side4 => exact (Kd.V_reads' HO_1.out).2.1); rintro e w' ⟨rfl, ⟨nd, rfl⟩⟩))
      go_roundg k1
      case measure => have := HK1.out; omega
      case rel => exact ⟨(wrap64 (x5_1 + 1)), yZ, H', ⟨by have := HK1.out; omega⟩, ⟨xV HO_0.out⟩, ⟨xV HO_1.out⟩, ⟨xH HB.out⟩⟩
     ·
      replace c6 := Bool.eq_false_iff.mpr c6
      subst c6
      have H1 : ((some (([] : List (List Int)) : List (List Int))).bind fun y273 => (if x5_1 ≤ (l0.length : Int) then ((some (l0.take (x5_1 : Int).toNat : List (List Int))).bind fun y276 => (if y273.length + y276.length < 5864062014805 then ((some (y273 ++ y276 : List (List Int))).bind fun y281 => ((some (([l1] : List (List Int)) : List (List Int))).bind fun y284 => (if y281.length + y284.length < 5864062014805 then ((some (y281 ++ y284 : List (List Int))).bind fun y287 => ((some (l0.drop (x5_1 : Int).toNat : List (List Int))).bind fun y290 => (if y287.length + y290.length < 5864062014805 then (some (y287 ++ y290)) else (none)))) else (none)))) else (none))) else (none))) = some r := by rw [if_neg (show ¬ (false = true) by decide)] at H; exact H
      clear H
      have H := H1
      clear H1
      obtain ⟨y273, hy273⟩ := yE (([] : List (List Int)) : List (List Int))
      replace H : (if x5_1 ≤ (l0.length : Int) then ((some (l0.take (x5_1 : Int).toNat : List (List Int))).bind fun y276 => (if y273.length + y276.length < 5864062014805 then ((some (y273 ++ y276 : List (List Int))).bind fun y281 => ((some (([l1] : List (List Int)) : List (List Int))).bind fun y284 => (if y281.length + y284.length < 5864062014805 then ((some (y281 ++ y284 : List (List Int))).bind fun y287 => ((some (l0.drop (x5_1 : Int).toNat : List (List Int))).bind fun y290 => (if y287.length + y290.length < 5864062014805 then (some (y287 ++ y290)) else (none)))) else (none)))) else (none))) else (none)) = some r := by first | (rw [hy273]; with_reducible exact H) | (have H2_ := (Option.bind_some _ _).symm.trans H; rw [hy273]; with_reducible exact H2_) | (have H2_ := (Option.bind_some _ _).symm.trans H; with_reducible exact H2_) | with_reducible exact H | (rw [hy273]; exact H) | exact H
      have Ny273 := aM hy273
      clear hy273
      have c7b0 := eq_true (yA : 0 ≤ x5_1)
      by_cases c8 : x5_1 ≤ (l0.length : Int)
      ·
       rw [if_pos c8] at H
       have c8b0 := eq_true c8
       have c8b1 : decide (x5_1 ≤ (l0.length : Int)) = true := decide_eq_true c8
       clear c8
       obtain ⟨y276, hy276⟩ := yE (l0.take (x5_1 : Int).toNat : List (List Int))
       replace H : (if y273.length + y276.length < 5864062014805 then ((some (y273 ++ y276 : List (List Int))).bind fun y281 => ((some (([l1] : List (List Int)) : List (List Int))).bind fun y284 => (if y281.length + y284.length < 5864062014805 then ((some (y281 ++ y284 : List (List Int))).bind fun y287 => ((some (l0.drop (x5_1 : Int).toNat : List (List Int))).bind fun y290 => (if y287.length + y290.length < 5864062014805 then (some (y287 ++ y290)) else (none)))) else (none)))) else (none)) = some r := by first | (rw [hy276]; with_reducible exact H) | (have H2_ := (Option.bind_some _ _).symm.trans H; rw [hy276]; with_reducible exact H2_) | (have H2_ := (Option.bind_some _ _).symm.trans H; with_reducible exact H2_) | with_reducible exact H | (rw [hy276]; exact H) | exact H
       have Ny276 := aM hy276
       clear hy276
       by_cases c9 : y273.length + y276.length < 5864062014805
       ·
        rw [if_pos c9] at H
        have LMc9 := aM c9
        clear c9
        obtain ⟨y281, hy281⟩ := yE (y273 ++ y276 : List (List Int))
        replace H : ((some (([l1] : List (List Int)) : List (List Int))).bind fun y284 => (if y281.length + y284.length < 5864062014805 then ((some (y281 ++ y284 : List (List Int))).bind fun y287 => ((some (l0.drop (x5_1 : Int).toNat : List (List Int))).bind fun y290 => (if y287.length + y290.length < 5864062014805 then (some (y287 ++ y290)) else (none)))) else (none))) = some r := by first | (rw [hy281]; with_reducible exact H) | (have H2_ := (Option.bind_some _ _).symm.trans H; rw [hy281]; with_reducible exact H2_) | (have H2_ := (Option.bind_some _ _).symm.trans H; with_reducible exact H2_) | with_reducible exact H | (rw [hy281]; exact H) | exact H
        have Ny281 := aM hy281
        clear hy281
        obtain ⟨y284, hy284⟩ := yE (([l1] : List (List Int)) : List (List Int))
        replace H : (if y281.length + y284.length < 5864062014805 then ((some (y281 ++ y284 : List (List Int))).bind fun y287 => ((some (l0.drop (x5_1 : Int).toNat : List (List Int))).bind fun y290 => (if y287.length + y290.length < 5864062014805 then (some (y287 ++ y290)) else (none)))) else (none)) = some r := by first | (rw [hy284]; with_reducible exact H) | (have H2_ := (Option.bind_some _ _).symm.trans H; rw [hy284]; with_reducible exact H2_) | (have H2_ := (Option.bind_some _ _).symm.trans H; with_reducible exact H2_) | with_reducible exact H | (rw [hy284]; exact H) | exact H
        have Ny284 := aM hy284
        clear hy284
        by_cases c10 : y281.length + y284.length < 5864062014805
        ·
         rw [if_pos c10] at H
         have LMc10 := aM c10
         clear c10
         obtain ⟨y287, hy287⟩ := yE (y281 ++ y284 : List (List Int))
         replace H : ((some (l0.drop (x5_1 : Int).toNat : List (List Int))).bind fun y290 => (if y287.length + y290.length < 5864062014805 then (some (y287 ++ y290)) else (none))) = some r := by first | (rw [hy287]; with_reducible exact H) | (have H2_ := (Option.bind_some _ _).symm.trans H; rw [hy287]; with_reducible exact H2_) | (have H2_ := (Option.bind_some _ _).symm.trans H; with_reducible exact H2_) | with_reducible exact H | (rw [hy287]; exact H) | exact H
         have Ny287 := aM hy287
         clear hy287
         have c11b0 := eq_true (yA : 0 ≤ x5_1)
         have c12b0 := eq_true (yA : x5_1 ≤ (l0.length : Int))
         obtain ⟨y290, hy290⟩ := yE (l0.drop (x5_1 : Int).toNat : List (List Int))
         replace H : (if y287.length + y290.length < 5864062014805 then (some (y287 ++ y290)) else (none)) = some r := by first | (rw [hy290]; with_reducible exact H) | (have H2_ := (Option.bind_some _ _).symm.trans H; rw [hy290]; with_reducible exact H2_) | (have H2_ := (Option.bind_some _ _).symm.trans H; with_reducible exact H2_) | with_reducible exact H | (rw [hy290]; exact H) | exact H
         have Ny290 := aM hy290
         clear hy290
         by_cases c13 : y287.length + y290.length < 5864062014805
         ·
          rw [if_pos c13] at H
          have LMc13 := aM c13
          clear c13
          obtain ⟨y295, hy295⟩ := yE (y287 ++ y290 : List (List Int))
          replace H : (some y295) = some r := by first | (rw [hy295]; with_reducible exact H) | (have H2_ := (Option.bind_some _ _).symm.trans H; rw [hy295]; with_reducible exact H2_) | (have H2_ := (Option.bind_some _ _).symm.trans H; with_reducible exact H2_) | with_reducible exact H | (rw [hy295]; exact H) | exact H
          have Ny295 := aM hy295
          clear hy295
          obtain rfl := Option.some.inj H
          have p271 : 0 ≤ (x5_1 : Int) := yA
          have q271 : x5_1 < (l0.length : Int) := yA
          obtain ⟨ad271, A271_0, c271_0, e271, hx271_0, hl271_0, hi271_0⟩ := at_L3 (Kd.V_reads' HO_0.out).2.2 x5_1 p271 q271
          cases e271
          obtain ⟨ce271, hce271, hMe271, hcc271⟩ := Kd.V_get HO_0.out [] x5_1 p271 (by first | exact q271 | exact yA | (have e_ := (Kd.V_reads' HO_0.out).1; omega))
          obtain ⟨ua271_0, uc271_0, rfl, ul271_0, ge271_0⟩ := Kd.FK_slice_open hMe271
          have hv271_0 := hcc271 0 _ rfl
          rw [Nat.add_zero, show ((Kd.slice 3 (Kd.int .i64))).sz = 1 from rfl, Nat.mul_one] at hv271_0
          replace hv271_0 := Option.some.inj (hv271_0.symm.trans hx271_0)
          injection hv271_0 with hva_ hvn_ hvc_
          rw [hva_] at ge271_0
          rw [hvc_] at ul271_0
          have HL271_0 := aM (show Kd.V (Kd.int .i64) 3 _ w.heap.size _ _ (rd_L3 l0 x5_1) from Kd.V_mk ul271_0 ge271_0)
          clear hva_ hvn_ hvc_ ge271_0 ul271_0 hcc271 hce271
          have HR271_0 := aM hi271_0
          have HC271_0 := aM hl271_0
          clear hi271_0 hl271_0
          replace p271 := eq_true p271
          replace q271 := eq_true q271
          try go_wp2_with (first | (go_at_call 68; (with_reducible refine (spec_l6Before.calls k1 _ _ (rd_L3 l0 x5_1) _ _ l1 false _ ?side1 ?side2 ?side3 ?side4 A5.out).mono ?_); (case side1 => repeat (first | exact (by repeat (first | (with_reducible exact HR271_0.out) | (with_reducible refine Kd.C_alloc ?_ _) | (with_reducible refine Kd.C_drewN ?_ _) | (with_reducible refine Kd.C_drew ?_) | exact HR271_0.out)) | (with_reducible refine Kd.C_alloc ?_ _) | (with_reducible refine Kd.C_drewN ?_ _) | (with_reducible refine Kd.C_drew ?_))); (case side2 => exact HC271_0.out); (case side3 => repeat (first | exact (Kd.V_reads' HO_1.out).2.2 | (with_reducible refine Kd.C_alloc ?_ _) | (with_reducible refine Kd.C_drewN ?_ _) | (with_reducible refine Kd.C_drew ?_))); (case side4 => exact (Kd.V_reads' HO_1.out).2.1); rintro e w' ⟨rfl, ⟨nd, rfl⟩⟩))
          (try (rw [drewN_self wr]; generalize hq_ : World.drewN wr _ = wr; have n0_ : Aside0 (Kd.V (Kd.int .i64) 3 wr w.heap.size (fun k_ => (((P0_ k_ ∨ P1_ k_) ∨ w.heap.size ≤ k_))) (.slice A271_0 (rd_L3 l0 x5_1).length c271_0) (rd_L3 l0 x5_1)) := ⟨by rw [← hq_]; exact (xV HL271_0.out)⟩; have n1_ : Aside0 (Kd.V (Kd.slice 3 (Kd.int .i64)) 24 wr w.heap.size (fun k_ => (((P0_ k_ ∨ P1_ k_) ∨ w.heap.size ≤ k_))) (.slice (some ad271) l0.length c0) l0) := ⟨by rw [← hq_]; exact (xV HO_0.out)⟩; have n2_ : Aside0 (Kd.V (Kd.int .i64) 3 wr w.heap.size (fun k_ => (((P0_ k_ ∨ P1_ k_) ∨ w.heap.size ≤ k_))) (.slice A1 l1.length c1) l1) := ⟨by rw [← hq_]; exact (xV HO_1.out)⟩; have n3_ : Aside0 (Below w.heap.size w wr) := ⟨by rw [← hq_]; exact (xH HB.out)⟩; have n4_ : Aside0 (Kd.C (Kd.int .i64) wr A271_0 (rd_L3 l0 x5_1).length (rd_L3 l0 x5_1)) := ⟨by rw [← hq_]; exact (by repeat (first | (with_reducible exact HR271_0.out) | (with_reducible refine Kd.C_alloc ?_ _) | (with_reducible refine Kd.C_drewN ?_ _) | (with_reducible refine Kd.C_drew ?_) | exact HR271_0.out))⟩; clear HL271_0 HO_0 HO_1 HB HR271_0 hq_; have HL271_0 := n0_; have HO_0 := n1_; have HO_1 := n2_; have HB := n3_; have HR271_0 := n4_; clear n0_ n1_ n2_ n3_ n4_))
          replace HO_0 := aM (Kd.V_drew HO_0.out)
          replace HO_1 := aM (Kd.V_drew HO_1.out)
          replace HL271_0 := aM (Kd.V_drew HL271_0.out)
          replace HR271_0 := aM (Kd.C_drew HR271_0.out)
          replace HB := aM (eD HB.out)
          have q15 : (x5_1 : Int) ≤ ((l0.length : Int) : Int) := yA
          obtain ⟨i015, hi015, _, hsz15, _⟩ := info_parts info24
          have hroom15 : l0.length ≤ c0 := (Kd.V_reads' HO_0.out).2.1
          have hC15 : Kd.F (Kd.slice 3 (Kd.int .i64)) _ _ (some ad271) l0.length l0 := (Kd.V_at (base := w.heap.size) HO_0.out).2.2
          have hcut15 := cut_to (P := Tryd.prog) 31 24 .i64 Tryd.underlying31 hi015 (some ad271) l0.length c0 x5_1 (yA) q15 hroom15
          have hr15 := Kd.F_take (m := (x5_1 : Int).toNat) hC15 (by omega)
          have hy15 : y276.length = (x5_1 : Int).toNat := (by rw [Ny276.out, List.length_take]; omega)
          rw [← Ny276.out] at hr15
          rw [← hy15] at hcut15
          have HO280 := aM (show Kd.V (Kd.slice 3 (Kd.int .i64)) 24 _ w.heap.size _ (.slice (some ad271) y276.length c0) y276 from Kd.V_mk (by omega) hr15)
          have HC280 := aM (show y276.length ≤ c0 from by omega)
          clear hr15 hC15 hroom15 hi015 hsz15
          have KY15 := aM hy15
          clear hy15
          replace q15 := eq_true q15
          have q16 : (x5_1 : Int) ≤ ((l0.length : Int) : Int) := yA
          obtain ⟨i016, hi016, _, hsz16, _⟩ := info_parts info24
          have hroom16 : l0.length ≤ c0 := (Kd.V_reads' HO_0.out).2.1
          have hC16 : Kd.F (Kd.slice 3 (Kd.int .i64)) _ _ (some ad271) l0.length l0 := (Kd.V_at (base := w.heap.size) HO_0.out).2.2
          have q016 : (0 : Int) ≤ (x5_1 : Int) := yA
          have hcut16 := cut_from (P := Tryd.prog) 31 24 .i64 Tryd.underlying31 hi016 1 hsz16 (some ad271) l0.length c0 x5_1 q016 q16
          have hr16 := Kd.F_cut (m := (x5_1 : Int).toNat) (c := c0) hC16 (by omega) hroom16
          obtain ⟨A16, hA16⟩ : ∃ A1, A1 = (if c0 = (x5_1 : Int).toNat then (some ad271) else ((some ad271) : Option Addr).map (·.add ((x5_1 : Int).toNat * 1))) := ⟨_, rfl⟩
          obtain ⟨c16, hc16⟩ : ∃ c1, c1 = c0 - (x5_1 : Int).toNat := ⟨_, rfl⟩
          have hy16 : y290.length = l0.length - (x5_1 : Int).toNat := (by rw [Ny290.out, List.length_drop] <;> omega)
          rw [show (l0).drop (x5_1 : Int).toNat = y290 from Ny290.out.symm] at hr16
          replace hr16 : Kd.F (Kd.slice 3 (Kd.int .i64)) _ _ A16 y290.length y290 := (by rw [hA16]; exact hr16)
          rw [← hy16, ← hA16, ← hc16] at hcut16
          have HO294 := aM (show Kd.V (Kd.slice 3 (Kd.int .i64)) 24 _ w.heap.size _ (.slice A16 y290.length c16) y290 from Kd.V_mk (by rw [hy16, hc16]; exact Nat.sub_le_sub_right hroom16 _) hr16)
          have HC294 := aM (show y290.length ≤ c16 from by rw [hy16, hc16]; exact Nat.sub_le_sub_right hroom16 _)
          clear hr16 hC16 hroom16 hi016 hsz16 hc16
          have KY16 := aM hy16
          have KA16 := aM hA16
          clear hy16 hA16
          replace q16 := eq_true q16
          refine start_ (n := 13) (S := fun w' => True) (ds := []) (bm 13 0) (by kernel_rfl) rfl rfl trivial (fun hHeld => ?_); refine with_tabW spec_l6Put.tab4 spec_l6Put.bits4 (fun HT_ HW_ => ?_)
          generalize wr.drew = w14 at HO_0 HO_1 HL271_0 HR271_0 HB HO280 HO294 hHeld ⊢
          refine yP 1 21 (bm 13 2) HT_ ?_
          refine yP 2 22 (bm 13 6) HT_ ?_
          refine yP 3 23 (bm 13 14) HT_ ?_
          refine yP 5 25 (bm 13 46) HT_ ?_
          refine yP 8 28 (bm 13 302) HT_ ?_
          refine yP 9 29 (bm 13 814) HT_ ?_
          refine yP 10 30 (bm 13 1838) HT_ ?_
          refine join_ (σ := Value × Value × Value) 3 (bm 13 1919) (fun s_ => [(20, s_.1), (24, s_.2.1), (26, s_.2.2)]) (fun s_ w' => (Kd.V (Kd.int .i64) 3 w' w.heap.size (fun k_ => ((P0_ k_ ∨ P1_ k_) ∨ w.heap.size ≤ k_) ∧ some k_ ≠ (s_.2.1 : Value).ownBlock ∧ some k_ ≠ (s_.2.2 : Value).ownBlock) (.slice A271_0 (rd_L3 l0 x5_1).length c271_0) (rd_L3 l0 x5_1)) ∧ (Kd.V (Kd.slice 3 (Kd.int .i64)) 24 w' w.heap.size (fun k_ => ((P0_ k_ ∨ P1_ k_) ∨ w.heap.size ≤ k_) ∧ some k_ ≠ (s_.2.1 : Value).ownBlock ∧ some k_ ≠ (s_.2.2 : Value).ownBlock) (.slice (some ad271) y276.length c0) y276) ∧ (Kd.N (Kd.slice 3 (Kd.int .i64)) 24 w' w.heap.size (fun k_ => ((P0_ k_ ∨ P1_ k_) ∨ w.heap.size ≤ k_) ∧ some k_ ≠ (s_.2.2 : Value).ownBlock) s_.2.1 y281) ∧ (Kd.N (Kd.slice 3 (Kd.int .i64)) 24 w' w.heap.size (fun k_ => ((P0_ k_ ∨ P1_ k_) ∨ w.heap.size ≤ k_) ∧ some k_ ≠ (s_.2.1 : Value).ownBlock) s_.2.2 y284) ∧ (Kd.V (Kd.slice 3 (Kd.int .i64)) 24 w' w.heap.size (fun k_ => ((P0_ k_ ∨ P1_ k_) ∨ w.heap.size ≤ k_) ∧ some k_ ≠ (s_.2.1 : Value).ownBlock ∧ some k_ ≠ (s_.2.2 : Value).ownBlock) (.slice A16 y290.length c16) y290) ∧ (Kd.V (Kd.slice 3 (Kd.int .i64)) 24 w' w.heap.size (fun k_ => ((P0_ k_ ∨ P1_ k_) ∨ w.heap.size ≤ k_) ∧ some k_ ≠ (s_.2.1 : Value).ownBlock ∧ some k_ ≠ (s_.2.2 : Value).ownBlock) (.slice (some ad271) l0.length c0) l0) ∧ (Kd.V (Kd.int .i64) 3 w' w.heap.size (fun k_ => ((P0_ k_ ∨ P1_ k_) ∨ w.heap.size ≤ k_) ∧ some k_ ≠ (s_.2.1 : Value).ownBlock ∧ some k_ ≠ (s_.2.2 : Value).ownBlock) (.slice A1 l1.length c1) l1) ∧ (Below w.heap.size w w')) ?_ ?_
          rotate_left
          ·
           intro hCont
           refine two_ (i := 0) (j := 6) (Ni := some 20) (Nj := some 26) (bm 13 1839) (bm 13 1902) rfl rfl rfl rfl (two_of HT_.out (by kernel_rfl)) (by decide) (by decide) (fun K hK => ?_) (fun K hK => ?_)
           ·
            skip
            refine Kd.N_lit_step (Kd.slice 3 (Kd.int .i64)) _ 24 ?hg (N' := 20) ?hd (xs := ([] : List (List Int))) (inner := []) (ok := (fun k_ => ((P0_ k_ ∨ P1_ k_) ∨ w.heap.size ≤ k_))) (okp := (fun k_ => ((P0_ k_ ∨ P1_ k_) ∨ w.heap.size ≤ k_))) ?hr ?hp (fun _ hk => hk) ((show ∀ k_, w14.heap.size ≤ k_ → (fun k_ => ((P0_ k_ ∨ P1_ k_) ∨ w.heap.size ≤ k_)) k_ from fun k_ hk => (.inr (Nat.le_trans (below_size (xH HB.out)) hk))) _ (Nat.le_refl _)) (Below.refl _ _) (Nat.le_refl _) (by simp) ?_; (case hd => rfl); (case hg => rfl); (case hr => first | (go_simp; done) | (go_simp; rfl)); (case hp => exact (Reps.none _ _))
            intro v274 w17 ho18 hb hg_ hnew_
            clear hg_ hnew_
            (first | rw [← Ny273.out] at ho18 | (simp only [Int.reduceToNat] at ho18; rw [← Ny273.out] at ho18))
            have n0_ := aM (Kd.V_elder' (xV HO_0.out) (by first | exact Kd.N_base ho18 | exact Kd.S_base ho18 | exact Kd.R_base ho18) hb)
            have n1_ := aM (Kd.V_elder' (xV HO_1.out) (by first | exact Kd.N_base ho18 | exact Kd.S_base ho18 | exact Kd.R_base ho18) hb)
            have n2_ := aM (Kd.V_elder' (xV HL271_0.out) (by first | exact Kd.N_base ho18 | exact Kd.S_base ho18 | exact Kd.R_base ho18) hb)
            have n3_ := aM (Kd.V_elder' (xV HO280.out) (by first | exact Kd.N_base ho18 | exact Kd.S_base ho18 | exact Kd.R_base ho18) hb)
            have n4_ := aM (Kd.V_elder' (xV HO294.out) (by first | exact Kd.N_base ho18 | exact Kd.S_base ho18 | exact Kd.R_base ho18) hb)
            have n5_ := aM (Kd.N_lower ho18 (below_size (xH HB.out)))
            have n6_ := aM (Kd.C_below (by repeat (first | (with_reducible exact HR271_0.out) | (with_reducible refine Kd.C_alloc ?_ _) | (with_reducible refine Kd.C_drewN ?_ _) | (with_reducible refine Kd.C_drew ?_) | exact HR271_0.out)) hb)
            have n7_ := yS0 HB hb
            clear HO_0 HO_1 HL271_0 HO280 HO294 HR271_0 HB
            have HO_0 := n0_
            have HO_1 := n1_
            have HL271_0 := n2_
            have HO280 := n3_
            have HO294 := n4_
            have HO275 := n5_
            have HR271_0 := n6_
            have HB := n7_
            clear n0_ n1_ n2_ n3_ n4_ n5_ n6_ n7_ hb ho18
            refine hK.out _ _ trivial (fun hHeld => ?_)
            clear hK K
            refine norm_ (a' := ?_) ?_ ?_
            rotate_left
            ·
             show Act.put _ (some 20) _ = _
             simp only [Act.put, sA, sZ, sU, i64_w, i32_w]
             rfl
            refine two_ (i := 4) (j := 6) (Ni := some 24) (Nj := some 26) (bm 13 1855) (bm 13 1903) rfl rfl rfl rfl (two_of HT_.out (by kernel_rfl)) (by decide) (by decide) (fun K hK => ?_) (fun K hK => ?_)
            ·
             skip
             refine Kd.N_append_rows_step (Kd.slice 3 (Kd.int .i64)) (w0 := w) w.heap.size (by rfl) (.tmp 20) (.tmp 23) 31 24 (.slice none 0 0) 24 rfl Tryd.underlying31 info24 rfl (by decide) (by omega) v274 y273 y276 _ _ _ (fun k_ => ((P0_ k_ ∨ P1_ k_) ∨ w.heap.size ≤ k_)) (fun k_ => ((fun k_ => ((P0_ k_ ∨ P1_ k_) ∨ w.heap.size ≤ k_))) k_ ∧ some k_ ≠ (v274 : Value).ownBlock) rfl rfl ?aO ?aR (fun _ hk => hk) ?aF ?aB ?aS ?aL ?_
             (case aR => exact (by skip; exact Kd.V_F (base := w.heap.size) (e := 3) (Kd.V_mono (e := 3) (base := w.heap.size) (ok' := (fun k_ => ((fun k_ => ((P0_ k_ ∨ P1_ k_) ∨ w.heap.size ≤ k_))) k_ ∧ some k_ ≠ (v274 : Value).ownBlock)) (HO280.out) (fun k_ hk => ⟨hk.1, hk.2⟩))))
             (case aB => exact (xH HB.out))
             (case aF => exact (fun k_ hk => (.inr (Nat.le_trans (below_size (xH HB.out)) hk))))
             (case aO => exact (xN HO275.out))
             (case aS => exact (below_size (xH HB.out)))
             (case aL => have := LMc9.out; omega)
             intro v282 w19 ho hb hg hat
             rw [← Ny281.out] at ho
             have n0_ := aM (Kd.V_afterv (ok := (fun k_ => ((P0_ k_ ∨ P1_ k_) ∨ w.heap.size ≤ k_))) (xV HO_0.out) hg hat)
             have n1_ := aM (Kd.V_afterv (ok := (fun k_ => ((P0_ k_ ∨ P1_ k_) ∨ w.heap.size ≤ k_))) (xV HO_1.out) hg hat)
             have n2_ := aM (Kd.V_afterv (ok := (fun k_ => ((P0_ k_ ∨ P1_ k_) ∨ w.heap.size ≤ k_))) (xV HL271_0.out) hg hat)
             have n3_ := aM (Kd.V_afterv (ok := (fun k_ => ((P0_ k_ ∨ P1_ k_) ∨ w.heap.size ≤ k_))) (xV HO280.out) hg hat)
             have n4_ := aM (Kd.V_afterv (ok := (fun k_ => ((P0_ k_ ∨ P1_ k_) ∨ w.heap.size ≤ k_))) (xV HO294.out) hg hat)
             have n5_ := aM (hb)
             have n6_ := aM (ho)
             clear HO_0 HO_1 HL271_0 HO280 HO294 HB HO275
             have HO_0 := n0_
             have HO_1 := n1_
             have HL271_0 := n2_
             have HO280 := n3_
             have HO294 := n4_
             have HB := n5_
             have HO283 := n6_
             clear n0_ n1_ n2_ n3_ n4_ n5_ n6_ ho hb hg hat
             refine hK.out _ _ trivial (fun hHeld => ?_)
             clear hK K
             refine norm_ (a' := ?_) ?_ ?_
             rotate_left
             ·
              show Act.put _ (some 24) _ = _
              simp only [Act.put, sA, sZ, sU, i64_w, i32_w]
              rfl
             refine yO 6 26 (bm 13 1919) HT_ (fun K hK => ?_)
             refine Kd.N_lit_step (Kd.slice 3 (Kd.int .i64)) _ 24 ?hg (N' := 26) ?hd (xs := ([l1] : List (List Int))) (inner := [.slice A1 l1.length c1]) (ok := (fun k_ => ((P0_ k_ ∨ P1_ k_) ∨ w.heap.size ≤ k_) ∧ some k_ ≠ (v282 : Value).ownBlock)) (okp := (fun k_ => ((P0_ k_ ∨ P1_ k_) ∨ w.heap.size ≤ k_) ∧ some k_ ≠ (v282 : Value).ownBlock)) ?hr ?hp (fun _ hk => hk) ((show ∀ k_, w19.heap.size ≤ k_ → (fun k_ => ((P0_ k_ ∨ P1_ k_) ∨ w.heap.size ≤ k_) ∧ some k_ ≠ (v282 : Value).ownBlock) k_ from fun k_ hk => ⟨(.inr (Nat.le_trans (below_size (xH HB.out)) hk)), Kd.fresh' (Kd.N_lt (xN HO283.out)) k_ hk⟩) _ (Nat.le_refl _)) (Below.refl _ _) (Nat.le_refl _) (by simp) ?_; (case hd => rfl); (case hg => rfl); (case hr => first | (go_simp; done) | (go_simp; rfl)); (case hp => exact (Reps.one (show Kd.FK (Kd.slice 3 (Kd.int .i64)) _ _ l1 [.slice A1 l1.length c1] from (Kd.FK_slice_mk (Kd.V_reads' (Kd.V_mono (ok' := (fun k_ => ((P0_ k_ ∨ P1_ k_) ∨ w.heap.size ≤ k_) ∧ some k_ ≠ (v282 : Value).ownBlock)) (HO_1.out) (fun k_ hk => ⟨hk.1, hk.2⟩))).2.1 (Kd.V_F (base := w.heap.size) (e := 3) (Kd.V_mono (e := 3) (base := w.heap.size) (ok' := (fun k_ => ((P0_ k_ ∨ P1_ k_) ∨ w.heap.size ≤ k_) ∧ some k_ ≠ (v282 : Value).ownBlock)) (HO_1.out) (fun k_ hk => ⟨hk.1, hk.2⟩))))) (Reps.none _ _)))
             intro v285 w20 ho21 hb hg_ hnew_
             clear hg_ hnew_
             (first | rw [← Ny284.out] at ho21 | (simp only [Int.reduceToNat] at ho21; rw [← Ny284.out] at ho21))
             have n0_ := aM (Kd.V_elder' (xV HO_0.out) (by first | exact Kd.N_base ho21 | exact Kd.S_base ho21 | exact Kd.R_base ho21) hb)
             have n1_ := aM (Kd.V_elder' (xV HO_1.out) (by first | exact Kd.N_base ho21 | exact Kd.S_base ho21 | exact Kd.R_base ho21) hb)
             have n2_ := aM (Kd.V_elder' (xV HL271_0.out) (by first | exact Kd.N_base ho21 | exact Kd.S_base ho21 | exact Kd.R_base ho21) hb)
             have n3_ := aM (Kd.V_elder' (xV HO280.out) (by first | exact Kd.N_base ho21 | exact Kd.S_base ho21 | exact Kd.R_base ho21) hb)
             have n4_ := aM (Kd.V_elder' (xV HO294.out) (by first | exact Kd.N_base ho21 | exact Kd.S_base ho21 | exact Kd.R_base ho21) hb)
             have n5_ := aM (Kd.N_elder' (xN HO283.out) (by first | exact Kd.N_base ho21 | exact Kd.S_base ho21 | exact Kd.R_base ho21) hb)
             have n6_ := aM (Kd.N_lower ho21 (below_size (xH HB.out)))
             have n7_ := yS0 HB hb
             clear HO_0 HO_1 HL271_0 HO280 HO294 HO283 HB
             have HO_0 := n0_
             have HO_1 := n1_
             have HL271_0 := n2_
             have HO280 := n3_
             have HO294 := n4_
             have HO283 := n5_
             have HO286 := n6_
             have HB := n7_
             clear n0_ n1_ n2_ n3_ n4_ n5_ n6_ n7_ hb ho21
             refine hK.out _ _ trivial (fun hHeld => ?_)
             clear hK K
             refine norm_ (a' := ?_) ?_ ?_
             rotate_left
             ·
              show Act.put _ (some 26) _ = _
              simp only [Act.put, sA, sZ, sU, i64_w, i32_w]
              rfl
             exact norm_ (by simp only [putAll, Act.put, sA, sZ, sU]) (hCont (v274, v282, v285) _ ⟨(by (with_reducible repeat (first | apply Kd.V_alloc | apply Kd.V_drewN | apply Kd.V_drew)); exact Kd.V_mono HL271_0.out (fun _ hk => ⟨hk.1.1, ⟨hk.1.2, hk.2⟩⟩)), (by (with_reducible repeat (first | apply Kd.V_alloc | apply Kd.V_drewN | apply Kd.V_drew)); exact Kd.V_mono HO280.out (fun _ hk => ⟨hk.1.1, ⟨hk.1.2, hk.2⟩⟩)), (xN HO283.out), (xN HO286.out), (by (with_reducible repeat (first | apply Kd.V_alloc | apply Kd.V_drewN | apply Kd.V_drew)); exact Kd.V_mono HO294.out (fun _ hk => ⟨hk.1.1, ⟨hk.1.2, hk.2⟩⟩)), (by (with_reducible repeat (first | apply Kd.V_alloc | apply Kd.V_drewN | apply Kd.V_drew)); exact Kd.V_mono HO_0.out (fun _ hk => ⟨hk.1.1, ⟨hk.1.2, hk.2⟩⟩)), (by (with_reducible repeat (first | apply Kd.V_alloc | apply Kd.V_drewN | apply Kd.V_drew)); exact Kd.V_mono HO_1.out (fun _ hk => ⟨hk.1.1, ⟨hk.1.2, hk.2⟩⟩)), (xH HB.out)⟩)
            ·
             skip
             refine Kd.N_lit_step (Kd.slice 3 (Kd.int .i64)) _ 24 ?hg (N' := 26) ?hd (xs := ([l1] : List (List Int))) (inner := [.slice A1 l1.length c1]) (ok := (fun k_ => ((P0_ k_ ∨ P1_ k_) ∨ w.heap.size ≤ k_) ∧ some k_ ≠ (v274 : Value).ownBlock)) (okp := (fun k_ => ((P0_ k_ ∨ P1_ k_) ∨ w.heap.size ≤ k_) ∧ some k_ ≠ (v274 : Value).ownBlock)) ?hr ?hp (fun _ hk => hk) ((show ∀ k_, w17.heap.size ≤ k_ → (fun k_ => ((P0_ k_ ∨ P1_ k_) ∨ w.heap.size ≤ k_) ∧ some k_ ≠ (v274 : Value).ownBlock) k_ from fun k_ hk => ⟨(.inr (Nat.le_trans (below_size (xH HB.out)) hk)), Kd.fresh' (Kd.N_lt (xN HO275.out)) k_ hk⟩) _ (Nat.le_refl _)) (Below.refl _ _) (Nat.le_refl _) (by simp) ?_; (case hd => rfl); (case hg => rfl); (case hr => first | (go_simp; done) | (go_simp; rfl)); (case hp => exact (Reps.one (show Kd.FK (Kd.slice 3 (Kd.int .i64)) _ _ l1 [.slice A1 l1.length c1] from (Kd.FK_slice_mk (Kd.V_reads' (Kd.V_mono (ok' := (fun k_ => ((P0_ k_ ∨ P1_ k_) ∨ w.heap.size ≤ k_) ∧ some k_ ≠ (v274 : Value).ownBlock)) (HO_1.out) (fun k_ hk => ⟨hk.1, hk.2⟩))).2.1 (Kd.V_F (base := w.heap.size) (e := 3) (Kd.V_mono (e := 3) (base := w.heap.size) (ok' := (fun k_ => ((P0_ k_ ∨ P1_ k_) ∨ w.heap.size ≤ k_) ∧ some k_ ≠ (v274 : Value).ownBlock)) (HO_1.out) (fun k_ hk => ⟨hk.1, hk.2⟩))))) (Reps.none _ _)))
             intro v285 w19 ho20 hb hg_ hnew_
             clear hg_ hnew_
             (first | rw [← Ny284.out] at ho20 | (simp only [Int.reduceToNat] at ho20; rw [← Ny284.out] at ho20))
             have n0_ := aM (Kd.V_elder' (xV HO_0.out) (by first | exact Kd.N_base ho20 | exact Kd.S_base ho20 | exact Kd.R_base ho20) hb)
             have n1_ := aM (Kd.V_elder' (xV HO_1.out) (by first | exact Kd.N_base ho20 | exact Kd.S_base ho20 | exact Kd.R_base ho20) hb)
             have n2_ := aM (Kd.V_elder' (xV HL271_0.out) (by first | exact Kd.N_base ho20 | exact Kd.S_base ho20 | exact Kd.R_base ho20) hb)
             have n3_ := aM (Kd.V_elder' (xV HO280.out) (by first | exact Kd.N_base ho20 | exact Kd.S_base ho20 | exact Kd.R_base ho20) hb)
             have n4_ := aM (Kd.V_elder' (xV HO294.out) (by first | exact Kd.N_base ho20 | exact Kd.S_base ho20 | exact Kd.R_base ho20) hb)
             have n5_ := aM (Kd.N_elder' (xN HO275.out) (by first | exact Kd.N_base ho20 | exact Kd.S_base ho20 | exact Kd.R_base ho20) hb)
             have n6_ := aM (Kd.N_lower ho20 (below_size (xH HB.out)))
             have n7_ := aM (Kd.C_below (by repeat (first | (with_reducible exact HR271_0.out) | (with_reducible refine Kd.C_alloc ?_ _) | (with_reducible refine Kd.C_drewN ?_ _) | (with_reducible refine Kd.C_drew ?_) | exact HR271_0.out)) hb)
             have n8_ := yS0 HB hb
             clear HO_0 HO_1 HL271_0 HO280 HO294 HO275 HR271_0 HB
             have HO_0 := n0_
             have HO_1 := n1_
             have HL271_0 := n2_
             have HO280 := n3_
             have HO294 := n4_
             have HO275 := n5_
             have HO286 := n6_
             have HR271_0 := n7_
             have HB := n8_
             clear n0_ n1_ n2_ n3_ n4_ n5_ n6_ n7_ n8_ hb ho20
             refine hK.out _ _ trivial (fun hHeld => ?_)
             clear hK K
             refine norm_ (a' := ?_) ?_ ?_
             rotate_left
             ·
              show Act.put _ (some 26) _ = _
              simp only [Act.put, sA, sZ, sU, i64_w, i32_w]
              rfl
             refine yO 4 24 (bm 13 1919) HT_ (fun K hK => ?_)
             refine Kd.N_append_rows_step (Kd.slice 3 (Kd.int .i64)) (w0 := w) w.heap.size (by rfl) (.tmp 20) (.tmp 23) 31 24 (.slice none 0 0) 24 rfl Tryd.underlying31 info24 rfl (by decide) (by omega) v274 y273 y276 _ _ _ (fun k_ => ((P0_ k_ ∨ P1_ k_) ∨ w.heap.size ≤ k_) ∧ some k_ ≠ (v285 : Value).ownBlock) (fun k_ => ((fun k_ => ((P0_ k_ ∨ P1_ k_) ∨ w.heap.size ≤ k_) ∧ some k_ ≠ (v285 : Value).ownBlock)) k_ ∧ some k_ ≠ (v274 : Value).ownBlock) rfl rfl ?aO ?aR (fun _ hk => hk) ?aF ?aB ?aS ?aL ?_
             (case aR => exact (by skip; exact Kd.V_F (base := w.heap.size) (e := 3) (Kd.V_mono (e := 3) (base := w.heap.size) (ok' := (fun k_ => ((fun k_ => ((P0_ k_ ∨ P1_ k_) ∨ w.heap.size ≤ k_) ∧ some k_ ≠ (v285 : Value).ownBlock)) k_ ∧ some k_ ≠ (v274 : Value).ownBlock)) (HO280.out) (fun k_ hk => ⟨⟨hk.1.1, hk.2⟩, hk.1.2⟩))))
             (case aB => exact (xH HB.out))
             (case aF => exact (fun k_ hk => ⟨(.inr (Nat.le_trans (below_size (xH HB.out)) hk)), Kd.fresh' (Kd.N_lt (xN HO286.out)) k_ hk⟩))
             (case aO => exact (xN HO275.out))
             (case aS => exact (below_size (xH HB.out)))
             (case aL => have := LMc9.out; omega)
             intro v282 w21 ho hb hg hat
             rw [← Ny281.out] at ho
             have n0_ := aM (Kd.V_afterv (ok := (fun k_ => ((P0_ k_ ∨ P1_ k_) ∨ w.heap.size ≤ k_) ∧ some k_ ≠ (v285 : Value).ownBlock)) (by (with_reducible repeat (first | apply Kd.V_alloc | apply Kd.V_drewN | apply Kd.V_drew)); exact Kd.V_mono HO_0.out (fun _ hk => ⟨⟨hk.1.1, hk.2⟩, hk.1.2⟩)) hg hat)
             have n1_ := aM (Kd.V_afterv (ok := (fun k_ => ((P0_ k_ ∨ P1_ k_) ∨ w.heap.size ≤ k_) ∧ some k_ ≠ (v285 : Value).ownBlock)) (by (with_reducible repeat (first | apply Kd.V_alloc | apply Kd.V_drewN | apply Kd.V_drew)); exact Kd.V_mono HO_1.out (fun _ hk => ⟨⟨hk.1.1, hk.2⟩, hk.1.2⟩)) hg hat)
             have n2_ := aM (Kd.V_afterv (ok := (fun k_ => ((P0_ k_ ∨ P1_ k_) ∨ w.heap.size ≤ k_) ∧ some k_ ≠ (v285 : Value).ownBlock)) (by (with_reducible repeat (first | apply Kd.V_alloc | apply Kd.V_drewN | apply Kd.V_drew)); exact Kd.V_mono HL271_0.out (fun _ hk => ⟨⟨hk.1.1, hk.2⟩, hk.1.2⟩)) hg hat)
             have n3_ := aM (Kd.V_afterv (ok := (fun k_ => ((P0_ k_ ∨ P1_ k_) ∨ w.heap.size ≤ k_) ∧ some k_ ≠ (v285 : Value).ownBlock)) (by (with_reducible repeat (first | apply Kd.V_alloc | apply Kd.V_drewN | apply Kd.V_drew)); exact Kd.V_mono HO280.out (fun _ hk => ⟨⟨hk.1.1, hk.2⟩, hk.1.2⟩)) hg hat)
             have n4_ := aM (Kd.V_afterv (ok := (fun k_ => ((P0_ k_ ∨ P1_ k_) ∨ w.heap.size ≤ k_) ∧ some k_ ≠ (v285 : Value).ownBlock)) (by (with_reducible repeat (first | apply Kd.V_alloc | apply Kd.V_drewN | apply Kd.V_drew)); exact Kd.V_mono HO294.out (fun _ hk => ⟨⟨hk.1.1, hk.2⟩, hk.1.2⟩)) hg hat)
             have n5_ := aM (Kd.N_afterv (ok := (fun k_ => ((P0_ k_ ∨ P1_ k_) ∨ w.heap.size ≤ k_))) (xN HO286.out) hg hat)
             have n6_ := aM (hb)
             have n7_ := aM (ho)
             clear HO_0 HO_1 HL271_0 HO280 HO294 HO286 HB HO275
             have HO_0 := n0_
             have HO_1 := n1_
             have HL271_0 := n2_
             have HO280 := n3_
             have HO294 := n4_
             have HO286 := n5_
             have HB := n6_
             have HO283 := n7_
             clear n0_ n1_ n2_ n3_ n4_ n5_ n6_ n7_ ho hb hg hat
             refine hK.out _ _ trivial (fun hHeld => ?_)
             clear hK K
             refine norm_ (a' := ?_) ?_ ?_
             rotate_left
             ·
              show Act.put _ (some 24) _ = _
              simp only [Act.put, sA, sZ, sU, i64_w, i32_w]
              rfl
             exact norm_ (by simp only [putAll, Act.put, sA, sZ, sU]) (hCont (v274, v282, v285) _ ⟨(by (with_reducible repeat (first | apply Kd.V_alloc | apply Kd.V_drewN | apply Kd.V_drew)); exact Kd.V_mono HL271_0.out (fun _ hk => ⟨hk.1.1, ⟨hk.2, hk.1.2⟩⟩)), (by (with_reducible repeat (first | apply Kd.V_alloc | apply Kd.V_drewN | apply Kd.V_drew)); exact Kd.V_mono HO280.out (fun _ hk => ⟨hk.1.1, ⟨hk.2, hk.1.2⟩⟩)), (xN HO283.out), (xN HO286.out), (by (with_reducible repeat (first | apply Kd.V_alloc | apply Kd.V_drewN | apply Kd.V_drew)); exact Kd.V_mono HO294.out (fun _ hk => ⟨hk.1.1, ⟨hk.2, hk.1.2⟩⟩)), (by (with_reducible repeat (first | apply Kd.V_alloc | apply Kd.V_drewN | apply Kd.V_drew)); exact Kd.V_mono HO_0.out (fun _ hk => ⟨hk.1.1, ⟨hk.2, hk.1.2⟩⟩)), (by (with_reducible repeat (first | apply Kd.V_alloc | apply Kd.V_drewN | apply Kd.V_drew)); exact Kd.V_mono HO_1.out (fun _ hk => ⟨hk.1.1, ⟨hk.2, hk.1.2⟩⟩)), (xH HB.out)⟩)
           ·
            skip
            refine Kd.N_lit_step (Kd.slice 3 (Kd.int .i64)) _ 24 ?hg (N' := 26) ?hd (xs := ([l1] : List (List Int))) (inner := [.slice A1 l1.length c1]) (ok := (fun k_ => ((P0_ k_ ∨ P1_ k_) ∨ w.heap.size ≤ k_))) (okp := (fun k_ => ((P0_ k_ ∨ P1_ k_) ∨ w.heap.size ≤ k_))) ?hr ?hp (fun _ hk => hk) ((show ∀ k_, w14.heap.size ≤ k_ → (fun k_ => ((P0_ k_ ∨ P1_ k_) ∨ w.heap.size ≤ k_)) k_ from fun k_ hk => (.inr (Nat.le_trans (below_size (xH HB.out)) hk))) _ (Nat.le_refl _)) (Below.refl _ _) (Nat.le_refl _) (by simp) ?_; (case hd => rfl); (case hg => rfl); (case hr => first | (go_simp; done) | (go_simp; rfl)); (case hp => exact (Reps.one (show Kd.FK (Kd.slice 3 (Kd.int .i64)) _ _ l1 [.slice A1 l1.length c1] from (Kd.FK_slice_mk (Kd.V_reads' (Kd.V_mono (ok' := (fun k_ => ((P0_ k_ ∨ P1_ k_) ∨ w.heap.size ≤ k_))) (HO_1.out) (fun k_ hk => hk))).2.1 (Kd.V_F (base := w.heap.size) (e := 3) (Kd.V_mono (e := 3) (base := w.heap.size) (ok' := (fun k_ => ((P0_ k_ ∨ P1_ k_) ∨ w.heap.size ≤ k_))) (HO_1.out) (fun k_ hk => hk))))) (Reps.none _ _)))
            intro v285 w17 ho18 hb hg_ hnew_
            clear hg_ hnew_
            (first | rw [← Ny284.out] at ho18 | (simp only [Int.reduceToNat] at ho18; rw [← Ny284.out] at ho18))
            have n0_ := aM (Kd.V_elder' (xV HO_0.out) (by first | exact Kd.N_base ho18 | exact Kd.S_base ho18 | exact Kd.R_base ho18) hb)
            have n1_ := aM (Kd.V_elder' (xV HO_1.out) (by first | exact Kd.N_base ho18 | exact Kd.S_base ho18 | exact Kd.R_base ho18) hb)
            have n2_ := aM (Kd.V_elder' (xV HL271_0.out) (by first | exact Kd.N_base ho18 | exact Kd.S_base ho18 | exact Kd.R_base ho18) hb)
            have n3_ := aM (Kd.V_elder' (xV HO280.out) (by first | exact Kd.N_base ho18 | exact Kd.S_base ho18 | exact Kd.R_base ho18) hb)
            have n4_ := aM (Kd.V_elder' (xV HO294.out) (by first | exact Kd.N_base ho18 | exact Kd.S_base ho18 | exact Kd.R_base ho18) hb)
            have n5_ := aM (Kd.N_lower ho18 (below_size (xH HB.out)))
            have n6_ := aM (Kd.C_below (by repeat (first | (with_reducible exact HR271_0.out) | (with_reducible refine Kd.C_alloc ?_ _) | (with_reducible refine Kd.C_drewN ?_ _) | (with_reducible refine Kd.C_drew ?_) | exact HR271_0.out)) hb)
            have n7_ := yS0 HB hb
            clear HO_0 HO_1 HL271_0 HO280 HO294 HR271_0 HB
            have HO_0 := n0_
            have HO_1 := n1_
            have HL271_0 := n2_
            have HO280 := n3_
            have HO294 := n4_
            have HO286 := n5_
            have HR271_0 := n6_
            have HB := n7_
            clear n0_ n1_ n2_ n3_ n4_ n5_ n6_ n7_ hb ho18
            refine hK.out _ _ trivial (fun hHeld => ?_)
            clear hK K
            refine norm_ (a' := ?_) ?_ ?_
            rotate_left
            ·
             show Act.put _ (some 26) _ = _
             simp only [Act.put, sA, sZ, sU, i64_w, i32_w]
             rfl
            refine yO 0 20 (bm 13 1903) HT_ (fun K hK => ?_)
            refine Kd.N_lit_step (Kd.slice 3 (Kd.int .i64)) _ 24 ?hg (N' := 20) ?hd (xs := ([] : List (List Int))) (inner := []) (ok := (fun k_ => ((P0_ k_ ∨ P1_ k_) ∨ w.heap.size ≤ k_) ∧ some k_ ≠ (v285 : Value).ownBlock)) (okp := (fun k_ => ((P0_ k_ ∨ P1_ k_) ∨ w.heap.size ≤ k_) ∧ some k_ ≠ (v285 : Value).ownBlock)) ?hr ?hp (fun _ hk => hk) ((show ∀ k_, w17.heap.size ≤ k_ → (fun k_ => ((P0_ k_ ∨ P1_ k_) ∨ w.heap.size ≤ k_) ∧ some k_ ≠ (v285 : Value).ownBlock) k_ from fun k_ hk => ⟨(.inr (Nat.le_trans (below_size (xH HB.out)) hk)), Kd.fresh' (Kd.N_lt (xN HO286.out)) k_ hk⟩) _ (Nat.le_refl _)) (Below.refl _ _) (Nat.le_refl _) (by simp) ?_; (case hd => rfl); (case hg => rfl); (case hr => first | (go_simp; done) | (go_simp; rfl)); (case hp => exact (Reps.none _ _))
            intro v274 w19 ho20 hb hg_ hnew_
            clear hg_ hnew_
            (first | rw [← Ny273.out] at ho20 | (simp only [Int.reduceToNat] at ho20; rw [← Ny273.out] at ho20))
            have n0_ := aM (Kd.V_elder' (xV HO_0.out) (by first | exact Kd.N_base ho20 | exact Kd.S_base ho20 | exact Kd.R_base ho20) hb)
            have n1_ := aM (Kd.V_elder' (xV HO_1.out) (by first | exact Kd.N_base ho20 | exact Kd.S_base ho20 | exact Kd.R_base ho20) hb)
            have n2_ := aM (Kd.V_elder' (xV HL271_0.out) (by first | exact Kd.N_base ho20 | exact Kd.S_base ho20 | exact Kd.R_base ho20) hb)
            have n3_ := aM (Kd.V_elder' (xV HO280.out) (by first | exact Kd.N_base ho20 | exact Kd.S_base ho20 | exact Kd.R_base ho20) hb)
            have n4_ := aM (Kd.V_elder' (xV HO294.out) (by first | exact Kd.N_base ho20 | exact Kd.S_base ho20 | exact Kd.R_base ho20) hb)
            have n5_ := aM (Kd.N_elder' (xN HO286.out) (by first | exact Kd.N_base ho20 | exact Kd.S_base ho20 | exact Kd.R_base ho20) hb)
            have n6_ := aM (Kd.N_lower ho20 (below_size (xH HB.out)))
            have n7_ := aM (Kd.C_below (by repeat (first | (with_reducible exact HR271_0.out) | (with_reducible refine Kd.C_alloc ?_ _) | (with_reducible refine Kd.C_drewN ?_ _) | (with_reducible refine Kd.C_drew ?_) | exact HR271_0.out)) hb)
            have n8_ := yS0 HB hb
            clear HO_0 HO_1 HL271_0 HO280 HO294 HO286 HR271_0 HB
            have HO_0 := n0_
            have HO_1 := n1_
            have HL271_0 := n2_
            have HO280 := n3_
            have HO294 := n4_
            have HO286 := n5_
            have HO275 := n6_
            have HR271_0 := n7_
            have HB := n8_
            clear n0_ n1_ n2_ n3_ n4_ n5_ n6_ n7_ n8_ hb ho20
            refine hK.out _ _ trivial (fun hHeld => ?_)
            clear hK K
            refine norm_ (a' := ?_) ?_ ?_
            rotate_left
            ·
             show Act.put _ (some 20) _ = _
             simp only [Act.put, sA, sZ, sU, i64_w, i32_w]
             rfl
            refine yO 4 24 (bm 13 1919) HT_ (fun K hK => ?_)
            refine Kd.N_append_rows_step (Kd.slice 3 (Kd.int .i64)) (w0 := w) w.heap.size (by rfl) (.tmp 20) (.tmp 23) 31 24 (.slice none 0 0) 24 rfl Tryd.underlying31 info24 rfl (by decide) (by omega) v274 y273 y276 _ _ _ (fun k_ => ((P0_ k_ ∨ P1_ k_) ∨ w.heap.size ≤ k_) ∧ some k_ ≠ (v285 : Value).ownBlock) (fun k_ => ((fun k_ => ((P0_ k_ ∨ P1_ k_) ∨ w.heap.size ≤ k_) ∧ some k_ ≠ (v285 : Value).ownBlock)) k_ ∧ some k_ ≠ (v274 : Value).ownBlock) rfl rfl ?aO ?aR (fun _ hk => hk) ?aF ?aB ?aS ?aL ?_
            (case aR => exact (by skip; exact Kd.V_F (base := w.heap.size) (e := 3) (Kd.V_mono (e := 3) (base := w.heap.size) (ok' := (fun k_ => ((fun k_ => ((P0_ k_ ∨ P1_ k_) ∨ w.heap.size ≤ k_) ∧ some k_ ≠ (v285 : Value).ownBlock)) k_ ∧ some k_ ≠ (v274 : Value).ownBlock)) (HO280.out) (fun k_ hk => ⟨⟨hk.1.1, hk.1.2⟩, hk.2⟩))))
            (case aB => exact (xH HB.out))
            (case aF => exact (fun k_ hk => ⟨(.inr (Nat.le_trans (below_size (xH HB.out)) hk)), Kd.fresh' (Kd.N_lt (xN HO286.out)) k_ hk⟩))
            (case aO => exact (xN HO275.out))
            (case aS => exact (below_size (xH HB.out)))
            (case aL => have := LMc9.out; omega)
            intro v282 w21 ho hb hg hat
            rw [← Ny281.out] at ho
            have n0_ := aM (Kd.V_afterv (ok := (fun k_ => ((P0_ k_ ∨ P1_ k_) ∨ w.heap.size ≤ k_) ∧ some k_ ≠ (v285 : Value).ownBlock)) (xV HO_0.out) hg hat)
            have n1_ := aM (Kd.V_afterv (ok := (fun k_ => ((P0_ k_ ∨ P1_ k_) ∨ w.heap.size ≤ k_) ∧ some k_ ≠ (v285 : Value).ownBlock)) (xV HO_1.out) hg hat)
            have n2_ := aM (Kd.V_afterv (ok := (fun k_ => ((P0_ k_ ∨ P1_ k_) ∨ w.heap.size ≤ k_) ∧ some k_ ≠ (v285 : Value).ownBlock)) (xV HL271_0.out) hg hat)
            have n3_ := aM (Kd.V_afterv (ok := (fun k_ => ((P0_ k_ ∨ P1_ k_) ∨ w.heap.size ≤ k_) ∧ some k_ ≠ (v285 : Value).ownBlock)) (xV HO280.out) hg hat)
            have n4_ := aM (Kd.V_afterv (ok := (fun k_ => ((P0_ k_ ∨ P1_ k_) ∨ w.heap.size ≤ k_) ∧ some k_ ≠ (v285 : Value).ownBlock)) (xV HO294.out) hg hat)
            have n5_ := aM (Kd.N_afterv (ok := (fun k_ => ((P0_ k_ ∨ P1_ k_) ∨ w.heap.size ≤ k_))) (xN HO286.out) hg hat)
            have n6_ := aM (hb)
            have n7_ := aM (ho)
            clear HO_0 HO_1 HL271_0 HO280 HO294 HO286 HB HO275
            have HO_0 := n0_
            have HO_1 := n1_
            have HL271_0 := n2_
            have HO280 := n3_
            have HO294 := n4_
            have HO286 := n5_
            have HB := n6_
            have HO283 := n7_
            clear n0_ n1_ n2_ n3_ n4_ n5_ n6_ n7_ ho hb hg hat
            refine hK.out _ _ trivial (fun hHeld => ?_)
            clear hK K
            refine norm_ (a' := ?_) ?_ ?_
            rotate_left
            ·
             show Act.put _ (some 24) _ = _
             simp only [Act.put, sA, sZ, sU, i64_w, i32_w]
             rfl
            exact norm_ (by simp only [putAll, Act.put, sA, sZ, sU]) (hCont (v274, v282, v285) _ ⟨(by (with_reducible repeat (first | apply Kd.V_alloc | apply Kd.V_drewN | apply Kd.V_drew)); exact Kd.V_mono HL271_0.out (fun _ hk => ⟨hk.1.1, ⟨hk.2, hk.1.2⟩⟩)), (by (with_reducible repeat (first | apply Kd.V_alloc | apply Kd.V_drewN | apply Kd.V_drew)); exact Kd.V_mono HO280.out (fun _ hk => ⟨hk.1.1, ⟨hk.2, hk.1.2⟩⟩)), (xN HO283.out), (xN HO286.out), (by (with_reducible repeat (first | apply Kd.V_alloc | apply Kd.V_drewN | apply Kd.V_drew)); exact Kd.V_mono HO294.out (fun _ hk => ⟨hk.1.1, ⟨hk.2, hk.1.2⟩⟩)), (by (with_reducible repeat (first | apply Kd.V_alloc | apply Kd.V_drewN | apply Kd.V_drew)); exact Kd.V_mono HO_0.out (fun _ hk => ⟨hk.1.1, ⟨hk.2, hk.1.2⟩⟩)), (by (with_reducible repeat (first | apply Kd.V_alloc | apply Kd.V_drewN | apply Kd.V_drew)); exact Kd.V_mono HO_1.out (fun _ hk => ⟨hk.1.1, ⟨hk.2, hk.1.2⟩⟩)), (xH HB.out)⟩)
          rintro ⟨v274, v282, v285⟩ w22 ⟨h0_, h1_, h2_, h3_, h4_, h5_, h6_, h7_⟩
          have n0_ : Aside0 (Kd.V (Kd.int .i64) 3 w22 w.heap.size (fun k_ => ((P0_ k_ ∨ P1_ k_) ∨ w.heap.size ≤ k_) ∧ some k_ ≠ (v282 : Value).ownBlock ∧ some k_ ≠ (v285 : Value).ownBlock) (.slice A271_0 (rd_L3 l0 x5_1).length c271_0) (rd_L3 l0 x5_1)) := ⟨h0_⟩
          have n1_ : Aside0 (Kd.V (Kd.slice 3 (Kd.int .i64)) 24 w22 w.heap.size (fun k_ => ((P0_ k_ ∨ P1_ k_) ∨ w.heap.size ≤ k_) ∧ some k_ ≠ (v282 : Value).ownBlock ∧ some k_ ≠ (v285 : Value).ownBlock) (.slice (some ad271) y276.length c0) y276) := ⟨h1_⟩
          have n2_ : Aside0 (Kd.N (Kd.slice 3 (Kd.int .i64)) 24 w22 w.heap.size (fun k_ => ((P0_ k_ ∨ P1_ k_) ∨ w.heap.size ≤ k_) ∧ some k_ ≠ (v285 : Value).ownBlock) v282 y281) := ⟨h2_⟩
          have n3_ : Aside0 (Kd.N (Kd.slice 3 (Kd.int .i64)) 24 w22 w.heap.size (fun k_ => ((P0_ k_ ∨ P1_ k_) ∨ w.heap.size ≤ k_) ∧ some k_ ≠ (v282 : Value).ownBlock) v285 y284) := ⟨h3_⟩
          have n4_ : Aside0 (Kd.V (Kd.slice 3 (Kd.int .i64)) 24 w22 w.heap.size (fun k_ => ((P0_ k_ ∨ P1_ k_) ∨ w.heap.size ≤ k_) ∧ some k_ ≠ (v282 : Value).ownBlock ∧ some k_ ≠ (v285 : Value).ownBlock) (.slice A16 y290.length c16) y290) := ⟨h4_⟩
          have n5_ : Aside0 (Kd.V (Kd.slice 3 (Kd.int .i64)) 24 w22 w.heap.size (fun k_ => ((P0_ k_ ∨ P1_ k_) ∨ w.heap.size ≤ k_) ∧ some k_ ≠ (v282 : Value).ownBlock ∧ some k_ ≠ (v285 : Value).ownBlock) (.slice (some ad271) l0.length c0) l0) := ⟨h5_⟩
          have n6_ : Aside0 (Kd.V (Kd.int .i64) 3 w22 w.heap.size (fun k_ => ((P0_ k_ ∨ P1_ k_) ∨ w.heap.size ≤ k_) ∧ some k_ ≠ (v282 : Value).ownBlock ∧ some k_ ≠ (v285 : Value).ownBlock) (.slice A1 l1.length c1) l1) := ⟨h6_⟩
          have n7_ : Aside0 (Below w.heap.size w w22) := ⟨h7_⟩
          clear HO_0 HO_1 HL271_0 HR271_0 HB h0_ h1_ h2_ h3_ h4_ h5_ h6_ h7_
          have HL271_0 := n0_
          have HO280 := n1_
          have HO283 := n2_
          have HO286 := n3_
          have HO294 := n4_
          have HO_0 := n5_
          have HO_1 := n6_
          have HB := n7_
          clear n0_ n1_ n2_ n3_ n4_ n5_ n6_ n7_
          have hHeld := trivial
          obtain ⟨Ao24, co24, eo24⟩ := Kd.N_slice HO286.out
          (first | subst eo24 | (injection eo24 with f1_ f2_ f3_; have f4_ := f1_.symm; have f5_ := f3_.symm; clear f1_ f2_ f3_; subst f4_; subst f5_))
          refine norm_ (a' := ?_) ?_ ?_
          rotate_left
          ·
           simp only [putAll, Act.put, sA, sZ, sU]
           rfl
          refine yO 7 27 (bm 13 2047) HT_ (fun K hK => ?_)
          refine Kd.N_append_rows_step (Kd.slice 3 (Kd.int .i64)) (w0 := w) w.heap.size (by rfl) (.tmp 24) (.tmp 26) 31 24 (.slice none 0 0) 24 rfl Tryd.underlying31 info24 rfl (by decide) (by omega) v282 y281 y284 _ _ _ (fun k_ => ((P0_ k_ ∨ P1_ k_) ∨ w.heap.size ≤ k_)) (fun k_ => ((fun k_ => ((P0_ k_ ∨ P1_ k_) ∨ w.heap.size ≤ k_))) k_ ∧ some k_ ≠ (v282 : Value).ownBlock) rfl rfl ?aO ?aR (fun _ hk => hk) ?aF ?aB ?aS ?aL ?_
          (case aR => exact (by skip; exact Kd.N_F (Kd.N_mono (ok' := (fun k_ => ((fun k_ => ((P0_ k_ ∨ P1_ k_) ∨ w.heap.size ≤ k_))) k_ ∧ some k_ ≠ (v282 : Value).ownBlock)) (HO286.out) (fun k_ hk => ⟨hk.1, hk.2⟩))))
          (case aB => exact (xH HB.out))
          (case aF => exact (fun k_ hk => (.inr (Nat.le_trans (below_size (xH HB.out)) hk))))
          (case aO => exact (zN (Kd.N_mono HO283.out (fun _ hk => hk.1))))
          (case aS => exact (below_size (xH HB.out)))
          (case aL => have := LMc10.out; omega)
          intro v288 w23 ho hb hg hat
          rw [← Ny287.out] at ho
          have n0_ := aM (Kd.V_afterv (ok := (fun k_ => ((P0_ k_ ∨ P1_ k_) ∨ w.heap.size ≤ k_) ∧ some k_ ≠ (.slice Ao24 y284.length co24 : Value).ownBlock)) (by (with_reducible repeat (first | apply Kd.V_alloc | apply Kd.V_drewN | apply Kd.V_drew)); exact Kd.V_mono HO_0.out (fun _ hk => ⟨⟨hk.1, hk.2.2⟩, hk.2.1⟩)) hg hat)
          have n1_ := aM (Kd.V_afterv (ok := (fun k_ => ((P0_ k_ ∨ P1_ k_) ∨ w.heap.size ≤ k_) ∧ some k_ ≠ (.slice Ao24 y284.length co24 : Value).ownBlock)) (by (with_reducible repeat (first | apply Kd.V_alloc | apply Kd.V_drewN | apply Kd.V_drew)); exact Kd.V_mono HO_1.out (fun _ hk => ⟨⟨hk.1, hk.2.2⟩, hk.2.1⟩)) hg hat)
          have n2_ := aM (Kd.V_afterv (ok := (fun k_ => ((P0_ k_ ∨ P1_ k_) ∨ w.heap.size ≤ k_) ∧ some k_ ≠ (.slice Ao24 y284.length co24 : Value).ownBlock)) (by (with_reducible repeat (first | apply Kd.V_alloc | apply Kd.V_drewN | apply Kd.V_drew)); exact Kd.V_mono HL271_0.out (fun _ hk => ⟨⟨hk.1, hk.2.2⟩, hk.2.1⟩)) hg hat)
          have n3_ := aM (Kd.V_afterv (ok := (fun k_ => ((P0_ k_ ∨ P1_ k_) ∨ w.heap.size ≤ k_) ∧ some k_ ≠ (.slice Ao24 y284.length co24 : Value).ownBlock)) (by (with_reducible repeat (first | apply Kd.V_alloc | apply Kd.V_drewN | apply Kd.V_drew)); exact Kd.V_mono HO280.out (fun _ hk => ⟨⟨hk.1, hk.2.2⟩, hk.2.1⟩)) hg hat)
          have n4_ := aM (Kd.V_afterv (ok := (fun k_ => ((P0_ k_ ∨ P1_ k_) ∨ w.heap.size ≤ k_) ∧ some k_ ≠ (.slice Ao24 y284.length co24 : Value).ownBlock)) (by (with_reducible repeat (first | apply Kd.V_alloc | apply Kd.V_drewN | apply Kd.V_drew)); exact Kd.V_mono HO294.out (fun _ hk => ⟨⟨hk.1, hk.2.2⟩, hk.2.1⟩)) hg hat)
          have n5_ := aM (Kd.N_afterv (ok := (fun k_ => ((P0_ k_ ∨ P1_ k_) ∨ w.heap.size ≤ k_))) (xN HO286.out) hg hat)
          have n6_ := aM (hb)
          have n7_ := aM (ho)
          clear HO_0 HO_1 HL271_0 HO280 HO294 HO286 HB HO283
          have HO_0 := n0_
          have HO_1 := n1_
          have HL271_0 := n2_
          have HO280 := n3_
          have HO294 := n4_
          have HO286 := n5_
          have HB := n6_
          have HO289 := n7_
          clear n0_ n1_ n2_ n3_ n4_ n5_ n6_ n7_ ho hb hg hat
          refine hK.out _ _ trivial (fun hHeld => ?_)
          clear hK K
          refine norm_ (a' := ?_) ?_ ?_
          rotate_left
          ·
           show Act.put _ (some 27) _ = _
           simp only [Act.put, sA, sZ, sU, i64_w, i32_w]
           rfl
          refine yO 11 31 (bm 13 4095) HT_ (fun K hK => ?_)
          refine Kd.N_append_rows_step (Kd.slice 3 (Kd.int .i64)) (w0 := w) w.heap.size (by rfl) (.tmp 27) (.tmp 30) 31 24 (.slice none 0 0) 24 rfl Tryd.underlying31 info24 rfl (by decide) (by omega) v288 y287 y290 _ _ _ (fun k_ => ((P0_ k_ ∨ P1_ k_) ∨ w.heap.size ≤ k_)) (fun k_ => ((fun k_ => ((P0_ k_ ∨ P1_ k_) ∨ w.heap.size ≤ k_))) k_ ∧ some k_ ≠ (v288 : Value).ownBlock) rfl rfl ?aO ?aR (fun _ hk => hk) ?aF ?aB ?aS ?aL ?_
          (case aR => exact (by skip; exact Kd.V_F (base := w.heap.size) (e := 3) (Kd.V_mono (e := 3) (base := w.heap.size) (ok' := (fun k_ => ((fun k_ => ((P0_ k_ ∨ P1_ k_) ∨ w.heap.size ≤ k_))) k_ ∧ some k_ ≠ (v288 : Value).ownBlock)) (HO294.out) (fun k_ hk => ⟨hk.1.1, hk.2⟩))))
          (case aB => exact (xH HB.out))
          (case aF => exact (fun k_ hk => (.inr (Nat.le_trans (below_size (xH HB.out)) hk))))
          (case aO => exact (xN HO289.out))
          (case aS => exact (below_size (xH HB.out)))
          (case aL => have := LMc13.out; omega)
          intro v296 w25 ho hb hg hat
          rw [← Ny295.out] at ho
          have n0_ := aM (Kd.V_afterv (ok := (fun k_ => ((P0_ k_ ∨ P1_ k_) ∨ w.heap.size ≤ k_) ∧ some k_ ≠ (.slice Ao24 y284.length co24 : Value).ownBlock)) (xV HO_0.out) hg hat)
          have n1_ := aM (Kd.V_afterv (ok := (fun k_ => ((P0_ k_ ∨ P1_ k_) ∨ w.heap.size ≤ k_) ∧ some k_ ≠ (.slice Ao24 y284.length co24 : Value).ownBlock)) (xV HO_1.out) hg hat)
          have n2_ := aM (Kd.V_afterv (ok := (fun k_ => ((P0_ k_ ∨ P1_ k_) ∨ w.heap.size ≤ k_) ∧ some k_ ≠ (.slice Ao24 y284.length co24 : Value).ownBlock)) (xV HL271_0.out) hg hat)
          have n3_ := aM (Kd.V_afterv (ok := (fun k_ => ((P0_ k_ ∨ P1_ k_) ∨ w.heap.size ≤ k_) ∧ some k_ ≠ (.slice Ao24 y284.length co24 : Value).ownBlock)) (xV HO280.out) hg hat)
          have n4_ := aM (Kd.V_afterv (ok := (fun k_ => ((P0_ k_ ∨ P1_ k_) ∨ w.heap.size ≤ k_) ∧ some k_ ≠ (.slice Ao24 y284.length co24 : Value).ownBlock)) (xV HO294.out) hg hat)
          have n5_ := aM (Kd.N_afterv (ok := (fun k_ => ((P0_ k_ ∨ P1_ k_) ∨ w.heap.size ≤ k_))) (xN HO286.out) hg hat)
          have n6_ := aM (hb)
          have n7_ := aM (ho)
          clear HO_0 HO_1 HL271_0 HO280 HO294 HO286 HB HO289
          have HO_0 := n0_
          have HO_1 := n1_
          have HL271_0 := n2_
          have HO280 := n3_
          have HO294 := n4_
          have HO286 := n5_
          have HB := n6_
          have HO297 := n7_
          clear n0_ n1_ n2_ n3_ n4_ n5_ n6_ n7_ ho hb hg hat
          refine hK.out _ _ trivial (fun hHeld => ?_)
          clear hK K
          refine norm_ (a' := ?_) ?_ ?_
          rotate_left
          ·
           show Act.put _ (some 31) _ = _
           simp only [Act.put, sA, sZ, sU, i64_w, i32_w]
           rfl
          refine yP 12 4 (bm 13 8191) HT_ ?_
          refine done_ (done_of HT_.out (by kernel_rfl)) ?_
          try go_wp2
          go_ret
          exact ⟨_, yF, xN HO297.out, by repeat (first | (with_reducible first | exact HB.out | apply eA | apply eN | apply eD) | exact HB.out)⟩
         ·
          rw [if_neg c13] at H
          exact absurd H (by simp)
        ·
         rw [if_neg c10] at H
         exact absurd H (by simp)
       ·
        rw [if_neg c9] at H
        exact absurd H (by simp)
      ·
       rw [if_neg c8] at H
       exact absurd H (by simp)
    ·
     rw [if_neg c4] at H
     exact absurd H (by simp)
   ·
    rw [if_neg c3] at H
    have c3b0 := decide_eq_false c3
    clear c3
    obtain ⟨y298, hy298⟩ := yE (([] : List (List Int)) : List (List Int))
    replace H : (if 0 ≤ x5_1 then (if x5_1 ≤ (l0.length : Int) then ((some (l0.take (x5_1 : Int).toNat : List (List Int))).bind fun y301 => (if y298.length + y301.length < 5864062014805 then ((some (y298 ++ y301 : List (List Int))).bind fun y306 => ((some (([l1] : List (List Int)) : List (List Int))).bind fun y309 => (if y306.length + y309.length < 5864062014805 then ((some (y306 ++ y309 : List (List Int))).bind fun y312 => ((some (l0.drop (x5_1 : Int).toNat : List (List Int))).bind fun y315 => (if y312.length + y315.length < 5864062014805 then (some (y312 ++ y315)) else (none)))) else (none)))) else (none))) else (none)) else (none)) = some r := by first | (rw [hy298]; with_reducible exact H) | (have H2_ := (Option.bind_some _ _).symm.trans H; rw [hy298]; with_reducible exact H2_) | (have H2_ := (Option.bind_some _ _).symm.trans H; with_reducible exact H2_) | with_reducible exact H | (rw [hy298]; exact H) | exact H
    have Ny298 := aM hy298
    clear hy298
    by_cases c26 : 0 ≤ x5_1
    ·
     rw [if_pos c26] at H
     have c26b0 := eq_true c26
     have c26b1 : decide (0 ≤ x5_1) = true := decide_eq_true c26
     clear c26
     by_cases c27 : x5_1 ≤ (l0.length : Int)
     ·
      rw [if_pos c27] at H
      have c27b0 := eq_true c27
      have c27b1 : decide (x5_1 ≤ (l0.length : Int)) = true := decide_eq_true c27
      clear c27
      obtain ⟨y301, hy301⟩ := yE (l0.take (x5_1 : Int).toNat : List (List Int))
      replace H : (if y298.length + y301.length < 5864062014805 then ((some (y298 ++ y301 : List (List Int))).bind fun y306 => ((some (([l1] : List (List Int)) : List (List Int))).bind fun y309 => (if y306.length + y309.length < 5864062014805 then ((some (y306 ++ y309 : List (List Int))).bind fun y312 => ((some (l0.drop (x5_1 : Int).toNat : List (List Int))).bind fun y315 => (if y312.length + y315.length < 5864062014805 then (some (y312 ++ y315)) else (none)))) else (none)))) else (none)) = some r := by first | (rw [hy301]; with_reducible exact H) | (have H2_ := (Option.bind_some _ _).symm.trans H; rw [hy301]; with_reducible exact H2_) | (have H2_ := (Option.bind_some _ _).symm.trans H; with_reducible exact H2_) | with_reducible exact H | (rw [hy301]; exact H) | exact H
      have Ny301 := aM hy301
      clear hy301
      by_cases c28 : y298.length + y301.length < 5864062014805
      ·
       rw [if_pos c28] at H
       have LMc28 := aM c28
       clear c28
       obtain ⟨y306, hy306⟩ := yE (y298 ++ y301 : List (List Int))
       replace H : ((some (([l1] : List (List Int)) : List (List Int))).bind fun y309 => (if y306.length + y309.length < 5864062014805 then ((some (y306 ++ y309 : List (List Int))).bind fun y312 => ((some (l0.drop (x5_1 : Int).toNat : List (List Int))).bind fun y315 => (if y312.length + y315.length < 5864062014805 then (some (y312 ++ y315)) else (none)))) else (none))) = some r := by first | (rw [hy306]; with_reducible exact H) | (have H2_ := (Option.bind_some _ _).symm.trans H; rw [hy306]; with_reducible exact H2_) | (have H2_ := (Option.bind_some _ _).symm.trans H; with_reducible exact H2_) | with_reducible exact H | (rw [hy306]; exact H) | exact H
       have Ny306 := aM hy306
       clear hy306
       obtain ⟨y309, hy309⟩ := yE (([l1] : List (List Int)) : List (List Int))
       replace H : (if y306.length + y309.length < 5864062014805 then ((some (y306 ++ y309 : List (List Int))).bind fun y312 => ((some (l0.drop (x5_1 : Int).toNat : List (List Int))).bind fun y315 => (if y312.length + y315.length < 5864062014805 then (some (y312 ++ y315)) else (none)))) else (none)) = some r := by first | (rw [hy309]; with_reducible exact H) | (have H2_ := (Option.bind_some _ _).symm.trans H; rw [hy309]; with_reducible exact H2_) | (have H2_ := (Option.bind_some _ _).symm.trans H; with_reducible exact H2_) | with_reducible exact H | (rw [hy309]; exact H) | exact H
       have Ny309 := aM hy309
       clear hy309
       by_cases c29 : y306.length + y309.length < 5864062014805
       ·
        rw [if_pos c29] at H
        have LMc29 := aM c29
        clear c29
        obtain ⟨y312, hy312⟩ := yE (y306 ++ y309 : List (List Int))
        replace H : ((some (l0.drop (x5_1 : Int).toNat : List (List Int))).bind fun y315 => (if y312.length + y315.length < 5864062014805 then (some (y312 ++ y315)) else (none))) = some r := by first | (rw [hy312]; with_reducible exact H) | (have H2_ := (Option.bind_some _ _).symm.trans H; rw [hy312]; with_reducible exact H2_) | (have H2_ := (Option.bind_some _ _).symm.trans H; with_reducible exact H2_) | with_reducible exact H | (rw [hy312]; exact H) | exact H
        have Ny312 := aM hy312
        clear hy312
        have c30b0 := eq_true (yA : 0 ≤ x5_1)
        have c31b0 := eq_true (yA : x5_1 ≤ (l0.length : Int))
        obtain ⟨y315, hy315⟩ := yE (l0.drop (x5_1 : Int).toNat : List (List Int))
        replace H : (if y312.length + y315.length < 5864062014805 then (some (y312 ++ y315)) else (none)) = some r := by first | (rw [hy315]; with_reducible exact H) | (have H2_ := (Option.bind_some _ _).symm.trans H; rw [hy315]; with_reducible exact H2_) | (have H2_ := (Option.bind_some _ _).symm.trans H; with_reducible exact H2_) | with_reducible exact H | (rw [hy315]; exact H) | exact H
        have Ny315 := aM hy315
        clear hy315
        by_cases c32 : y312.length + y315.length < 5864062014805
        ·
         rw [if_pos c32] at H
         have LMc32 := aM c32
         clear c32
         obtain ⟨y320, hy320⟩ := yE (y312 ++ y315 : List (List Int))
         replace H : (some y320) = some r := by first | (rw [hy320]; with_reducible exact H) | (have H2_ := (Option.bind_some _ _).symm.trans H; rw [hy320]; with_reducible exact H2_) | (have H2_ := (Option.bind_some _ _).symm.trans H; with_reducible exact H2_) | with_reducible exact H | (rw [hy320]; exact H) | exact H
         have Ny320 := aM hy320
         clear hy320
         obtain rfl := Option.some.inj H
         try go_wp2
         replace HO_0 := aM (Kd.V_drew HO_0.out)
         replace HO_1 := aM (Kd.V_drew HO_1.out)
         replace HB := aM (eD HB.out)
         have q34 : (x5_1 : Int) ≤ ((l0.length : Int) : Int) := yA
         obtain ⟨i034, hi034, _, hsz34, _⟩ := info_parts info24
         have hroom34 : l0.length ≤ c0 := (Kd.V_reads' HO_0.out).2.1
         have hC34 : Kd.F (Kd.slice 3 (Kd.int .i64)) _ _ A0 l0.length l0 := (Kd.V_at (base := w.heap.size) HO_0.out).2.2
         have hcut34 := cut_to (P := Tryd.prog) 31 24 .i64 Tryd.underlying31 hi034 A0 l0.length c0 x5_1 (yA) q34 hroom34
         have hr34 := Kd.F_take (m := (x5_1 : Int).toNat) hC34 (by omega)
         have hy34 : y301.length = (x5_1 : Int).toNat := (by rw [Ny301.out, List.length_take]; omega)
         rw [← Ny301.out] at hr34
         rw [← hy34] at hcut34
         have HO305 := aM (show Kd.V (Kd.slice 3 (Kd.int .i64)) 24 _ w.heap.size _ (.slice A0 y301.length c0) y301 from Kd.V_mk (by omega) hr34)
         have HC305 := aM (show y301.length ≤ c0 from by omega)
         clear hr34 hC34 hroom34 hi034 hsz34
         have KY34 := aM hy34
         clear hy34
         replace q34 := eq_true q34
         have q35 : (x5_1 : Int) ≤ ((l0.length : Int) : Int) := yA
         obtain ⟨i035, hi035, _, hsz35, _⟩ := info_parts info24
         have hroom35 : l0.length ≤ c0 := (Kd.V_reads' HO_0.out).2.1
         have hC35 : Kd.F (Kd.slice 3 (Kd.int .i64)) _ _ A0 l0.length l0 := (Kd.V_at (base := w.heap.size) HO_0.out).2.2
         have q035 : (0 : Int) ≤ (x5_1 : Int) := yA
         have hcut35 := cut_from (P := Tryd.prog) 31 24 .i64 Tryd.underlying31 hi035 1 hsz35 A0 l0.length c0 x5_1 q035 q35
         have hr35 := Kd.F_cut (m := (x5_1 : Int).toNat) (c := c0) hC35 (by omega) hroom35
         obtain ⟨A35, hA35⟩ : ∃ A1, A1 = (if c0 = (x5_1 : Int).toNat then A0 else (A0 : Option Addr).map (·.add ((x5_1 : Int).toNat * 1))) := ⟨_, rfl⟩
         obtain ⟨c35, hc35⟩ : ∃ c1, c1 = c0 - (x5_1 : Int).toNat := ⟨_, rfl⟩
         have hy35 : y315.length = l0.length - (x5_1 : Int).toNat := (by rw [Ny315.out, List.length_drop] <;> omega)
         rw [show (l0).drop (x5_1 : Int).toNat = y315 from Ny315.out.symm] at hr35
         replace hr35 : Kd.F (Kd.slice 3 (Kd.int .i64)) _ _ A35 y315.length y315 := (by rw [hA35]; exact hr35)
         rw [← hy35, ← hA35, ← hc35] at hcut35
         have HO319 := aM (show Kd.V (Kd.slice 3 (Kd.int .i64)) 24 _ w.heap.size _ (.slice A35 y315.length c35) y315 from Kd.V_mk (by rw [hy35, hc35]; exact Nat.sub_le_sub_right hroom35 _) hr35)
         have HC319 := aM (show y315.length ≤ c35 from by rw [hy35, hc35]; exact Nat.sub_le_sub_right hroom35 _)
         clear hr35 hC35 hroom35 hi035 hsz35 hc35
         have KY35 := aM hy35
         have KA35 := aM hA35
         clear hy35 hA35
         replace q35 := eq_true q35
         refine start_ (n := 13) (S := fun w' => True) (ds := []) (bm 13 0) (by kernel_rfl) rfl rfl trivial (fun hHeld => ?_); refine with_tabW spec_l6Put.tab4 spec_l6Put.bits4 (fun HT_ HW_ => ?_)
         generalize wr.drew = w33 at HO_0 HO_1 HB HO305 HO319 hHeld ⊢
         refine yP 1 21 (bm 13 2) HT_ ?_
         refine yP 2 22 (bm 13 6) HT_ ?_
         refine yP 3 23 (bm 13 14) HT_ ?_
         refine yP 5 25 (bm 13 46) HT_ ?_
         refine yP 8 28 (bm 13 302) HT_ ?_
         refine yP 9 29 (bm 13 814) HT_ ?_
         refine yP 10 30 (bm 13 1838) HT_ ?_
         refine join_ (σ := Value × Value × Value) 3 (bm 13 1919) (fun s_ => [(20, s_.1), (24, s_.2.1), (26, s_.2.2)]) (fun s_ w' => (Kd.V (Kd.slice 3 (Kd.int .i64)) 24 w' w.heap.size (fun k_ => ((P0_ k_ ∨ P1_ k_) ∨ w.heap.size ≤ k_) ∧ some k_ ≠ (s_.2.1 : Value).ownBlock ∧ some k_ ≠ (s_.2.2 : Value).ownBlock) (.slice A0 y301.length c0) y301) ∧ (Kd.N (Kd.slice 3 (Kd.int .i64)) 24 w' w.heap.size (fun k_ => ((P0_ k_ ∨ P1_ k_) ∨ w.heap.size ≤ k_) ∧ some k_ ≠ (s_.2.2 : Value).ownBlock) s_.2.1 y306) ∧ (Kd.N (Kd.slice 3 (Kd.int .i64)) 24 w' w.heap.size (fun k_ => ((P0_ k_ ∨ P1_ k_) ∨ w.heap.size ≤ k_) ∧ some k_ ≠ (s_.2.1 : Value).ownBlock) s_.2.2 y309) ∧ (Kd.V (Kd.slice 3 (Kd.int .i64)) 24 w' w.heap.size (fun k_ => ((P0_ k_ ∨ P1_ k_) ∨ w.heap.size ≤ k_) ∧ some k_ ≠ (s_.2.1 : Value).ownBlock ∧ some k_ ≠ (s_.2.2 : Value).ownBlock) (.slice A35 y315.length c35) y315) ∧ (Kd.V (Kd.slice 3 (Kd.int .i64)) 24 w' w.heap.size (fun k_ => ((P0_ k_ ∨ P1_ k_) ∨ w.heap.size ≤ k_) ∧ some k_ ≠ (s_.2.1 : Value).ownBlock ∧ some k_ ≠ (s_.2.2 : Value).ownBlock) (.slice A0 l0.length c0) l0) ∧ (Kd.V (Kd.int .i64) 3 w' w.heap.size (fun k_ => ((P0_ k_ ∨ P1_ k_) ∨ w.heap.size ≤ k_) ∧ some k_ ≠ (s_.2.1 : Value).ownBlock ∧ some k_ ≠ (s_.2.2 : Value).ownBlock) (.slice A1 l1.length c1) l1) ∧ (Below w.heap.size w w')) ?_ ?_
         rotate_left
         ·
          intro hCont
          refine two_ (i := 0) (j := 6) (Ni := some 20) (Nj := some 26) (bm 13 1839) (bm 13 1902) rfl rfl rfl rfl (two_of HT_.out (by kernel_rfl)) (by decide) (by decide) (fun K hK => ?_) (fun K hK => ?_)
          ·
           skip
           refine Kd.N_lit_step (Kd.slice 3 (Kd.int .i64)) _ 24 ?hg (N' := 20) ?hd (xs := ([] : List (List Int))) (inner := []) (ok := (fun k_ => ((P0_ k_ ∨ P1_ k_) ∨ w.heap.size ≤ k_))) (okp := (fun k_ => ((P0_ k_ ∨ P1_ k_) ∨ w.heap.size ≤ k_))) ?hr ?hp (fun _ hk => hk) ((show ∀ k_, w33.heap.size ≤ k_ → (fun k_ => ((P0_ k_ ∨ P1_ k_) ∨ w.heap.size ≤ k_)) k_ from fun k_ hk => (.inr (Nat.le_trans (below_size (xH HB.out)) hk))) _ (Nat.le_refl _)) (Below.refl _ _) (Nat.le_refl _) (by simp) ?_; (case hd => rfl); (case hg => rfl); (case hr => first | (go_simp; done) | (go_simp; rfl)); (case hp => exact (Reps.none _ _))
           intro v299 w36 ho37 hb hg_ hnew_
           clear hg_ hnew_
           (first | rw [← Ny298.out] at ho37 | (simp only [Int.reduceToNat] at ho37; rw [← Ny298.out] at ho37))
           have n0_ := aM (Kd.V_elder' (xV HO_0.out) (by first | exact Kd.N_base ho37 | exact Kd.S_base ho37 | exact Kd.R_base ho37) hb)
           have n1_ := aM (Kd.V_elder' (xV HO_1.out) (by first | exact Kd.N_base ho37 | exact Kd.S_base ho37 | exact Kd.R_base ho37) hb)
           have n2_ := aM (Kd.V_elder' (xV HO305.out) (by first | exact Kd.N_base ho37 | exact Kd.S_base ho37 | exact Kd.R_base ho37) hb)
           have n3_ := aM (Kd.V_elder' (xV HO319.out) (by first | exact Kd.N_base ho37 | exact Kd.S_base ho37 | exact Kd.R_base ho37) hb)
           have n4_ := aM (Kd.N_lower ho37 (below_size (xH HB.out)))
           have n5_ := yS0 HB hb
           clear HO_0 HO_1 HO305 HO319 HB
           have HO_0 := n0_
           have HO_1 := n1_
           have HO305 := n2_
           have HO319 := n3_
           have HO300 := n4_
           have HB := n5_
           clear n0_ n1_ n2_ n3_ n4_ n5_ hb ho37
           refine hK.out _ _ trivial (fun hHeld => ?_)
           clear hK K
           refine norm_ (a' := ?_) ?_ ?_
           rotate_left
           ·
            show Act.put _ (some 20) _ = _
            simp only [Act.put, sA, sZ, sU, i64_w, i32_w]
            rfl
           refine two_ (i := 4) (j := 6) (Ni := some 24) (Nj := some 26) (bm 13 1855) (bm 13 1903) rfl rfl rfl rfl (two_of HT_.out (by kernel_rfl)) (by decide) (by decide) (fun K hK => ?_) (fun K hK => ?_)
           ·
            skip
            refine Kd.N_append_rows_step (Kd.slice 3 (Kd.int .i64)) (w0 := w) w.heap.size (by rfl) (.tmp 20) (.tmp 23) 31 24 (.slice none 0 0) 24 rfl Tryd.underlying31 info24 rfl (by decide) (by omega) v299 y298 y301 _ _ _ (fun k_ => ((P0_ k_ ∨ P1_ k_) ∨ w.heap.size ≤ k_)) (fun k_ => ((fun k_ => ((P0_ k_ ∨ P1_ k_) ∨ w.heap.size ≤ k_))) k_ ∧ some k_ ≠ (v299 : Value).ownBlock) rfl rfl ?aO ?aR (fun _ hk => hk) ?aF ?aB ?aS ?aL ?_
            (case aR => exact (by skip; exact Kd.V_F (base := w.heap.size) (e := 3) (Kd.V_mono (e := 3) (base := w.heap.size) (ok' := (fun k_ => ((fun k_ => ((P0_ k_ ∨ P1_ k_) ∨ w.heap.size ≤ k_))) k_ ∧ some k_ ≠ (v299 : Value).ownBlock)) (HO305.out) (fun k_ hk => ⟨hk.1, hk.2⟩))))
            (case aB => exact (xH HB.out))
            (case aF => exact (fun k_ hk => (.inr (Nat.le_trans (below_size (xH HB.out)) hk))))
            (case aO => exact (xN HO300.out))
            (case aS => exact (below_size (xH HB.out)))
            (case aL => have := LMc28.out; omega)
            intro v307 w38 ho hb hg hat
            rw [← Ny306.out] at ho
            have n0_ := aM (Kd.V_afterv (ok := (fun k_ => ((P0_ k_ ∨ P1_ k_) ∨ w.heap.size ≤ k_))) (xV HO_0.out) hg hat)
            have n1_ := aM (Kd.V_afterv (ok := (fun k_ => ((P0_ k_ ∨ P1_ k_) ∨ w.heap.size ≤ k_))) (xV HO_1.out) hg hat)
            have n2_ := aM (Kd.V_afterv (ok := (fun k_ => ((P0_ k_ ∨ P1_ k_) ∨ w.heap.size ≤ k_))) (xV HO305.out) hg hat)
            have n3_ := aM (Kd.V_afterv (ok := (fun k_ => ((P0_ k_ ∨ P1_ k_) ∨ w.heap.size ≤ k_))) (xV HO319.out) hg hat)
            have n4_ := aM (hb)
            have n5_ := aM (ho)
            clear HO_0 HO_1 HO305 HO319 HB HO300
            have HO_0 := n0_
            have HO_1 := n1_
            have HO305 := n2_
            have HO319 := n3_
            have HB := n4_
            have HO308 := n5_
            clear n0_ n1_ n2_ n3_ n4_ n5_ ho hb hg hat
            refine hK.out _ _ trivial (fun hHeld => ?_)
            clear hK K
            refine norm_ (a' := ?_) ?_ ?_
            rotate_left
            ·
             show Act.put _ (some 24) _ = _
             simp only [Act.put, sA, sZ, sU, i64_w, i32_w]
             rfl
            refine yO 6 26 (bm 13 1919) HT_ (fun K hK => ?_)
            refine Kd.N_lit_step (Kd.slice 3 (Kd.int .i64)) _ 24 ?hg (N' := 26) ?hd (xs := ([l1] : List (List Int))) (inner := [.slice A1 l1.length c1]) (ok := (fun k_ => ((P0_ k_ ∨ P1_ k_) ∨ w.heap.size ≤ k_) ∧ some k_ ≠ (v307 : Value).ownBlock)) (okp := (fun k_ => ((P0_ k_ ∨ P1_ k_) ∨ w.heap.size ≤ k_) ∧ some k_ ≠ (v307 : Value).ownBlock)) ?hr ?hp (fun _ hk => hk) ((show ∀ k_, w38.heap.size ≤ k_ → (fun k_ => ((P0_ k_ ∨ P1_ k_) ∨ w.heap.size ≤ k_) ∧ some k_ ≠ (v307 : Value).ownBlock) k_ from fun k_ hk => ⟨(.inr (Nat.le_trans (below_size (xH HB.out)) hk)), Kd.fresh' (Kd.N_lt (xN HO308.out)) k_ hk⟩) _ (Nat.le_refl _)) (Below.refl _ _) (Nat.le_refl _) (by simp) ?_; (case hd => rfl); (case hg => rfl); (case hr => first | (go_simp; done) | (go_simp; rfl)); (case hp => exact (Reps.one (show Kd.FK (Kd.slice 3 (Kd.int .i64)) _ _ l1 [.slice A1 l1.length c1] from (Kd.FK_slice_mk (Kd.V_reads' (Kd.V_mono (ok' := (fun k_ => ((P0_ k_ ∨ P1_ k_) ∨ w.heap.size ≤ k_) ∧ some k_ ≠ (v307 : Value).ownBlock)) (HO_1.out) (fun k_ hk => ⟨hk.1, hk.2⟩))).2.1 (Kd.V_F (base := w.heap.size) (e := 3) (Kd.V_mono (e := 3) (base := w.heap.size) (ok' := (fun k_ => ((P0_ k_ ∨ P1_ k_) ∨ w.heap.size ≤ k_) ∧ some k_ ≠ (v307 : Value).ownBlock)) (HO_1.out) (fun k_ hk => ⟨hk.1, hk.2⟩))))) (Reps.none _ _)))
            intro v310 w39 ho40 hb hg_ hnew_
            clear hg_ hnew_
            (first | rw [← Ny309.out] at ho40 | (simp only [Int.reduceToNat] at ho40; rw [← Ny309.out] at ho40))
            have n0_ := aM (Kd.V_elder' (xV HO_0.out) (by first | exact Kd.N_base ho40 | exact Kd.S_base ho40 | exact Kd.R_base ho40) hb)
            have n1_ := aM (Kd.V_elder' (xV HO_1.out) (by first | exact Kd.N_base ho40 | exact Kd.S_base ho40 | exact Kd.R_base ho40) hb)
            have n2_ := aM (Kd.V_elder' (xV HO305.out) (by first | exact Kd.N_base ho40 | exact Kd.S_base ho40 | exact Kd.R_base ho40) hb)
            have n3_ := aM (Kd.V_elder' (xV HO319.out) (by first | exact Kd.N_base ho40 | exact Kd.S_base ho40 | exact Kd.R_base ho40) hb)
            have n4_ := aM (Kd.N_elder' (xN HO308.out) (by first | exact Kd.N_base ho40 | exact Kd.S_base ho40 | exact Kd.R_base ho40) hb)
            have n5_ := aM (Kd.N_lower ho40 (below_size (xH HB.out)))
            have n6_ := yS0 HB hb
            clear HO_0 HO_1 HO305 HO319 HO308 HB
            have HO_0 := n0_
            have HO_1 := n1_
            have HO305 := n2_
            have HO319 := n3_
            have HO308 := n4_
            have HO311 := n5_
            have HB := n6_
            clear n0_ n1_ n2_ n3_ n4_ n5_ n6_ hb ho40
            refine hK.out _ _ trivial (fun hHeld => ?_)
            clear hK K
            refine norm_ (a' := ?_) ?_ ?_
            rotate_left
            ·
             show Act.put _ (some 26) _ = _
             simp only [Act.put, sA, sZ, sU, i64_w, i32_w]
             rfl
            exact norm_ (by simp only [putAll, Act.put, sA, sZ, sU]) (hCont (v299, v307, v310) _ ⟨(by (with_reducible repeat (first | apply Kd.V_alloc | apply Kd.V_drewN | apply Kd.V_drew)); exact Kd.V_mono HO305.out (fun _ hk => ⟨hk.1.1, ⟨hk.1.2, hk.2⟩⟩)), (xN HO308.out), (xN HO311.out), (by (with_reducible repeat (first | apply Kd.V_alloc | apply Kd.V_drewN | apply Kd.V_drew)); exact Kd.V_mono HO319.out (fun _ hk => ⟨hk.1.1, ⟨hk.1.2, hk.2⟩⟩)), (by (with_reducible repeat (first | apply Kd.V_alloc | apply Kd.V_drewN | apply Kd.V_drew)); exact Kd.V_mono HO_0.out (fun _ hk => ⟨hk.1.1, ⟨hk.1.2, hk.2⟩⟩)), (by (with_reducible repeat (first | apply Kd.V_alloc | apply Kd.V_drewN | apply Kd.V_drew)); exact Kd.V_mono HO_1.out (fun _ hk => ⟨hk.1.1, ⟨hk.1.2, hk.2⟩⟩)), (xH HB.out)⟩)
           ·
            skip
            refine Kd.N_lit_step (Kd.slice 3 (Kd.int .i64)) _ 24 ?hg (N' := 26) ?hd (xs := ([l1] : List (List Int))) (inner := [.slice A1 l1.length c1]) (ok := (fun k_ => ((P0_ k_ ∨ P1_ k_) ∨ w.heap.size ≤ k_) ∧ some k_ ≠ (v299 : Value).ownBlock)) (okp := (fun k_ => ((P0_ k_ ∨ P1_ k_) ∨ w.heap.size ≤ k_) ∧ some k_ ≠ (v299 : Value).ownBlock)) ?hr ?hp (fun _ hk => hk) ((show ∀ k_, w36.heap.size ≤ k_ → (fun k_ => ((P0_ k_ ∨ P1_ k_) ∨ w.heap.size ≤ k_) ∧ some k_ ≠ (v299 : Value).ownBlock) k_ from fun k_ hk => ⟨(.inr (Nat.le_trans (below_size (xH HB.out)) hk)), Kd.fresh' (Kd.N_lt (xN HO300.out)) k_ hk⟩) _ (Nat.le_refl _)) (Below.refl _ _) (Nat.le_refl _) (by simp) ?_; (case hd => rfl); (case hg => rfl); (case hr => first | (go_simp; done) | (go_simp; rfl)); (case hp => exact (Reps.one (show Kd.FK (Kd.slice 3 (Kd.int .i64)) _ _ l1 [.slice A1 l1.length c1] from (Kd.FK_slice_mk (Kd.V_reads' (Kd.V_mono (ok' := (fun k_ => ((P0_ k_ ∨ P1_ k_) ∨ w.heap.size ≤ k_) ∧ some k_ ≠ (v299 : Value).ownBlock)) (HO_1.out) (fun k_ hk => ⟨hk.1, hk.2⟩))).2.1 (Kd.V_F (base := w.heap.size) (e := 3) (Kd.V_mono (e := 3) (base := w.heap.size) (ok' := (fun k_ => ((P0_ k_ ∨ P1_ k_) ∨ w.heap.size ≤ k_) ∧ some k_ ≠ (v299 : Value).ownBlock)) (HO_1.out) (fun k_ hk => ⟨hk.1, hk.2⟩))))) (Reps.none _ _)))
            intro v310 w38 ho39 hb hg_ hnew_
            clear hg_ hnew_
            (first | rw [← Ny309.out] at ho39 | (simp only [Int.reduceToNat] at ho39; rw [← Ny309.out] at ho39))
            have n0_ := aM (Kd.V_elder' (xV HO_0.out) (by first | exact Kd.N_base ho39 | exact Kd.S_base ho39 | exact Kd.R_base ho39) hb)
            have n1_ := aM (Kd.V_elder' (xV HO_1.out) (by first | exact Kd.N_base ho39 | exact Kd.S_base ho39 | exact Kd.R_base ho39) hb)
            have n2_ := aM (Kd.V_elder' (xV HO305.out) (by first | exact Kd.N_base ho39 | exact Kd.S_base ho39 | exact Kd.R_base ho39) hb)
            have n3_ := aM (Kd.V_elder' (xV HO319.out) (by first | exact Kd.N_base ho39 | exact Kd.S_base ho39 | exact Kd.R_base ho39) hb)
            have n4_ := aM (Kd.N_elder' (xN HO300.out) (by first | exact Kd.N_base ho39 | exact Kd.S_base ho39 | exact Kd.R_base ho39) hb)
            have n5_ := aM (Kd.N_lower ho39 (below_size (xH HB.out)))
            have n6_ := yS0 HB hb
            clear HO_0 HO_1 HO305 HO319 HO300 HB
            have HO_0 := n0_
            have HO_1 := n1_
            have HO305 := n2_
            have HO319 := n3_
            have HO300 := n4_
            have HO311 := n5_
            have HB := n6_
            clear n0_ n1_ n2_ n3_ n4_ n5_ n6_ hb ho39
            refine hK.out _ _ trivial (fun hHeld => ?_)
            clear hK K
            refine norm_ (a' := ?_) ?_ ?_
            rotate_left
            ·
             show Act.put _ (some 26) _ = _
             simp only [Act.put, sA, sZ, sU, i64_w, i32_w]
             rfl
            refine yO 4 24 (bm 13 1919) HT_ (fun K hK => ?_)
            refine Kd.N_append_rows_step (Kd.slice 3 (Kd.int .i64)) (w0 := w) w.heap.size (by rfl) (.tmp 20) (.tmp 23) 31 24 (.slice none 0 0) 24 rfl Tryd.underlying31 info24 rfl (by decide) (by omega) v299 y298 y301 _ _ _ (fun k_ => ((P0_ k_ ∨ P1_ k_) ∨ w.heap.size ≤ k_) ∧ some k_ ≠ (v310 : Value).ownBlock) (fun k_ => ((fun k_ => ((P0_ k_ ∨ P1_ k_) ∨ w.heap.size ≤ k_) ∧ some k_ ≠ (v310 : Value).ownBlock)) k_ ∧ some k_ ≠ (v299 : Value).ownBlock) rfl rfl ?aO ?aR (fun _ hk => hk) ?aF ?aB ?aS ?aL ?_
            (case aR => exact (by skip; exact Kd.V_F (base := w.heap.size) (e := 3) (Kd.V_mono (e := 3) (base := w.heap.size) (ok' := (fun k_ => ((fun k_ => ((P0_ k_ ∨ P1_ k_) ∨ w.heap.size ≤ k_) ∧ some k_ ≠ (v310 : Value).ownBlock)) k_ ∧ some k_ ≠ (v299 : Value).ownBlock)) (HO305.out) (fun k_ hk => ⟨⟨hk.1.1, hk.2⟩, hk.1.2⟩))))
            (case aB => exact (xH HB.out))
            (case aF => exact (fun k_ hk => ⟨(.inr (Nat.le_trans (below_size (xH HB.out)) hk)), Kd.fresh' (Kd.N_lt (xN HO311.out)) k_ hk⟩))
            (case aO => exact (xN HO300.out))
            (case aS => exact (below_size (xH HB.out)))
            (case aL => have := LMc28.out; omega)
            intro v307 w40 ho hb hg hat
            rw [← Ny306.out] at ho
            have n0_ := aM (Kd.V_afterv (ok := (fun k_ => ((P0_ k_ ∨ P1_ k_) ∨ w.heap.size ≤ k_) ∧ some k_ ≠ (v310 : Value).ownBlock)) (by (with_reducible repeat (first | apply Kd.V_alloc | apply Kd.V_drewN | apply Kd.V_drew)); exact Kd.V_mono HO_0.out (fun _ hk => ⟨⟨hk.1.1, hk.2⟩, hk.1.2⟩)) hg hat)
            have n1_ := aM (Kd.V_afterv (ok := (fun k_ => ((P0_ k_ ∨ P1_ k_) ∨ w.heap.size ≤ k_) ∧ some k_ ≠ (v310 : Value).ownBlock)) (by (with_reducible repeat (first | apply Kd.V_alloc | apply Kd.V_drewN | apply Kd.V_drew)); exact Kd.V_mono HO_1.out (fun _ hk => ⟨⟨hk.1.1, hk.2⟩, hk.1.2⟩)) hg hat)
            have n2_ := aM (Kd.V_afterv (ok := (fun k_ => ((P0_ k_ ∨ P1_ k_) ∨ w.heap.size ≤ k_) ∧ some k_ ≠ (v310 : Value).ownBlock)) (by (with_reducible repeat (first | apply Kd.V_alloc | apply Kd.V_drewN | apply Kd.V_drew)); exact Kd.V_mono HO305.out (fun _ hk => ⟨⟨hk.1.1, hk.2⟩, hk.1.2⟩)) hg hat)
            have n3_ := aM (Kd.V_afterv (ok := (fun k_ => ((P0_ k_ ∨ P1_ k_) ∨ w.heap.size ≤ k_) ∧ some k_ ≠ (v310 : Value).ownBlock)) (by (with_reducible repeat (first | apply Kd.V_alloc | apply Kd.V_drewN | apply Kd.V_drew)); exact Kd.V_mono HO319.out (fun _ hk => ⟨⟨hk.1.1, hk.2⟩, hk.1.2⟩)) hg hat)
            have n4_ := aM (Kd.N_afterv (ok := (fun k_ => ((P0_ k_ ∨ P1_ k_) ∨ w.heap.size ≤ k_))) (xN HO311.out) hg hat)
            have n5_ := aM (hb)
            have n6_ := aM (ho)
            clear HO_0 HO_1 HO305 HO319 HO311 HB HO300
            have HO_0 := n0_
            have HO_1 := n1_
            have HO305 := n2_
            have HO319 := n3_
            have HO311 := n4_
            have HB := n5_
            have HO308 := n6_
            clear n0_ n1_ n2_ n3_ n4_ n5_ n6_ ho hb hg hat
            refine hK.out _ _ trivial (fun hHeld => ?_)
            clear hK K
            refine norm_ (a' := ?_) ?_ ?_
            rotate_left
            ·
             show Act.put _ (some 24) _ = _
             simp only [Act.put, sA, sZ, sU, i64_w, i32_w]
             rfl
            exact norm_ (by simp only [putAll, Act.put, sA, sZ, sU]) (hCont (v299, v307, v310) _ ⟨(by (with_reducible repeat (first | apply Kd.V_alloc | apply Kd.V_drewN | apply Kd.V_drew)); exact Kd.V_mono HO305.out (fun _ hk => ⟨hk.1.1, ⟨hk.2, hk.1.2⟩⟩)), (xN HO308.out), (xN HO311.out), (by (with_reducible repeat (first | apply Kd.V_alloc | apply Kd.V_drewN | apply Kd.V_drew)); exact Kd.V_mono HO319.out (fun _ hk => ⟨hk.1.1, ⟨hk.2, hk.1.2⟩⟩)), (by (with_reducible repeat (first | apply Kd.V_alloc | apply Kd.V_drewN | apply Kd.V_drew)); exact Kd.V_mono HO_0.out (fun _ hk => ⟨hk.1.1, ⟨hk.2, hk.1.2⟩⟩)), (by (with_reducible repeat (first | apply Kd.V_alloc | apply Kd.V_drewN | apply Kd.V_drew)); exact Kd.V_mono HO_1.out (fun _ hk => ⟨hk.1.1, ⟨hk.2, hk.1.2⟩⟩)), (xH HB.out)⟩)
          ·
           skip
           refine Kd.N_lit_step (Kd.slice 3 (Kd.int .i64)) _ 24 ?hg (N' := 26) ?hd (xs := ([l1] : List (List Int))) (inner := [.slice A1 l1.length c1]) (ok := (fun k_ => ((P0_ k_ ∨ P1_ k_) ∨ w.heap.size ≤ k_))) (okp := (fun k_ => ((P0_ k_ ∨ P1_ k_) ∨ w.heap.size ≤ k_))) ?hr ?hp (fun _ hk => hk) ((show ∀ k_, w33.heap.size ≤ k_ → (fun k_ => ((P0_ k_ ∨ P1_ k_) ∨ w.heap.size ≤ k_)) k_ from fun k_ hk => (.inr (Nat.le_trans (below_size (xH HB.out)) hk))) _ (Nat.le_refl _)) (Below.refl _ _) (Nat.le_refl _) (by simp) ?_; (case hd => rfl); (case hg => rfl); (case hr => first | (go_simp; done) | (go_simp; rfl)); (case hp => exact (Reps.one (show Kd.FK (Kd.slice 3 (Kd.int .i64)) _ _ l1 [.slice A1 l1.length c1] from (Kd.FK_slice_mk (Kd.V_reads' (Kd.V_mono (ok' := (fun k_ => ((P0_ k_ ∨ P1_ k_) ∨ w.heap.size ≤ k_))) (HO_1.out) (fun k_ hk => hk))).2.1 (Kd.V_F (base := w.heap.size) (e := 3) (Kd.V_mono (e := 3) (base := w.heap.size) (ok' := (fun k_ => ((P0_ k_ ∨ P1_ k_) ∨ w.heap.size ≤ k_))) (HO_1.out) (fun k_ hk => hk))))) (Reps.none _ _)))
           intro v310 w36 ho37 hb hg_ hnew_
           clear hg_ hnew_
           (first | rw [← Ny309.out] at ho37 | (simp only [Int.reduceToNat] at ho37; rw [← Ny309.out] at ho37))
           have n0_ := aM (Kd.V_elder' (xV HO_0.out) (by first | exact Kd.N_base ho37 | exact Kd.S_base ho37 | exact Kd.R_base ho37) hb)
           have n1_ := aM (Kd.V_elder' (xV HO_1.out) (by first | exact Kd.N_base ho37 | exact Kd.S_base ho37 | exact Kd.R_base ho37) hb)
           have n2_ := aM (Kd.V_elder' (xV HO305.out) (by first | exact Kd.N_base ho37 | exact Kd.S_base ho37 | exact Kd.R_base ho37) hb)
           have n3_ := aM (Kd.V_elder' (xV HO319.out) (by first | exact Kd.N_base ho37 | exact Kd.S_base ho37 | exact Kd.R_base ho37) hb)
           have n4_ := aM (Kd.N_lower ho37 (below_size (xH HB.out)))
           have n5_ := yS0 HB hb
           clear HO_0 HO_1 HO305 HO319 HB
           have HO_0 := n0_
           have HO_1 := n1_
           have HO305 := n2_
           have HO319 := n3_
           have HO311 := n4_
           have HB := n5_
           clear n0_ n1_ n2_ n3_ n4_ n5_ hb ho37
           refine hK.out _ _ trivial (fun hHeld => ?_)
           clear hK K
           refine norm_ (a' := ?_) ?_ ?_
           rotate_left
           ·
            show Act.put _ (some 26) _ = _
            simp only [Act.put, sA, sZ, sU, i64_w, i32_w]
            rfl
           refine yO 0 20 (bm 13 1903) HT_ (fun K hK => ?_)
           refine Kd.N_lit_step (Kd.slice 3 (Kd.int .i64)) _ 24 ?hg (N' := 20) ?hd (xs := ([] : List (List Int))) (inner := []) (ok := (fun k_ => ((P0_ k_ ∨ P1_ k_) ∨ w.heap.size ≤ k_) ∧ some k_ ≠ (v310 : Value).ownBlock)) (okp := (fun k_ => ((P0_ k_ ∨ P1_ k_) ∨ w.heap.size ≤ k_) ∧ some k_ ≠ (v310 : Value).ownBlock)) ?hr ?hp (fun _ hk => hk) ((show ∀ k_, w36.heap.size ≤ k_ → (fun k_ => ((P0_ k_ ∨ P1_ k_) ∨ w.heap.size ≤ k_) ∧ some k_ ≠ (v310 : Value).ownBlock) k_ from fun k_ hk => ⟨(.inr (Nat.le_trans (below_size (xH HB.out)) hk)), Kd.fresh' (Kd.N_lt (xN HO311.out)) k_ hk⟩) _ (Nat.le_refl _)) (Below.refl _ _) (Nat.le_refl _) (by simp) ?_; (case hd => rfl); (case hg => rfl); (case hr => first | (go_simp; done) | (go_simp; rfl)); (case hp => exact (Reps.none _ _))
           intro v299 w38 ho39 hb hg_ hnew_
           clear hg_ hnew_
           (first | rw [← Ny298.out] at ho39 | (simp only [Int.reduceToNat] at ho39; rw [← Ny298.out] at ho39))
           have n0_ := aM (Kd.V_elder' (xV HO_0.out) (by first | exact Kd.N_base ho39 | exact Kd.S_base ho39 | exact Kd.R_base ho39) hb)
           have n1_ := aM (Kd.V_elder' (xV HO_1.out) (by first | exact Kd.N_base ho39 | exact Kd.S_base ho39 | exact Kd.R_base ho39) hb)
           have n2_ := aM (Kd.V_elder' (xV HO305.out) (by first | exact Kd.N_base ho39 | exact Kd.S_base ho39 | exact Kd.R_base ho39) hb)
           have n3_ := aM (Kd.V_elder' (xV HO319.out) (by first | exact Kd.N_base ho39 | exact Kd.S_base ho39 | exact Kd.R_base ho39) hb)
           have n4_ := aM (Kd.N_elder' (xN HO311.out) (by first | exact Kd.N_base ho39 | exact Kd.S_base ho39 | exact Kd.R_base ho39) hb)
           have n5_ := aM (Kd.N_lower ho39 (below_size (xH HB.out)))
           have n6_ := yS0 HB hb
           clear HO_0 HO_1 HO305 HO319 HO311 HB
           have HO_0 := n0_
           have HO_1 := n1_
           have HO305 := n2_
           have HO319 := n3_
           have HO311 := n4_
           have HO300 := n5_
           have HB := n6_
           clear n0_ n1_ n2_ n3_ n4_ n5_ n6_ hb ho39
           refine hK.out _ _ trivial (fun hHeld => ?_)
           clear hK K
           refine norm_ (a' := ?_) ?_ ?_
           rotate_left
           ·
            show Act.put _ (some 20) _ = _
            simp only [Act.put, sA, sZ, sU, i64_w, i32_w]
            rfl
           refine yO 4 24 (bm 13 1919) HT_ (fun K hK => ?_)
           refine Kd.N_append_rows_step (Kd.slice 3 (Kd.int .i64)) (w0 := w) w.heap.size (by rfl) (.tmp 20) (.tmp 23) 31 24 (.slice none 0 0) 24 rfl Tryd.underlying31 info24 rfl (by decide) (by omega) v299 y298 y301 _ _ _ (fun k_ => ((P0_ k_ ∨ P1_ k_) ∨ w.heap.size ≤ k_) ∧ some k_ ≠ (v310 : Value).ownBlock) (fun k_ => ((fun k_ => ((P0_ k_ ∨ P1_ k_) ∨ w.heap.size ≤ k_) ∧ some k_ ≠ (v310 : Value).ownBlock)) k_ ∧ some k_ ≠ (v299 : Value).ownBlock) rfl rfl ?aO ?aR (fun _ hk => hk) ?aF ?aB ?aS ?aL ?_
           (case aR => exact (by skip; exact Kd.V_F (base := w.heap.size) (e := 3) (Kd.V_mono (e := 3) (base := w.heap.size) (ok' := (fun k_ => ((fun k_ => ((P0_ k_ ∨ P1_ k_) ∨ w.heap.size ≤ k_) ∧ some k_ ≠ (v310 : Value).ownBlock)) k_ ∧ some k_ ≠ (v299 : Value).ownBlock)) (HO305.out) (fun k_ hk => ⟨⟨hk.1.1, hk.1.2⟩, hk.2⟩))))
           (case aB => exact (xH HB.out))
           (case aF => exact (fun k_ hk => ⟨(.inr (Nat.le_trans (below_size (xH HB.out)) hk)), Kd.fresh' (Kd.N_lt (xN HO311.out)) k_ hk⟩))
           (case aO => exact (xN HO300.out))
           (case aS => exact (below_size (xH HB.out)))
           (case aL => have := LMc28.out; omega)
           intro v307 w40 ho hb hg hat
           rw [← Ny306.out] at ho
           have n0_ := aM (Kd.V_afterv (ok := (fun k_ => ((P0_ k_ ∨ P1_ k_) ∨ w.heap.size ≤ k_) ∧ some k_ ≠ (v310 : Value).ownBlock)) (xV HO_0.out) hg hat)
           have n1_ := aM (Kd.V_afterv (ok := (fun k_ => ((P0_ k_ ∨ P1_ k_) ∨ w.heap.size ≤ k_) ∧ some k_ ≠ (v310 : Value).ownBlock)) (xV HO_1.out) hg hat)
           have n2_ := aM (Kd.V_afterv (ok := (fun k_ => ((P0_ k_ ∨ P1_ k_) ∨ w.heap.size ≤ k_) ∧ some k_ ≠ (v310 : Value).ownBlock)) (xV HO305.out) hg hat)
           have n3_ := aM (Kd.V_afterv (ok := (fun k_ => ((P0_ k_ ∨ P1_ k_) ∨ w.heap.size ≤ k_) ∧ some k_ ≠ (v310 : Value).ownBlock)) (xV HO319.out) hg hat)
           have n4_ := aM (Kd.N_afterv (ok := (fun k_ => ((P0_ k_ ∨ P1_ k_) ∨ w.heap.size ≤ k_))) (xN HO311.out) hg hat)
           have n5_ := aM (hb)
           have n6_ := aM (ho)
           clear HO_0 HO_1 HO305 HO319 HO311 HB HO300
           have HO_0 := n0_
           have HO_1 := n1_
           have HO305 := n2_
           have HO319 := n3_
           have HO311 := n4_
           have HB := n5_
           have HO308 := n6_
           clear n0_ n1_ n2_ n3_ n4_ n5_ n6_ ho hb hg hat
           refine hK.out _ _ trivial (fun hHeld => ?_)
           clear hK K
           refine norm_ (a' := ?_) ?_ ?_
           rotate_left
           ·
            show Act.put _ (some 24) _ = _
            simp only [Act.put, sA, sZ, sU, i64_w, i32_w]
            rfl
           exact norm_ (by simp only [putAll, Act.put, sA, sZ, sU]) (hCont (v299, v307, v310) _ ⟨(by (with_reducible repeat (first | apply Kd.V_alloc | apply Kd.V_drewN | apply Kd.V_drew)); exact Kd.V_mono HO305.out (fun _ hk => ⟨hk.1.1, ⟨hk.2, hk.1.2⟩⟩)), (xN HO308.out), (xN HO311.out), (by (with_reducible repeat (first | apply Kd.V_alloc | apply Kd.V_drewN | apply Kd.V_drew)); exact Kd.V_mono HO319.out (fun _ hk => ⟨hk.1.1, ⟨hk.2, hk.1.2⟩⟩)), (by (with_reducible repeat (first | apply Kd.V_alloc | apply Kd.V_drewN | apply Kd.V_drew)); exact Kd.V_mono HO_0.out (fun _ hk => ⟨hk.1.1, ⟨hk.2, hk.1.2⟩⟩)), (by (with_reducible repeat (first | apply Kd.V_alloc | apply Kd.V_drewN | apply Kd.V_drew)); exact Kd.V_mono HO_1.out (fun _ hk => ⟨hk.1.1, ⟨hk.2, hk.1.2⟩⟩)), (xH HB.out)⟩)
         rintro ⟨v299, v307, v310⟩ w41 ⟨h0_, h1_, h2_, h3_, h4_, h5_, h6_⟩
         have n0_ : Aside0 (Kd.V (Kd.slice 3 (Kd.int .i64)) 24 w41 w.heap.size (fun k_ => ((P0_ k_ ∨ P1_ k_) ∨ w.heap.size ≤ k_) ∧ some k_ ≠ (v307 : Value).ownBlock ∧ some k_ ≠ (v310 : Value).ownBlock) (.slice A0 y301.length c0) y301) := ⟨h0_⟩
         have n1_ : Aside0 (Kd.N (Kd.slice 3 (Kd.int .i64)) 24 w41 w.heap.size (fun k_ => ((P0_ k_ ∨ P1_ k_) ∨ w.heap.size ≤ k_) ∧ some k_ ≠ (v310 : Value).ownBlock) v307 y306) := ⟨h1_⟩
         have n2_ : Aside0 (Kd.N (Kd.slice 3 (Kd.int .i64)) 24 w41 w.heap.size (fun k_ => ((P0_ k_ ∨ P1_ k_) ∨ w.heap.size ≤ k_) ∧ some k_ ≠ (v307 : Value).ownBlock) v310 y309) := ⟨h2_⟩
         have n3_ : Aside0 (Kd.V (Kd.slice 3 (Kd.int .i64)) 24 w41 w.heap.size (fun k_ => ((P0_ k_ ∨ P1_ k_) ∨ w.heap.size ≤ k_) ∧ some k_ ≠ (v307 : Value).ownBlock ∧ some k_ ≠ (v310 : Value).ownBlock) (.slice A35 y315.length c35) y315) := ⟨h3_⟩
         have n4_ : Aside0 (Kd.V (Kd.slice 3 (Kd.int .i64)) 24 w41 w.heap.size (fun k_ => ((P0_ k_ ∨ P1_ k_) ∨ w.heap.size ≤ k_) ∧ some k_ ≠ (v307 : Value).ownBlock ∧ some k_ ≠ (v310 : Value).ownBlock) (.slice A0 l0.length c0) l0) := ⟨h4_⟩
         have n5_ : Aside0 (Kd.V (Kd.int .i64) 3 w41 w.heap.size (fun k_ => ((P0_ k_ ∨ P1_ k_) ∨ w.heap.size ≤ k_) ∧ some k_ ≠ (v307 : Value).ownBlock ∧ some k_ ≠ (v310 : Value).ownBlock) (.slice A1 l1.length c1) l1) := ⟨h5_⟩
         have n6_ : Aside0 (Below w.heap.size w w41) := ⟨h6_⟩
         clear HO_0 HO_1 HB h0_ h1_ h2_ h3_ h4_ h5_ h6_
         have HO305 := n0_
         have HO308 := n1_
         have HO311 := n2_
         have HO319 := n3_
         have HO_0 := n4_
         have HO_1 := n5_
         have HB := n6_
         clear n0_ n1_ n2_ n3_ n4_ n5_ n6_
         have hHeld := trivial
         obtain ⟨Ao43, co43, eo43⟩ := Kd.N_slice HO311.out
         (first | subst eo43 | (injection eo43 with f1_ f2_ f3_; have f4_ := f1_.symm; have f5_ := f3_.symm; clear f1_ f2_ f3_; subst f4_; subst f5_))
         refine norm_ (a' := ?_) ?_ ?_
         rotate_left
         ·
          simp only [putAll, Act.put, sA, sZ, sU]
          rfl
         refine yO 7 27 (bm 13 2047) HT_ (fun K hK => ?_)
         refine Kd.N_append_rows_step (Kd.slice 3 (Kd.int .i64)) (w0 := w) w.heap.size (by rfl) (.tmp 24) (.tmp 26) 31 24 (.slice none 0 0) 24 rfl Tryd.underlying31 info24 rfl (by decide) (by omega) v307 y306 y309 _ _ _ (fun k_ => ((P0_ k_ ∨ P1_ k_) ∨ w.heap.size ≤ k_)) (fun k_ => ((fun k_ => ((P0_ k_ ∨ P1_ k_) ∨ w.heap.size ≤ k_))) k_ ∧ some k_ ≠ (v307 : Value).ownBlock) rfl rfl ?aO ?aR (fun _ hk => hk) ?aF ?aB ?aS ?aL ?_
         (case aR => exact (by skip; exact Kd.N_F (Kd.N_mono (ok' := (fun k_ => ((fun k_ => ((P0_ k_ ∨ P1_ k_) ∨ w.heap.size ≤ k_))) k_ ∧ some k_ ≠ (v307 : Value).ownBlock)) (HO311.out) (fun k_ hk => ⟨hk.1, hk.2⟩))))
         (case aB => exact (xH HB.out))
         (case aF => exact (fun k_ hk => (.inr (Nat.le_trans (below_size (xH HB.out)) hk))))
         (case aO => exact (zN (Kd.N_mono HO308.out (fun _ hk => hk.1))))
         (case aS => exact (below_size (xH HB.out)))
         (case aL => have := LMc29.out; omega)
         intro v313 w42 ho hb hg hat
         rw [← Ny312.out] at ho
         have n0_ := aM (Kd.V_afterv (ok := (fun k_ => ((P0_ k_ ∨ P1_ k_) ∨ w.heap.size ≤ k_) ∧ some k_ ≠ (.slice Ao43 y309.length co43 : Value).ownBlock)) (by (with_reducible repeat (first | apply Kd.V_alloc | apply Kd.V_drewN | apply Kd.V_drew)); exact Kd.V_mono HO_0.out (fun _ hk => ⟨⟨hk.1, hk.2.2⟩, hk.2.1⟩)) hg hat)
         have n1_ := aM (Kd.V_afterv (ok := (fun k_ => ((P0_ k_ ∨ P1_ k_) ∨ w.heap.size ≤ k_) ∧ some k_ ≠ (.slice Ao43 y309.length co43 : Value).ownBlock)) (by (with_reducible repeat (first | apply Kd.V_alloc | apply Kd.V_drewN | apply Kd.V_drew)); exact Kd.V_mono HO_1.out (fun _ hk => ⟨⟨hk.1, hk.2.2⟩, hk.2.1⟩)) hg hat)
         have n2_ := aM (Kd.V_afterv (ok := (fun k_ => ((P0_ k_ ∨ P1_ k_) ∨ w.heap.size ≤ k_) ∧ some k_ ≠ (.slice Ao43 y309.length co43 : Value).ownBlock)) (by (with_reducible repeat (first | apply Kd.V_alloc | apply Kd.V_drewN | apply Kd.V_drew)); exact Kd.V_mono HO305.out (fun _ hk => ⟨⟨hk.1, hk.2.2⟩, hk.2.1⟩)) hg hat)
         have n3_ := aM (Kd.V_afterv (ok := (fun k_ => ((P0_ k_ ∨ P1_ k_) ∨ w.heap.size ≤ k_) ∧ some k_ ≠ (.slice Ao43 y309.length co43 : Value).ownBlock)) (by (with_reducible repeat (first | apply Kd.V_alloc | apply Kd.V_drewN | apply Kd.V_drew)); exact Kd.V_mono HO319.out (fun _ hk => ⟨⟨hk.1, hk.2.2⟩, hk.2.1⟩)) hg hat)
         have n4_ := aM (Kd.N_afterv (ok := (fun k_ => ((P0_ k_ ∨ P1_ k_) ∨ w.heap.size ≤ k_))) (xN HO311.out) hg hat)
         have n5_ := aM (hb)
         have n6_ := aM (ho)
         clear HO_0 HO_1 HO305 HO319 HO311 HB HO308
         have HO_0 := n0_
         have HO_1 := n1_
         have HO305 := n2_
         have HO319 := n3_
         have HO311 := n4_
         have HB := n5_
         have HO314 := n6_
         clear n0_ n1_ n2_ n3_ n4_ n5_ n6_ ho hb hg hat
         refine hK.out _ _ trivial (fun hHeld => ?_)
         clear hK K
         refine norm_ (a' := ?_) ?_ ?_
         rotate_left
         ·
          show Act.put _ (some 27) _ = _
          simp only [Act.put, sA, sZ, sU, i64_w, i32_w]
          rfl
         refine yO 11 31 (bm 13 4095) HT_ (fun K hK => ?_)
         refine Kd.N_append_rows_step (Kd.slice 3 (Kd.int .i64)) (w0 := w) w.heap.size (by rfl) (.tmp 27) (.tmp 30) 31 24 (.slice none 0 0) 24 rfl Tryd.underlying31 info24 rfl (by decide) (by omega) v313 y312 y315 _ _ _ (fun k_ => ((P0_ k_ ∨ P1_ k_) ∨ w.heap.size ≤ k_)) (fun k_ => ((fun k_ => ((P0_ k_ ∨ P1_ k_) ∨ w.heap.size ≤ k_))) k_ ∧ some k_ ≠ (v313 : Value).ownBlock) rfl rfl ?aO ?aR (fun _ hk => hk) ?aF ?aB ?aS ?aL ?_
         (case aR => exact (by skip; exact Kd.V_F (base := w.heap.size) (e := 3) (Kd.V_mono (e := 3) (base := w.heap.size) (ok' := (fun k_ => ((fun k_ => ((P0_ k_ ∨ P1_ k_) ∨ w.heap.size ≤ k_))) k_ ∧ some k_ ≠ (v313 : Value).ownBlock)) (HO319.out) (fun k_ hk => ⟨hk.1.1, hk.2⟩))))
         (case aB => exact (xH HB.out))
         (case aF => exact (fun k_ hk => (.inr (Nat.le_trans (below_size (xH HB.out)) hk))))
         (case aO => exact (xN HO314.out))
         (case aS => exact (below_size (xH HB.out)))
         (case aL => have := LMc32.out; omega)
         intro v321 w44 ho hb hg hat
         rw [← Ny320.out] at ho
         have n0_ := aM (Kd.V_afterv (ok := (fun k_ => ((P0_ k_ ∨ P1_ k_) ∨ w.heap.size ≤ k_) ∧ some k_ ≠ (.slice Ao43 y309.length co43 : Value).ownBlock)) (xV HO_0.out) hg hat)
         have n1_ := aM (Kd.V_afterv (ok := (fun k_ => ((P0_ k_ ∨ P1_ k_) ∨ w.heap.size ≤ k_) ∧ some k_ ≠ (.slice Ao43 y309.length co43 : Value).ownBlock)) (xV HO_1.out) hg hat)
         have n2_ := aM (Kd.V_afterv (ok := (fun k_ => ((P0_ k_ ∨ P1_ k_) ∨ w.heap.size ≤ k_) ∧ some k_ ≠ (.slice Ao43 y309.length co43 : Value).ownBlock)) (xV HO305.out) hg hat)
         have n3_ := aM (Kd.V_afterv (ok := (fun k_ => ((P0_ k_ ∨ P1_ k_) ∨ w.heap.size ≤ k_) ∧ some k_ ≠ (.slice Ao43 y309.length co43 : Value).ownBlock)) (xV HO319.out) hg hat)
         have n4_ := aM (Kd.N_afterv (ok := (fun k_ => ((P0_ k_ ∨ P1_ k_) ∨ w.heap.size ≤ k_))) (xN HO311.out) hg hat)
         have n5_ := aM (hb)
         have n6_ := aM (ho)
         clear HO_0 HO_1 HO305 HO319 HO311 HB HO314
         have HO_0 := n0_
         have HO_1 := n1_
         have HO305 := n2_
         have HO319 := n3_
         have HO311 := n4_
         have HB := n5_
         have HO322 := n6_
         clear n0_ n1_ n2_ n3_ n4_ n5_ n6_ ho hb hg hat
         refine hK.out _ _ trivial (fun hHeld => ?_)
         clear hK K
         refine norm_ (a' := ?_) ?_ ?_
         rotate_left
         ·
          show Act.put _ (some 31) _ = _
          simp only [Act.put, sA, sZ, sU, i64_w, i32_w]
          rfl
         refine yP 12 4 (bm 13 8191) HT_ ?_
         refine done_ (done_of HT_.out (by kernel_rfl)) ?_
         try go_wp2
         go_ret
         exact ⟨_, yF, xN HO322.out, by repeat (first | (with_reducible first | exact HB.out | apply eA | apply eN | apply eD) | exact HB.out)⟩
        ·
         rw [if_neg c32] at H
         exact absurd H (by simp)
       ·
        rw [if_neg c29] at H
        exact absurd H (by simp)
      ·
       rw [if_neg c28] at H
       exact absurd H (by simp)
     ·
      rw [if_neg c27] at H
      exact absurd H (by simp)
    ·
     rw [if_neg c26] at H
     exact absurd H (by simp)
end Go.Proofs.YtkgekmpnbhomgaaDoor.PFnVotes
