-- Laid for this claim by a program of the session's own (wip/tool/myprint.py).
import Derived.Test.YtkgekmpnbhomgaaDoorMFnVotesx0
import Derived.Test.YtkgekmpnbhomgaaDoorMFnVotesx4
namespace Go.Proofs.YtkgekmpnbhomgaaDoor.PFnVotes
open Go.RowKit Go.Proofs.YtkgekmpnbhomgaaDoorW.PrintWords Go.Proofs.YtkgekmpnbhomgaaDoorW.PrintLast Go.Proofs.YtkgekmpnbhomgaaDoorW.PrintMore
attribute [local go_sem] max2_int min2_int max_two min_two max_three min_three max_four min_four
set_option linter.unusedVariables false
set_option maxHeartbeats 8000000
set_option maxRecDepth 100000
set_option linter.unusedSimpArgs false
def spec_l1Rising.l0 : Nat → List Int → Int → Int → Int → Option (Bool)
 | 0, _, _, _, _ => none
 | k + 1, x0, x1, x2, x7 => if x7 < (x0.length : Int) then (if 0 ≤ x7 then ((spec_l1In.f (rd x0 x7) x1 x2).bind fun t237 => (if t237 = true then (if x7 > 0 then (if 0 ≤ (wrap64 (x7 - 1)) then (if (wrap64 (x7 - 1)) < (x0.length : Int) then (if (rd x0 (wrap64 (x7 - 1))) ≥ (rd x0 x7) then (some false) else (spec_l1Rising.l0 k x0 x1 x2 (wrap64 (x7 + 1)))) else (none)) else (none)) else (spec_l1Rising.l0 k x0 x1 x2 (wrap64 (x7 + 1)))) else (some false))) else (none)) else (some true)
def spec_l1Rising.f (k : Nat) (l0 : List Int) (a1 : Int) (a2 : Int) : Option (Bool) := spec_l1Rising.l0 k l0 a1 a2 0
theorem spec_l1Rising.calls (k : Nat) (A0 : Option Addr) (c0 : Nat) (l0 : List Int) (a1 : Int) (a2 : Int) (r : Bool) (w : World) (hr0 : Kd.C (Kd.int .i64) w A0 l0.length l0) (hc0 : l0.length ≤ c0) (h : spec_l1Rising.f k l0 a1 a2 = some r) :
  Calls Tryd.prog 53 #[.slice A0 l0.length c0, .int .i64 a1, .int .i64 a2] w fun e w' => e = .returned (.bool r) ∧ Drawn0 w w' := by
 have HR0 := aM hr0
 have HC0 := aM hc0
 clear hr0 hc0
 have H : (spec_l1Rising.l0 k l0 a1 a2 0) = some r := h
 clear h
 have H' := aM H
 clear H
 go_enter Tryd.func53, Tryd.ntmps53
 go_wp2
 repeat (go_quiet (fail); try go_wp2)
 go_loopg [7] k (fun kq v7 w' => ∃ (x7_1 : Int), v7 = .int .i64 x7_1 ∧ Aside0 (spec_l1Rising.l0 kq l0 a1 a2 x7_1 = some r) ∧ Aside0 (kq ≤ k) ∧ Drawn0 w w')
 case atStart => exact ⟨(0), yZ, H', ⟨Nat.le_refl _⟩, by repeat (first | exact Drawn0.refl _ | apply Drawn0.step)⟩
 case round =>
  clear H'
  try clear p2
  obtain ⟨x7_1, rfl, HA, HK1, ⟨m1, rfl⟩⟩ := hrel
  cases gk with
  | zero => exact absurd HA.out (by simp [spec_l1Rising.l0])
  | succ k1 =>
   have H := HA.out
   clear HA
   simp only [spec_l1Rising.l0] at H
   by_cases c4 : x7_1 < (l0.length : Int)
   ·
    rw [if_pos c4] at H
    have c4b0 := decide_eq_true c4
    clear c4
    by_cases c5 : 0 ≤ x7_1
    ·
     rw [if_pos c5] at H
     have c5b0 := decide_eq_true c5
     clear c5
     replace H := oB.mp H
     obtain ⟨t237, A60, H⟩ := H
     replace H : (if t237 = true then (if x7_1 > 0 then (if 0 ≤ (wrap64 (x7_1 - 1)) then (if (wrap64 (x7_1 - 1)) < (l0.length : Int) then (if (rd l0 (wrap64 (x7_1 - 1))) ≥ (rd l0 x7_1) then (some false) else (spec_l1Rising.l0 k1 l0 a1 a2 (wrap64 (x7_1 + 1)))) else (none)) else (none)) else (spec_l1Rising.l0 k1 l0 a1 a2 (wrap64 (x7_1 + 1)))) else (some false)) = some r := H
     have A6 := aM A60
     clear A60
     by_cases c7 : t237 = true
     ·
      subst c7
      have H1 : (if x7_1 > 0 then (if 0 ≤ (wrap64 (x7_1 - 1)) then (if (wrap64 (x7_1 - 1)) < (l0.length : Int) then (if (rd l0 (wrap64 (x7_1 - 1))) ≥ (rd l0 x7_1) then (some false) else (spec_l1Rising.l0 k1 l0 a1 a2 (wrap64 (x7_1 + 1)))) else (none)) else (none)) else (spec_l1Rising.l0 k1 l0 a1 a2 (wrap64 (x7_1 + 1)))) = some r := by rw [if_pos rfl] at H; exact H
      clear H
      have H := H1
      clear H1
      by_cases c8 : x7_1 > 0
      ·
       rw [if_pos c8] at H
       have c8b0 : decide (0 < x7_1) = true := decide_eq_true c8
       clear c8
       obtain ⟨ji9, hji9⟩ := yJ ((wrap64 (x7_1 - 1)))
       replace H : (if 0 ≤ (ji9) then (if (ji9) < (l0.length : Int) then (if (rd l0 (ji9)) ≥ (rd l0 x7_1) then (some false) else (spec_l1Rising.l0 k1 l0 a1 a2 (wrap64 (x7_1 + 1)))) else (none)) else (none)) = some r := by first | (rw [hji9] at H; exact H) | (simp only [hji9] at H ⊢; exact H)
       (try rw [hji9] at A6)
       have hji9w : (IntKind.i64.wrap (x7_1 - 1)) = ji9 := (i64_w _).trans hji9
       by_cases c10 : 0 ≤ (ji9)
       ·
        rw [if_pos c10] at H
        have c10b0 := decide_eq_true c10
        clear c10
        by_cases c11 : (ji9) < (l0.length : Int)
        ·
         rw [if_pos c11] at H
         have c11b0 := decide_eq_true c11
         clear c11
         by_cases c12 : (rd l0 (ji9)) ≥ (rd l0 x7_1)
         ·
          rw [if_pos c12] at H
          have c12b0 : decide ((rd l0 x7_1) ≤ (rd l0 (ji9))) = true := decide_eq_true c12
          clear c12
          obtain rfl := Option.some.inj H
          have p236 : 0 ≤ (x7_1 : Int) := yA
          have q236 : x7_1 < (l0.length : Int) := yA
          obtain ⟨ad236, e236, hx236_0⟩ := Kd.at_int HR0.out x7_1 p236 q236
          cases e236
          replace p236 := eq_true p236
          replace q236 := eq_true q236
          go_wp2_with (first | (go_at_call 57; (with_reducible refine (spec_l1In.calls (rd l0 x7_1) a1 a2 true _ A6.out).mono ?_); rintro e w' ⟨rfl, ⟨nd, rfl⟩⟩; (try first | exact ⟨rfl, _, World.drewN_drewN _ _ _⟩ | exact ⟨rfl, _, Eq.trans (World.drewN_drewN _ _ _) (congrArg (World.drewN _) (Nat.add_assoc _ _ _))⟩); have p238 : 0 ≤ ((ji9) : Int) := yA; have q238 : (ji9) < (l0.length : Int) := yA; obtain ⟨ad238, e238, hx238_0⟩ := Kd.at_int HR0.out (ji9) p238 q238; obtain rfl : ad236 = ad238 := (by injection e238); replace p238 := eq_true p238; replace q238 := eq_true q238; have p239 : 0 ≤ (x7_1 : Int) := yA; have q239 : x7_1 < (l0.length : Int) := yA; obtain ⟨ad239, e239, hx239_0⟩ := Kd.at_int HR0.out x7_1 p239 q239; obtain rfl : ad236 = ad239 := (by injection e239); replace p239 := eq_true p239; replace q239 := eq_true q239))
          repeat (go_quiet (first | (go_at_call 57; (with_reducible refine (spec_l1In.calls (rd l0 x7_1) a1 a2 true _ A6.out).mono ?_); rintro e w' ⟨rfl, ⟨nd, rfl⟩⟩; (try first | exact ⟨rfl, _, World.drewN_drewN _ _ _⟩ | exact ⟨rfl, _, Eq.trans (World.drewN_drewN _ _ _) (congrArg (World.drewN _) (Nat.add_assoc _ _ _))⟩); have p238 : 0 ≤ ((ji9) : Int) := yA; have q238 : (ji9) < (l0.length : Int) := yA; obtain ⟨ad238, e238, hx238_0⟩ := Kd.at_int HR0.out (ji9) p238 q238; obtain rfl : ad236 = ad238 := (by injection e238); replace p238 := eq_true p238; replace q238 := eq_true q238; have p239 : 0 ≤ (x7_1 : Int) := yA; have q239 : x7_1 < (l0.length : Int) := yA; obtain ⟨ad239, e239, hx239_0⟩ := Kd.at_int HR0.out x7_1 p239 q239; obtain rfl : ad236 = ad239 := (by injection e239); replace p239 := eq_true p239; replace q239 := eq_true q239)); try go_wp2_with (first | (go_at_call 57; (with_reducible refine (spec_l1In.calls (rd l0 x7_1) a1 a2 true _ A6.out).mono ?_); rintro e w' ⟨rfl, ⟨nd, rfl⟩⟩; (try first | exact ⟨rfl, _, World.drewN_drewN _ _ _⟩ | exact ⟨rfl, _, Eq.trans (World.drewN_drewN _ _ _) (congrArg (World.drewN _) (Nat.add_assoc _ _ _))⟩); have p238 : 0 ≤ ((ji9) : Int) := yA; have q238 : (ji9) < (l0.length : Int) := yA; obtain ⟨ad238, e238, hx238_0⟩ := Kd.at_int HR0.out (ji9) p238 q238; obtain rfl : ad236 = ad238 := (by injection e238); replace p238 := eq_true p238; replace q238 := eq_true q238; have p239 : 0 ≤ (x7_1 : Int) := yA; have q239 : x7_1 < (l0.length : Int) := yA; obtain ⟨ad239, e239, hx239_0⟩ := Kd.at_int HR0.out x7_1 p239 q239; obtain rfl : ad236 = ad239 := (by injection e239); replace p239 := eq_true p239; replace q239 := eq_true q239)))
          go_ret
          exact ⟨by first | rfl | (simp; done) | (simp only [← hji9] <;> (first | rfl | simp)) | (simp [*]; done), by repeat (first | exact Drawn0.refl _ | apply Drawn0.step)⟩
         ·
          rw [if_neg c12] at H
          have c12b0 : decide ((rd l0 x7_1) ≤ (rd l0 (ji9))) = false := decide_eq_false c12
          clear c12
          have H' := aM H
          clear H
          have p236 : 0 ≤ (x7_1 : Int) := yA
          have q236 : x7_1 < (l0.length : Int) := yA
          obtain ⟨ad236, e236, hx236_0⟩ := Kd.at_int HR0.out x7_1 p236 q236
          cases e236
          replace p236 := eq_true p236
          replace q236 := eq_true q236
          go_wp2_with (first | (go_at_call 57; (with_reducible refine (spec_l1In.calls (rd l0 x7_1) a1 a2 true _ A6.out).mono ?_); rintro e w' ⟨rfl, ⟨nd, rfl⟩⟩; (try first | exact ⟨rfl, _, World.drewN_drewN _ _ _⟩ | exact ⟨rfl, _, Eq.trans (World.drewN_drewN _ _ _) (congrArg (World.drewN _) (Nat.add_assoc _ _ _))⟩); have p238 : 0 ≤ ((ji9) : Int) := yA; have q238 : (ji9) < (l0.length : Int) := yA; obtain ⟨ad238, e238, hx238_0⟩ := Kd.at_int HR0.out (ji9) p238 q238; obtain rfl : ad236 = ad238 := (by injection e238); replace p238 := eq_true p238; replace q238 := eq_true q238; have p239 : 0 ≤ (x7_1 : Int) := yA; have q239 : x7_1 < (l0.length : Int) := yA; obtain ⟨ad239, e239, hx239_0⟩ := Kd.at_int HR0.out x7_1 p239 q239; obtain rfl : ad236 = ad239 := (by injection e239); replace p239 := eq_true p239; replace q239 := eq_true q239))
          repeat (go_quiet (first | (go_at_call 57; (with_reducible refine (spec_l1In.calls (rd l0 x7_1) a1 a2 true _ A6.out).mono ?_); rintro e w' ⟨rfl, ⟨nd, rfl⟩⟩; (try first | exact ⟨rfl, _, World.drewN_drewN _ _ _⟩ | exact ⟨rfl, _, Eq.trans (World.drewN_drewN _ _ _) (congrArg (World.drewN _) (Nat.add_assoc _ _ _))⟩); have p238 : 0 ≤ ((ji9) : Int) := yA; have q238 : (ji9) < (l0.length : Int) := yA; obtain ⟨ad238, e238, hx238_0⟩ := Kd.at_int HR0.out (ji9) p238 q238; obtain rfl : ad236 = ad238 := (by injection e238); replace p238 := eq_true p238; replace q238 := eq_true q238; have p239 : 0 ≤ (x7_1 : Int) := yA; have q239 : x7_1 < (l0.length : Int) := yA; obtain ⟨ad239, e239, hx239_0⟩ := Kd.at_int HR0.out x7_1 p239 q239; obtain rfl : ad236 = ad239 := (by injection e239); replace p239 := eq_true p239; replace q239 := eq_true q239)); try go_wp2_with (first | (go_at_call 57; (with_reducible refine (spec_l1In.calls (rd l0 x7_1) a1 a2 true _ A6.out).mono ?_); rintro e w' ⟨rfl, ⟨nd, rfl⟩⟩; (try first | exact ⟨rfl, _, World.drewN_drewN _ _ _⟩ | exact ⟨rfl, _, Eq.trans (World.drewN_drewN _ _ _) (congrArg (World.drewN _) (Nat.add_assoc _ _ _))⟩); have p238 : 0 ≤ ((ji9) : Int) := yA; have q238 : (ji9) < (l0.length : Int) := yA; obtain ⟨ad238, e238, hx238_0⟩ := Kd.at_int HR0.out (ji9) p238 q238; obtain rfl : ad236 = ad238 := (by injection e238); replace p238 := eq_true p238; replace q238 := eq_true q238; have p239 : 0 ≤ (x7_1 : Int) := yA; have q239 : x7_1 < (l0.length : Int) := yA; obtain ⟨ad239, e239, hx239_0⟩ := Kd.at_int HR0.out x7_1 p239 q239; obtain rfl : ad236 = ad239 := (by injection e239); replace p239 := eq_true p239; replace q239 := eq_true q239)))
          go_roundg k1
          case measure => have := HK1.out; omega
          case rel => exact ⟨(wrap64 (x7_1 + 1)), yZ, H', ⟨by have := HK1.out; omega⟩, by repeat (first | exact Drawn0.refl _ | apply Drawn0.step)⟩
        ·
         rw [if_neg c11] at H
         exact absurd H (by simp)
       ·
        rw [if_neg c10] at H
        exact absurd H (by simp)
      ·
       rw [if_neg c8] at H
       have c8b0 : decide (0 < x7_1) = false := decide_eq_false c8
       clear c8
       have H' := aM H
       clear H
       have p236 : 0 ≤ (x7_1 : Int) := yA
       have q236 : x7_1 < (l0.length : Int) := yA
       obtain ⟨ad236, e236, hx236_0⟩ := Kd.at_int HR0.out x7_1 p236 q236
       cases e236
       replace p236 := eq_true p236
       replace q236 := eq_true q236
       go_wp2_with (first | (go_at_call 57; (with_reducible refine (spec_l1In.calls (rd l0 x7_1) a1 a2 true _ A6.out).mono ?_); rintro e w' ⟨rfl, ⟨nd, rfl⟩⟩; (try first | exact ⟨rfl, _, World.drewN_drewN _ _ _⟩ | exact ⟨rfl, _, Eq.trans (World.drewN_drewN _ _ _) (congrArg (World.drewN _) (Nat.add_assoc _ _ _))⟩)))
       repeat (go_quiet (first | (go_at_call 57; (with_reducible refine (spec_l1In.calls (rd l0 x7_1) a1 a2 true _ A6.out).mono ?_); rintro e w' ⟨rfl, ⟨nd, rfl⟩⟩; (try first | exact ⟨rfl, _, World.drewN_drewN _ _ _⟩ | exact ⟨rfl, _, Eq.trans (World.drewN_drewN _ _ _) (congrArg (World.drewN _) (Nat.add_assoc _ _ _))⟩))); try go_wp2_with (first | (go_at_call 57; (with_reducible refine (spec_l1In.calls (rd l0 x7_1) a1 a2 true _ A6.out).mono ?_); rintro e w' ⟨rfl, ⟨nd, rfl⟩⟩; (try first | exact ⟨rfl, _, World.drewN_drewN _ _ _⟩ | exact ⟨rfl, _, Eq.trans (World.drewN_drewN _ _ _) (congrArg (World.drewN _) (Nat.add_assoc _ _ _))⟩))))
       go_roundg k1
       case measure => have := HK1.out; omega
       case rel => exact ⟨(wrap64 (x7_1 + 1)), yZ, H', ⟨by have := HK1.out; omega⟩, by repeat (first | exact Drawn0.refl _ | apply Drawn0.step)⟩
     ·
      replace c7 := Bool.eq_false_iff.mpr c7
      subst c7
      have H1 : (some false) = some r := by rw [if_neg (show ¬ (false = true) by decide)] at H; exact H
      clear H
      have H := H1
      clear H1
      obtain rfl := Option.some.inj H
      have p236 : 0 ≤ (x7_1 : Int) := yA
      have q236 : x7_1 < (l0.length : Int) := yA
      obtain ⟨ad236, e236, hx236_0⟩ := Kd.at_int HR0.out x7_1 p236 q236
      cases e236
      replace p236 := eq_true p236
      replace q236 := eq_true q236
      go_wp2_with (first | (go_at_call 57; (with_reducible refine (spec_l1In.calls (rd l0 x7_1) a1 a2 false _ A6.out).mono ?_); rintro e w' ⟨rfl, ⟨nd, rfl⟩⟩; (try first | exact ⟨rfl, _, World.drewN_drewN _ _ _⟩ | exact ⟨rfl, _, Eq.trans (World.drewN_drewN _ _ _) (congrArg (World.drewN _) (Nat.add_assoc _ _ _))⟩)))
      repeat (go_quiet (first | (go_at_call 57; (with_reducible refine (spec_l1In.calls (rd l0 x7_1) a1 a2 false _ A6.out).mono ?_); rintro e w' ⟨rfl, ⟨nd, rfl⟩⟩; (try first | exact ⟨rfl, _, World.drewN_drewN _ _ _⟩ | exact ⟨rfl, _, Eq.trans (World.drewN_drewN _ _ _) (congrArg (World.drewN _) (Nat.add_assoc _ _ _))⟩))); try go_wp2_with (first | (go_at_call 57; (with_reducible refine (spec_l1In.calls (rd l0 x7_1) a1 a2 false _ A6.out).mono ?_); rintro e w' ⟨rfl, ⟨nd, rfl⟩⟩; (try first | exact ⟨rfl, _, World.drewN_drewN _ _ _⟩ | exact ⟨rfl, _, Eq.trans (World.drewN_drewN _ _ _) (congrArg (World.drewN _) (Nat.add_assoc _ _ _))⟩))))
      go_ret
      exact ⟨by first | rfl | (simp; done) | (simp [*]; done), by repeat (first | exact Drawn0.refl _ | apply Drawn0.step)⟩
    ·
     rw [if_neg c5] at H
     exact absurd H (by simp)
   ·
    rw [if_neg c4] at H
    have c4b0 := decide_eq_false c4
    clear c4
    obtain rfl := Option.some.inj H
    go_wp2
    repeat (go_quiet (fail); try go_wp2)
    go_ret
    exact ⟨by first | rfl | (simp; done) | (simp [*]; done), by repeat (first | exact Drawn0.refl _ | apply Drawn0.step)⟩
def spec_l6Set.f (k : Nat) (l0_0 : List Int) (a0_1 : Int) (l1 : List Int) : Option (Bool) := (spec_l6Vote.f k l0_0 a0_1).bind fun t241 => (if t241 = true then ((spec_l1Rising.f k l1 0 (wrap64 ((l0_0.length : Int) - 1))).bind fun t242 => (some t242)) else (some false))
theorem spec_l6Set.calls (k : Nat) (A0_0 : Option Addr) (c0_0 : Nat) (l0_0 : List Int) (a0_1 : Int) (A1 : Option Addr) (c1 : Nat) (l1 : List Int) (r : Bool) (w : World) (hr0_0 : Kd.C (Kd.int .i64) w A0_0 l0_0.length l0_0) (hc0_0 : l0_0.length ≤ c0_0) (hr1 : Kd.C (Kd.int .i64) w A1 l1.length l1) (hc1 : l1.length ≤ c1) (h : spec_l6Set.f k l0_0 a0_1 l1 = some r) :
  Calls Tryd.prog 33 #[.agg #[.slice A0_0 l0_0.length c0_0, .int .i64 a0_1], .slice A1 l1.length c1] w fun e w' => e = .returned (.bool r) ∧ Below w.heap.size w w' := by
 have hu26 := Tryd.underlying26
 have HR0_0 := aM hr0_0
 have HC0_0 := aM hc0_0
 clear hr0_0 hc0_0
 have HR1 := aM hr1
 have HC1 := aM hc1
 clear hr1 hc1
 have HB := aM (Below.refl w.heap.size w)
 have H : ((spec_l6Vote.f k l0_0 a0_1).bind fun t241 => (if t241 = true then ((spec_l1Rising.f k l1 0 (wrap64 ((l0_0.length : Int) - 1))).bind fun t242 => (some t242)) else (some false))) = some r := h
 clear h
 replace H := oB.mp H
 obtain ⟨t241, A30, H⟩ := H
 replace H : (if t241 = true then ((spec_l1Rising.f k l1 0 (wrap64 ((l0_0.length : Int) - 1))).bind fun t242 => (some t242)) else (some false)) = some r := H
 have A3 := aM A30
 clear A30
 by_cases c4 : t241 = true
 ·
  subst c4
  have H1 : ((spec_l1Rising.f k l1 0 (wrap64 ((l0_0.length : Int) - 1))).bind fun t242 => (some t242)) = some r := by rw [if_pos rfl] at H; exact H
  clear H
  have H := H1
  clear H1
  replace H := oB.mp H
  obtain ⟨t242, A50, H⟩ := H
  replace H : (some t242) = some r := H
  have A5 := aM A50
  clear A50
  obtain rfl := Option.some.inj H
  go_enter Tryd.func33, Tryd.ntmps33
  go_wp2_with (first | ((with_reducible refine gate_dst (N := 2) rfl ?_); (try (refine gate_guard (by rfl) ?_; dsimp only)); refine yB 2 #[.slice A0_0 l0_0.length c0_0, .int .i64 a0_1] 26 ?_; intro gb240 hg w6 hbox hb; have BK240 := aM (hbox); have GW240 := yV0 hg HB; have GE240 := yV0 hg HB; replace HB := yS0 HB hb; clear hb hbox hg; obtain ⟨hcz7_0, hcz7_1, hfz7_0, hfz7_1⟩ := yD2 BK240) | (refine yL 6 Tryd.func38 #[.agg #[.slice A0_0 l0_0.length c0_0, .int .i64 a0_1]] ?_; (with_reducible refine (spec_l6Vote.calls k _ _ l0_0 a0_1 true _ ?side1 ?side2 A3.out).mono ?_); (case side1 => exact xC (Kd.C_below HR0_0.out HB.out)); (case side2 => exact HC0_0.out); rintro e w8 ⟨rfl, hb⟩; refine ⟨_, rfl, ?_⟩; replace BK240 := yK BK240 hb; replace HB := yS1 HB GE240 hb; (try clear hb; try clear hb2; try clear hk; try clear hi); obtain ⟨hcz9_0, hcz9_1, hfz9_0, hfz9_1⟩ := yD2 BK240) | (go_at_call 53; (with_reducible refine (spec_l1Rising.calls k _ _ l1 0 (wrap64 ((l0_0.length : Int) - 1)) t242 _ ?side1 ?side2 A5.out).mono ?_); (case side1 => exact xC (Kd.C_below HR1.out HB.out)); (case side2 => exact HC1.out); rintro e w' ⟨rfl, ⟨nd, rfl⟩⟩))
  go_ret
  exact ⟨yF, xG1 HB.out GE240.out⟩
 ·
  replace c4 := Bool.eq_false_iff.mpr c4
  subst c4
  have H1 : (some false) = some r := by rw [if_neg (show ¬ (false = true) by decide)] at H; exact H
  clear H
  have H := H1
  clear H1
  obtain rfl := Option.some.inj H
  go_enter Tryd.func33, Tryd.ntmps33
  go_wp2_with (first | ((with_reducible refine gate_dst (N := 2) rfl ?_); (try (refine gate_guard (by rfl) ?_; dsimp only)); refine yB 2 #[.slice A0_0 l0_0.length c0_0, .int .i64 a0_1] 26 ?_; intro gb240 hg w10 hbox hb; have BK240 := aM (hbox); have GW240 := yV0 hg HB; have GE240 := yV0 hg HB; replace HB := yS0 HB hb; clear hb hbox hg; obtain ⟨hcz11_0, hcz11_1, hfz11_0, hfz11_1⟩ := yD2 BK240) | (refine yL 6 Tryd.func38 #[.agg #[.slice A0_0 l0_0.length c0_0, .int .i64 a0_1]] ?_; (with_reducible refine (spec_l6Vote.calls k _ _ l0_0 a0_1 false _ ?side1 ?side2 A3.out).mono ?_); (case side1 => exact xC (Kd.C_below HR0_0.out HB.out)); (case side2 => exact HC0_0.out); rintro e w12 ⟨rfl, hb⟩; refine ⟨_, rfl, ?_⟩; replace BK240 := yK BK240 hb; replace HB := yS1 HB GE240 hb; (try clear hb; try clear hb2; try clear hk; try clear hi)))
  go_ret
  exact ⟨yF, xG1 HB.out GE240.out⟩
mutual
def spec_l6Wins.l0 : Nat → List Bool → Int → List Int → Int → Option (List Bool)
 | 0, _, _, _, _ => none
 | k + 1, x3, x4, x244000, x244001 => if x4 < (shl .i64 1 (x244000.length : Int)) then (spec_l6Wins.l1 k x3 x4 0 0 x244000 x244001) else (some x3)
def spec_l6Wins.l1 : Nat → List Bool → Int → Int → Int → List Int → Int → Option (List Bool)
 | 0, _, _, _, _, _, _ => none
 | k + 1, x3, x4, x5, x6, x244000, x244001 => if x6 < (x244000.length : Int) then (if 0 ≤ x6 then (spec_l6Wins.l1 k x3 x4 (wrap64 (x5 + (wrap64 ((rd x244000 x6) * (Go.bits .and .i64 (shr .i64 x4 x6) 1))))) (wrap64 (x6 + 1)) x244000 x244001) else (none)) else (if x3.length < 140737488355328 then (spec_l6Wins.l0 k (x3 ++ [decide (x5 ≥ x244001)]) (wrap64 (x4 + 1)) x244000 x244001) else (none))
end
def spec_l6Wins.f (k : Nat) (l0_0 : List Int) (a0_1 : Int) : Option (List Bool) := spec_l6Wins.l0 k (([] : List Bool)) 0 l0_0 a0_1
theorem spec_l6Wins.calls (k : Nat) (A0_0 : Option Addr) (c0_0 : Nat) (l0_0 : List Int) (a0_1 : Int) (r : List Bool) (w : World) (hr0_0 : Kd.C (Kd.int .i64) w A0_0 l0_0.length l0_0) (hc0_0 : l0_0.length ≤ c0_0) (h : spec_l6Wins.f k l0_0 a0_1 = some r) :
  Calls Tryd.prog 34 #[.agg #[.slice A0_0 l0_0.length c0_0, .int .i64 a0_1]] w fun e w' => ∃ v0_ : Value, e = .returned (v0_) ∧ Kd.R Kd.bool 4 w' w.heap.size (fun _ => True) v0_ r ∧ Below w.heap.size w w' := by
 have hu26 := Tryd.underlying26
 have HR0_0 := aM hr0_0
 have HC0_0 := aM hc0_0
 clear hr0_0 hc0_0
 have HB := aM (Below.refl w.heap.size w)
 have H : (spec_l6Wins.l0 k (([] : List Bool)) 0 l0_0 a0_1) = some r := h
 clear h
 obtain ⟨y244, hy244⟩ : ∃ y_ : List Bool, y_ = (([] : List Bool)) := ⟨_, rfl⟩
 replace H : (spec_l6Wins.l0 k y244 0 l0_0 a0_1) = some r := by first | (rw [hy244]; with_reducible exact H) | (have H2_ := (Option.bind_some _ _).symm.trans H; rw [hy244]; with_reducible exact H2_) | (have H2_ := (Option.bind_some _ _).symm.trans H; with_reducible exact H2_) | with_reducible exact H | (rw [hy244]; exact H) | exact H
 have Ny244 := aM hy244
 clear hy244
 have H' := aM H
 clear H
 go_enter Tryd.func34, Tryd.ntmps34
 go_wp2_with (first | (refine yB 1 #[.slice A0_0 l0_0.length c0_0, .int .i64 a0_1] 26 ?_; intro gb243 hg w2 hbox hb; have BK243 := aM (hbox); have GW243 := yV0 hg HB; have GE243 := yV0 hg HB; replace HB := yS0 HB hb; clear hb hbox hg) | ((with_reducible refine gate_dst (N := 7) rfl ?_); refine Kd.R_lit Kd.bool _ 4 ?hg (N := 7) ?hd (xs := ([] : List Bool)) (inner := []) (ok := fun _ => True) (okp := fun _ => True) ?hr ?hp (fun _ hk => hk) trivial (Below.refl _ _) (Nat.le_refl _) (by simp) ?_; (case hd => rfl); (case hg => rfl); (case hr => first | (go_simp; done) | (go_simp; rfl)); (case hp => exact (Reps.none _ _)); intro v245 w3 ho4 hb hg_ hnew_; clear hg_ hnew_; (first | rw [← Ny244.out] at ho4 | (simp only [Int.reduceToNat] at ho4; rw [← Ny244.out] at ho4)); have HO246 := aM (Kd.R_lower ho4 (below_size (xG1 HB.out GE243.out))); replace BK243 := yK BK243 hb; replace HB := yS1 HB GE243 hb; clear hb ho4))
 repeat (go_quiet (first | (refine yB 1 #[.slice A0_0 l0_0.length c0_0, .int .i64 a0_1] 26 ?_; intro gb243 hg w2 hbox hb; have BK243 := aM (hbox); have GW243 := yV0 hg HB; have GE243 := yV0 hg HB; replace HB := yS0 HB hb; clear hb hbox hg) | ((with_reducible refine gate_dst (N := 7) rfl ?_); refine Kd.R_lit Kd.bool _ 4 ?hg (N := 7) ?hd (xs := ([] : List Bool)) (inner := []) (ok := fun _ => True) (okp := fun _ => True) ?hr ?hp (fun _ hk => hk) trivial (Below.refl _ _) (Nat.le_refl _) (by simp) ?_; (case hd => rfl); (case hg => rfl); (case hr => first | (go_simp; done) | (go_simp; rfl)); (case hp => exact (Reps.none _ _)); intro v245 w3 ho4 hb hg_ hnew_; clear hg_ hnew_; (first | rw [← Ny244.out] at ho4 | (simp only [Int.reduceToNat] at ho4; rw [← Ny244.out] at ho4)); have HO246 := aM (Kd.R_lower ho4 (below_size (xG1 HB.out GE243.out))); replace BK243 := yK BK243 hb; replace HB := yS1 HB GE243 hb; clear hb ho4)); try go_wp2_with (first | (refine yB 1 #[.slice A0_0 l0_0.length c0_0, .int .i64 a0_1] 26 ?_; intro gb243 hg w2 hbox hb; have BK243 := aM (hbox); have GW243 := yV0 hg HB; have GE243 := yV0 hg HB; replace HB := yS0 HB hb; clear hb hbox hg) | ((with_reducible refine gate_dst (N := 7) rfl ?_); refine Kd.R_lit Kd.bool _ 4 ?hg (N := 7) ?hd (xs := ([] : List Bool)) (inner := []) (ok := fun _ => True) (okp := fun _ => True) ?hr ?hp (fun _ hk => hk) trivial (Below.refl _ _) (Nat.le_refl _) (by simp) ?_; (case hd => rfl); (case hg => rfl); (case hr => first | (go_simp; done) | (go_simp; rfl)); (case hp => exact (Reps.none _ _)); intro v245 w3 ho4 hb hg_ hnew_; clear hg_ hnew_; (first | rw [← Ny244.out] at ho4 | (simp only [Int.reduceToNat] at ho4; rw [← Ny244.out] at ho4)); have HO246 := aM (Kd.R_lower ho4 (below_size (xG1 HB.out GE243.out))); replace BK243 := yK BK243 hb; replace HB := yS1 HB GE243 hb; clear hb ho4)))
 go_loopg [3, 4] k (fun kq v3 v4 w' => ∃ (x3_1 : List Bool) (x4_1 : Int), v4 = .int .i64 x4_1 ∧ Aside0 (spec_l6Wins.l0 kq x3_1 x4_1 l0_0 a0_1 = some r) ∧ Aside0 (kq ≤ k) ∧ Aside0 (Kd.R Kd.bool 4 w' w.heap.size (fun _ => True) v3 x3_1) ∧ Aside0 (w'.heap[gb243]? = some (.cells #[(.slice A0_0 l0_0.length c0_0), .int .i64 a0_1] 26 (0, 0))) ∧ Aside0 (Below w.heap.size w w'))
 case atStart => exact ⟨(y244), (0), yZ, H', ⟨Nat.le_refl _⟩, ⟨xR HO246.out⟩, ⟨xB BK243.out⟩, ⟨xG1 HB.out GE243.out⟩⟩
 case round =>
  clear H'
  try clear p2; try clear c3
  obtain ⟨x3_1, x4_1, rfl, HA, HK1, HO_3, BK243, HB⟩ := hrel
  cases gk with
  | zero => exact absurd HA.out (by simp [spec_l6Wins.l0])
  | succ k1 =>
   have H := HA.out
   clear HA
   simp only [spec_l6Wins.l0] at H
   obtain ⟨ji5, hji5⟩ := yJ ((shl .i64 1 (l0_0.length : Int)))
   replace H : (if x4_1 < (ji5) then (spec_l6Wins.l1 k1 x3_1 x4_1 0 0 l0_0 a0_1) else (some x3_1)) = some r := by first | (rw [hji5] at H; exact H) | (simp only [hji5] at H ⊢; exact H)
   have hji5_ : (IntKind.i64.wrap (1 * 2 ^ min (l0_0.length : Int).toNat 64)) = ji5 := hji5
   have hji5z : (l0_0.length : Int) ≤ 64 → (IntKind.i64.wrap (1 * 2 ^ (l0_0.length : Int).toNat)) = ji5 := shl_small hji5
   have hji5p : (IntKind.i64.wrap (1 * 2 ^ min l0_0.length 64)) = ji5 := hji5_
   have hji5q : (l0_0.length : Int) ≤ 64 → (IntKind.i64.wrap (1 * 2 ^ l0_0.length)) = ji5 := hji5z
   have hji5r : (IntKind.i64.wrap (2 ^ min l0_0.length 64)) = ji5 := by have h_ := hji5p; rw [Int.one_mul] at h_; exact h_
   have hji5s : (l0_0.length : Int) ≤ 64 → (IntKind.i64.wrap (2 ^ l0_0.length)) = ji5 := fun hle_ => by have h_ := hji5q hle_; rw [Int.one_mul] at h_; exact h_
   have hji5u : (IntKind.i64.wrap (2 ^ min (l0_0.length : Int).toNat 64)) = ji5 := by have h_ := hji5_; rw [Int.one_mul] at h_; exact h_
   have hji5v : (l0_0.length : Int) ≤ 64 → (IntKind.i64.wrap (2 ^ (l0_0.length : Int).toNat)) = ji5 := fun hle_ => by have h_ := hji5z hle_; rw [Int.one_mul] at h_; exact h_
   have hji5y : (wrap64 (1 * 2 ^ min (l0_0.length : Int).toNat 64)) = ji5 := (i64_w _).symm.trans hji5_
   have hji5x : (l0_0.length : Int) ≤ 64 → (wrap64 (1 * 2 ^ (l0_0.length : Int).toNat)) = ji5 := fun h_ => (i64_w _).symm.trans (hji5z h_)
   by_cases c6 : x4_1 < (ji5)
   ·
    rw [if_pos c6] at H
    have c6b0 := decide_eq_true c6
    clear c6
    have H' := aM H
    clear H
    have hcz7_0 : wr.cell? ⟨gb243, 0, none⟩ = some (.slice A0_0 l0_0.length c0_0) := (bC BK243.out 0).trans rfl
    have hcz7_1 : wr.cell? ⟨gb243, 1, none⟩ = some (.int .i64 a0_1) := (bC BK243.out 1).trans rfl
    have hfz7_0 := bF BK243.out 0
    have hfz7_1 := bF BK243.out 1
    go_wp2
    repeat (go_quiet (fail); try go_wp2)
    go_loopg [5, 6] k1 (fun kq v5 v6 w' => ∃ (x5_2 : Int) (x6_2 : Int), v5 = .int .i64 x5_2 ∧ v6 = .int .i64 x6_2 ∧ Aside0 (spec_l6Wins.l1 kq x3_1 x4_1 x5_2 x6_2 l0_0 a0_1 = some r) ∧ Aside0 (kq ≤ k1) ∧ Aside0 (Kd.R Kd.bool 4 w' w.heap.size (fun _ => True) u3 x3_1) ∧ Aside0 (w'.heap[gb243]? = some (.cells #[(.slice A0_0 l0_0.length c0_0), .int .i64 a0_1] 26 (0, 0))) ∧ Aside0 (Below w.heap.size w w'))
    case atStart => exact ⟨(0), (0), yZ, yZ, H', ⟨Nat.le_refl _⟩, ⟨xR HO_3.out⟩, ⟨xB BK243.out⟩, ⟨xG1 HB.out GE243.out⟩⟩
    case round =>
     clear H'
     try clear p2; try clear c3; try clear c6; try clear c6b0; try clear p6; try clear hcz7_0; try clear hcz7_1; try clear hfz7_0; try clear hfz7_1; try clear p2
     obtain ⟨x5_2, x6_2, rfl, rfl, HA, HK2, HO_3, BK243, HB⟩ := hrel
     cases gk with
     | zero => exact absurd HA.out (by simp [spec_l6Wins.l1])
     | succ k2 =>
      have H := HA.out
      clear HA
      simp only [spec_l6Wins.l1] at H
      by_cases c8 : x6_2 < (l0_0.length : Int)
      ·
       rw [if_pos c8] at H
       have c8b0 := decide_eq_true c8
       clear c8
       by_cases c9 : 0 ≤ x6_2
       ·
        rw [if_pos c9] at H
        have c9b0 := decide_eq_true c9
        clear c9
        have c10b0 := eq_true (yA : 0 ≤ x6_2)
        obtain ⟨ji11, hji11⟩ := yJ ((shr .i64 x4_1 x6_2))
        replace H : (spec_l6Wins.l1 k2 x3_1 x4_1 (wrap64 (x5_2 + (wrap64 ((rd l0_0 x6_2) * (Go.bits .and .i64 (ji11) 1))))) (wrap64 (x6_2 + 1)) l0_0 a0_1) = some r := by first | (rw [hji11] at H; exact H) | (simp only [hji11] at H ⊢; exact H)
        have hji11_ : (x4_1 / 2 ^ min x6_2.toNat 64) = ji11 := hji11
        have hji11z : x6_2 ≤ 64 → (x4_1 / 2 ^ x6_2.toNat) = ji11 := shr_small hji11
        have H' := aM H
        clear H
        have hcz12_0 : wr.cell? ⟨gb243, 0, none⟩ = some (.slice A0_0 l0_0.length c0_0) := (bC BK243.out 0).trans rfl
        have hcz12_1 : wr.cell? ⟨gb243, 1, none⟩ = some (.int .i64 a0_1) := (bC BK243.out 1).trans rfl
        have hfz12_0 := bF BK243.out 0
        have hfz12_1 := bF BK243.out 1
        have p247 : 0 ≤ (x6_2 : Int) := yA
        have q247 : x6_2 < (l0_0.length : Int) := yA
        obtain ⟨ad247, e247, hx247_0⟩ := Kd.at_int HR0_0.out x6_2 p247 q247
        cases e247
        replace hx247_0 := (HB.out.cell (World.block_lt_of_cell? w _ hx247_0)).trans hx247_0
        replace p247 := eq_true p247
        replace q247 := eq_true q247
        go_wp2
        repeat (go_quiet (fail); try go_wp2)
        go_roundg k2
        case measure => have := HK1.out; have := HK2.out; omega
        case rel => exact ⟨(wrap64 (x5_2 + (wrap64 ((rd l0_0 x6_2) * (Go.bits .and .i64 (ji11) 1))))), (wrap64 (x6_2 + 1)), (by first | rfl | (simp; done) | (simp only [← hji11] <;> (first | rfl | simp)) | (simp [*]; done)), yZ, H', ⟨by have := HK1.out; have := HK2.out; omega⟩, ⟨xR HO_3.out⟩, ⟨xB BK243.out⟩, ⟨xG1 HB.out GE243.out⟩⟩
       ·
        rw [if_neg c9] at H
        exact absurd H (by simp)
      ·
       rw [if_neg c8] at H
       have c8b0 := decide_eq_false c8
       clear c8
       by_cases c13 : x3_1.length < 140737488355328
       ·
        rw [if_pos c13] at H
        have LMc13 := aM c13
        clear c13
        obtain ⟨y248, hy248⟩ : ∃ y_ : List Bool, y_ = (x3_1 ++ [decide (x5_2 ≥ a0_1)]) := ⟨_, rfl⟩
        replace H : (spec_l6Wins.l0 k2 y248 (wrap64 (x4_1 + 1)) l0_0 a0_1) = some r := by first | (rw [hy248]; with_reducible exact H) | (have H2_ := (Option.bind_some _ _).symm.trans H; rw [hy248]; with_reducible exact H2_) | (have H2_ := (Option.bind_some _ _).symm.trans H; with_reducible exact H2_) | with_reducible exact H | (rw [hy248]; exact H) | exact H
        have Ny248 := aM hy248
        clear hy248
        have H' := aM H
        clear H
        have hcz14_0 : wr.cell? ⟨gb243, 0, none⟩ = some (.slice A0_0 l0_0.length c0_0) := (bC BK243.out 0).trans rfl
        have hcz14_1 : wr.cell? ⟨gb243, 1, none⟩ = some (.int .i64 a0_1) := (bC BK243.out 1).trans rfl
        have hfz14_0 := bF BK243.out 0
        have hfz14_1 := bF BK243.out 1
        go_wp2_with (first | ((with_reducible refine gate_builtin (b := .append) (xs := #[.tmp 35, .tmp 40]) rfl ?_); at_builtin; refine Kd.R_append Kd.bool (w0 := w) w.heap.size rfl (.tmp 35) (.tmp 40) 55 4 (.bool false) 1 rfl Tryd.underlying55 info4 rfl (by decide) (by omega) u3 x3_1 (decide (x5_2 ≥ a0_1)) [.bool (decide (x5_2 ≥ a0_1))] (fun _ => True) (fun _ => False) rfl rfl ?aP (fun _ hk => hk.elim) ?aF ?aO ?aB ?aS ?aL ?_; (case aP => exact rfl); (case aB => exact (xG1 HB.out GE243.out)); (case aF => exact (fun _ _ => trivial)); (case aO => exact (xR HO_3.out)); (case aS => exact (below_size (xG1 HB.out GE243.out))); (case aL => have := LMc13.out; omega); intro v249 w15 ho hb hg hat; rw [← Ny248.out] at ho; replace BK243 := yR BK243 hg (Kd.R_ne HO_3.out BK243.out (by decide)); replace HB := aM (hb); have HO250 := aM (ho); clear HO_3; clear ho hb hg hat))
        repeat (go_quiet (first | ((with_reducible refine gate_builtin (b := .append) (xs := #[.tmp 35, .tmp 40]) rfl ?_); at_builtin; refine Kd.R_append Kd.bool (w0 := w) w.heap.size rfl (.tmp 35) (.tmp 40) 55 4 (.bool false) 1 rfl Tryd.underlying55 info4 rfl (by decide) (by omega) u3 x3_1 (decide (x5_2 ≥ a0_1)) [.bool (decide (x5_2 ≥ a0_1))] (fun _ => True) (fun _ => False) rfl rfl ?aP (fun _ hk => hk.elim) ?aF ?aO ?aB ?aS ?aL ?_; (case aP => exact rfl); (case aB => exact (xG1 HB.out GE243.out)); (case aF => exact (fun _ _ => trivial)); (case aO => exact (xR HO_3.out)); (case aS => exact (below_size (xG1 HB.out GE243.out))); (case aL => have := LMc13.out; omega); intro v249 w15 ho hb hg hat; rw [← Ny248.out] at ho; replace BK243 := yR BK243 hg (Kd.R_ne HO_3.out BK243.out (by decide)); replace HB := aM (hb); have HO250 := aM (ho); clear HO_3; clear ho hb hg hat)); try go_wp2_with (first | ((with_reducible refine gate_builtin (b := .append) (xs := #[.tmp 35, .tmp 40]) rfl ?_); at_builtin; refine Kd.R_append Kd.bool (w0 := w) w.heap.size rfl (.tmp 35) (.tmp 40) 55 4 (.bool false) 1 rfl Tryd.underlying55 info4 rfl (by decide) (by omega) u3 x3_1 (decide (x5_2 ≥ a0_1)) [.bool (decide (x5_2 ≥ a0_1))] (fun _ => True) (fun _ => False) rfl rfl ?aP (fun _ hk => hk.elim) ?aF ?aO ?aB ?aS ?aL ?_; (case aP => exact rfl); (case aB => exact (xG1 HB.out GE243.out)); (case aF => exact (fun _ _ => trivial)); (case aO => exact (xR HO_3.out)); (case aS => exact (below_size (xG1 HB.out GE243.out))); (case aL => have := LMc13.out; omega); intro v249 w15 ho hb hg hat; rw [← Ny248.out] at ho; replace BK243 := yR BK243 hg (Kd.R_ne HO_3.out BK243.out (by decide)); replace HB := aM (hb); have HO250 := aM (ho); clear HO_3; clear ho hb hg hat)))
        go_roundg k2
        case measure => have := HK1.out; have := HK2.out; omega
        case rel => exact ⟨(y248), (wrap64 (x4_1 + 1)), yZ, H', ⟨by have := HK1.out; have := HK2.out; omega⟩, ⟨xR HO250.out⟩, ⟨xB BK243.out⟩, ⟨xG1 HB.out GE243.out⟩⟩
       ·
        rw [if_neg c13] at H
        exact absurd H (by simp)
   ·
    rw [if_neg c6] at H
    have c6b0 := decide_eq_false c6
    clear c6
    obtain rfl := Option.some.inj H
    have hcz16_0 : wr.cell? ⟨gb243, 0, none⟩ = some (.slice A0_0 l0_0.length c0_0) := (bC BK243.out 0).trans rfl
    have hcz16_1 : wr.cell? ⟨gb243, 1, none⟩ = some (.int .i64 a0_1) := (bC BK243.out 1).trans rfl
    have hfz16_0 := bF BK243.out 0
    have hfz16_1 := bF BK243.out 1
    go_wp2
    repeat (go_quiet (fail); try go_wp2)
    go_ret
    exact ⟨_, by first | rfl | (simp [errW_none, errW_some] <;> rfl) | (simp only [← hji5]; first | rfl | (simp [errW_none, errW_some] <;> rfl)) | (simp [*, errW_none, errW_some] <;> rfl), xR HO_3.out, xG1 HB.out GE243.out⟩
def spec_WinsWith.l0 : Nat → List Int → Int → Int → List Int → Int → Option (Bool × Bool)
 | 0, _, _, _, _, _ => none
 | k + 1, x1, x6, x7, x252000, x252001 => if x7 < (x1.length : Int) then (if 0 ≤ x7 then (if 0 ≤ (rd x1 x7) then (spec_WinsWith.l0 k x1 (wrap64 (x6 + (shl .i64 1 (rd x1 x7)))) (wrap64 (x7 + 1)) x252000 x252001) else (none)) else (none)) else ((spec_l6Wins.f k x252000 x252001).bind fun t254 => (if 0 ≤ x6 then (if x6 < (t254.length : Int) then (some (rdOf false t254 x6, true)) else (none)) else (none)))
def spec_WinsWith.f (k : Nat) (l0_0 : List Int) (a0_1 : Int) (l1 : List Int) : Option (Bool × Bool) := (spec_l6Set.f k l0_0 a0_1 l1).bind fun t252 => (if t252 = true then (spec_WinsWith.l0 k l1 0 0 l0_0 a0_1) else (some (false, false)))
theorem spec_WinsWith.calls (k : Nat) (A0_0 : Option Addr) (c0_0 : Nat) (l0_0 : List Int) (a0_1 : Int) (A1 : Option Addr) (c1 : Nat) (l1 : List Int) (r1 : Bool) (r2 : Bool) (w : World) (hr0_0 : Kd.C (Kd.int .i64) w A0_0 l0_0.length l0_0) (hc0_0 : l0_0.length ≤ c0_0) (hr1 : Kd.C (Kd.int .i64) w A1 l1.length l1) (hc1 : l1.length ≤ c1) (h : spec_WinsWith.f k l0_0 a0_1 l1 = some (r1, r2)) :
  Calls Tryd.prog 7 #[.agg #[.slice A0_0 l0_0.length c0_0, .int .i64 a0_1], .slice A1 l1.length c1] w fun e w' => e = .returned (.tuple #[.bool r1, .bool r2]) ∧ Below w.heap.size w w' := by
 have hu26 := Tryd.underlying26
 have HR0_0 := aM hr0_0
 have HC0_0 := aM hc0_0
 clear hr0_0 hc0_0
 have HR1 := aM hr1
 have HC1 := aM hc1
 clear hr1 hc1
 have HB := aM (Below.refl w.heap.size w)
 have H : ((spec_l6Set.f k l0_0 a0_1 l1).bind fun t252 => (if t252 = true then (spec_WinsWith.l0 k l1 0 0 l0_0 a0_1) else (some (false, false)))) = some (r1, r2) := h
 clear h
 replace H := oB.mp H
 obtain ⟨t252, A30, H⟩ := H
 replace H : (if t252 = true then (spec_WinsWith.l0 k l1 0 0 l0_0 a0_1) else (some (false, false))) = some (r1, r2) := H
 have A3 := aM A30
 clear A30
 by_cases c4 : t252 = true
 ·
  subst c4
  have H1 : (spec_WinsWith.l0 k l1 0 0 l0_0 a0_1) = some (r1, r2) := by rw [if_pos rfl] at H; exact H
  clear H
  have H := H1
  clear H1
  have H' := aM H
  clear H
  go_enter Tryd.func7, Tryd.ntmps7
  go_wp2_with (first | (refine yB 2 #[.slice A0_0 l0_0.length c0_0, .int .i64 a0_1] 26 ?_; intro gb251 hg w5 hbox hb; have BK251 := aM (hbox); have GW251 := yV0 hg HB; have GE251 := yV0 hg HB; replace HB := yS0 HB hb; clear hb hbox hg; obtain ⟨hcz6_0, hcz6_1, hfz6_0, hfz6_1⟩ := yD2 BK251) | (refine yL 10 Tryd.func33 #[.agg #[.slice A0_0 l0_0.length c0_0, .int .i64 a0_1], .slice A1 l1.length c1] ?_; (with_reducible refine (spec_l6Set.calls k _ _ l0_0 a0_1 _ _ l1 true _ ?side1 ?side2 ?side3 ?side4 A3.out).mono ?_); (case side1 => exact xC (Kd.C_below HR0_0.out HB.out)); (case side2 => exact HC0_0.out); (case side3 => exact xC (Kd.C_below HR1.out HB.out)); (case side4 => exact HC1.out); rintro e w7 ⟨rfl, hb⟩; refine ⟨_, rfl, ?_⟩; replace BK251 := yK BK251 hb; replace HB := yS1 HB GE251 hb; (try clear hb; try clear hb2; try clear hk; try clear hi)))
  go_loopg [6, 7] k (fun kq v6 v7 w' => ∃ (x6_1 : Int) (x7_1 : Int), v6 = .int .i64 x6_1 ∧ v7 = .int .i64 x7_1 ∧ Aside0 (spec_WinsWith.l0 kq l1 x6_1 x7_1 l0_0 a0_1 = some (r1, r2)) ∧ Aside0 (kq ≤ k) ∧ Aside0 (w'.heap[gb251]? = some (.cells #[(.slice A0_0 l0_0.length c0_0), .int .i64 a0_1] 26 (0, 0))) ∧ Aside0 (Below w.heap.size w w'))
  case atStart => exact ⟨(0), (0), yZ, yZ, H', ⟨Nat.le_refl _⟩, ⟨xB BK251.out⟩, ⟨xG1 HB.out GE251.out⟩⟩
  case round =>
   clear H'
   try clear c1; try clear p2; try clear c3; try clear c4; try clear c7; try clear hcz6_0; try clear hcz6_1; try clear hfz6_0; try clear hfz6_1
   obtain ⟨x6_1, x7_1, rfl, rfl, HA, HK1, BK251, HB⟩ := hrel
   cases gk with
   | zero => exact absurd HA.out (by simp [spec_WinsWith.l0])
   | succ k1 =>
    have H := HA.out
    clear HA
    simp only [spec_WinsWith.l0] at H
    by_cases c8 : x7_1 < (l1.length : Int)
    ·
     rw [if_pos c8] at H
     have c8b0 := decide_eq_true c8
     clear c8
     by_cases c9 : 0 ≤ x7_1
     ·
      rw [if_pos c9] at H
      have c9b0 := decide_eq_true c9
      clear c9
      by_cases c10 : 0 ≤ (rd l1 x7_1)
      ·
       rw [if_pos c10] at H
       have c10b0 := eq_true c10
       have c10b1 : decide (0 ≤ (rd l1 x7_1)) = true := decide_eq_true c10
       clear c10
       obtain ⟨ji11, hji11⟩ := yJ ((shl .i64 1 (rd l1 x7_1)))
       replace H : (spec_WinsWith.l0 k1 l1 (wrap64 (x6_1 + (ji11))) (wrap64 (x7_1 + 1)) l0_0 a0_1) = some (r1, r2) := by first | (rw [hji11] at H; exact H) | (simp only [hji11] at H ⊢; exact H)
       have hji11_ : (IntKind.i64.wrap (1 * 2 ^ min (rd l1 x7_1).toNat 64)) = ji11 := hji11
       have hji11z : (rd l1 x7_1) ≤ 64 → (IntKind.i64.wrap (1 * 2 ^ (rd l1 x7_1).toNat)) = ji11 := shl_small hji11
       have hji11u : (IntKind.i64.wrap (2 ^ min (rd l1 x7_1).toNat 64)) = ji11 := by have h_ := hji11_; rw [Int.one_mul] at h_; exact h_
       have hji11v : (rd l1 x7_1) ≤ 64 → (IntKind.i64.wrap (2 ^ (rd l1 x7_1).toNat)) = ji11 := fun hle_ => by have h_ := hji11z hle_; rw [Int.one_mul] at h_; exact h_
       have hji11y : (wrap64 (1 * 2 ^ min (rd l1 x7_1).toNat 64)) = ji11 := (i64_w _).symm.trans hji11_
       have hji11x : (rd l1 x7_1) ≤ 64 → (wrap64 (1 * 2 ^ (rd l1 x7_1).toNat)) = ji11 := fun h_ => (i64_w _).symm.trans (hji11z h_)
       have H' := aM H
       clear H
       have p253 : 0 ≤ (x7_1 : Int) := yA
       have q253 : x7_1 < (l1.length : Int) := yA
       obtain ⟨ad253, e253, hx253_0⟩ := Kd.at_int HR1.out x7_1 p253 q253
       cases e253
       replace hx253_0 := (HB.out.cell (World.block_lt_of_cell? w _ hx253_0)).trans hx253_0
       replace p253 := eq_true p253
       replace q253 := eq_true q253
       go_wp2
       go_roundg k1
       case measure => have := HK1.out; omega
       case rel => exact ⟨(wrap64 (x6_1 + (ji11))), (wrap64 (x7_1 + 1)), (by first | rfl | (simp; done) | (simp only [← hji11] <;> (first | rfl | simp)) | (simp [*]; done)), yZ, H', ⟨by have := HK1.out; omega⟩, ⟨xB BK251.out⟩, ⟨xG1 HB.out GE251.out⟩⟩
      ·
       rw [if_neg c10] at H
       exact absurd H (by simp)
     ·
      rw [if_neg c9] at H
      exact absurd H (by simp)
    ·
     rw [if_neg c8] at H
     have c8b0 := decide_eq_false c8
     clear c8
     replace H := oB.mp H
     obtain ⟨t254, A120, H⟩ := H
     replace H : (if 0 ≤ x6_1 then (if x6_1 < (t254.length : Int) then (some (rdOf false t254 x6_1, true)) else (none)) else (none)) = some (r1, r2) := H
     have A12 := aM A120
     clear A120
     by_cases c13 : 0 ≤ x6_1
     ·
      rw [if_pos c13] at H
      have c13b0 := decide_eq_true c13
      clear c13
      by_cases c14 : x6_1 < (t254.length : Int)
      ·
       rw [if_pos c14] at H
       have c14b0 := decide_eq_true c14
       clear c14
       simp only [Option.some.injEq, Prod.mk.injEq] at H
       obtain ⟨rfl, rfl⟩ := H
       have hcz15_0 : wr.cell? ⟨gb251, 0, none⟩ = some (.slice A0_0 l0_0.length c0_0) := (bC BK251.out 0).trans rfl
       have hcz15_1 : wr.cell? ⟨gb251, 1, none⟩ = some (.int .i64 a0_1) := (bC BK251.out 1).trans rfl
       have hfz15_0 := bF BK251.out 0
       have hfz15_1 := bF BK251.out 1
       go_wp2_with (first | (refine yL 26 Tryd.func34 #[.agg #[.slice A0_0 l0_0.length c0_0, .int .i64 a0_1]] ?_; (with_reducible refine (spec_l6Wins.calls k1 _ _ l0_0 a0_1 t254 _ ?side1 ?side2 A12.out).mono ?_); (case side1 => exact xC (Kd.C_below HR0_0.out HB.out)); (case side2 => exact HC0_0.out); rintro e w16 ⟨v255, rfl, ho0, hb⟩; refine ⟨_, rfl, ?_⟩; have HO256 := aM (Kd.R_lower ho0 (below_size (xG1 HB.out GE251.out))); replace BK251 := yK BK251 hb; replace HB := yS1 HB GE251 hb; (try clear hb; try clear hb2; try clear hk; try clear hi; try clear ho0); obtain ⟨Ao17, co17, eo17⟩ := Kd.R_slice HO256.out; subst eo17; have p257 : 0 ≤ (x6_1 : Int) := yA; have q257 : x6_1 < (t254.length : Int) := yA; obtain ⟨ad257, e257, hx257_0⟩ := Kd.at_bool (Kd.R_reads' HO256.out).2.2 x6_1 p257 q257; cases e257; replace p257 := eq_true p257; replace q257 := eq_true q257))
       go_ret2
       exact ⟨yF, xG1 HB.out GE251.out⟩
      ·
       rw [if_neg c14] at H
       exact absurd H (by simp)
     ·
      rw [if_neg c13] at H
      exact absurd H (by simp)
 ·
  replace c4 := Bool.eq_false_iff.mpr c4
  subst c4
  have H1 : (some (false, false)) = some (r1, r2) := by rw [if_neg (show ¬ (false = true) by decide)] at H; exact H
  clear H
  have H := H1
  clear H1
  simp only [Option.some.injEq, Prod.mk.injEq] at H
  obtain ⟨rfl, rfl⟩ := H
  go_enter Tryd.func7, Tryd.ntmps7
  go_wp2_with (first | (refine yB 2 #[.slice A0_0 l0_0.length c0_0, .int .i64 a0_1] 26 ?_; intro gb251 hg w18 hbox hb; have BK251 := aM (hbox); have GW251 := yV0 hg HB; have GE251 := yV0 hg HB; replace HB := yS0 HB hb; clear hb hbox hg; obtain ⟨hcz19_0, hcz19_1, hfz19_0, hfz19_1⟩ := yD2 BK251) | (refine yL 10 Tryd.func33 #[.agg #[.slice A0_0 l0_0.length c0_0, .int .i64 a0_1], .slice A1 l1.length c1] ?_; (with_reducible refine (spec_l6Set.calls k _ _ l0_0 a0_1 _ _ l1 false _ ?side1 ?side2 ?side3 ?side4 A3.out).mono ?_); (case side1 => exact xC (Kd.C_below HR0_0.out HB.out)); (case side2 => exact HC0_0.out); (case side3 => exact xC (Kd.C_below HR1.out HB.out)); (case side4 => exact HC1.out); rintro e w20 ⟨rfl, hb⟩; refine ⟨_, rfl, ?_⟩; replace BK251 := yK BK251 hb; replace HB := yS1 HB GE251 hb; (try clear hb; try clear hb2; try clear hk; try clear hi)))
  go_ret2
  exact ⟨yF, xG1 HB.out GE251.out⟩
def impl_Vote_all.f (l0_0 : List Int) (a0_1 : Int) : Option (Int) := some (wrap64 ((shl .i64 1 (l0_0.length : Int)) - 1))
theorem impl_Vote_all.calls (A0_0 : Option Addr) (c0_0 : Nat) (l0_0 : List Int) (a0_1 : Int) (r : Int) (w : World) (hr0_0 : Kd.C (Kd.int .i64) w A0_0 l0_0.length l0_0) (hc0_0 : l0_0.length ≤ c0_0) (h : impl_Vote_all.f l0_0 a0_1 = some r) :
  Calls Tryd.prog 45 #[.agg #[.slice A0_0 l0_0.length c0_0, .int .i64 a0_1]] w fun e w' => e = .returned (.int .i64 r) ∧ Below w.heap.size w w' := by
 have hu26 := Tryd.underlying26
 have HR0_0 := aM hr0_0
 have HC0_0 := aM hc0_0
 clear hr0_0 hc0_0
 have HB := aM (Below.refl w.heap.size w)
 have H : (some (wrap64 ((shl .i64 1 (l0_0.length : Int)) - 1))) = some r := h
 clear h
 obtain ⟨ji2, hji2⟩ := yJ ((shl .i64 1 (l0_0.length : Int)))
 replace H : (some (wrap64 ((ji2) - 1))) = some r := by first | (rw [hji2] at H; exact H) | (simp only [hji2] at H ⊢; exact H)
 have hji2_ : (IntKind.i64.wrap (1 * 2 ^ min (l0_0.length : Int).toNat 64)) = ji2 := hji2
 have hji2z : (l0_0.length : Int) ≤ 64 → (IntKind.i64.wrap (1 * 2 ^ (l0_0.length : Int).toNat)) = ji2 := shl_small hji2
 have hji2p : (IntKind.i64.wrap (1 * 2 ^ min l0_0.length 64)) = ji2 := hji2_
 have hji2q : (l0_0.length : Int) ≤ 64 → (IntKind.i64.wrap (1 * 2 ^ l0_0.length)) = ji2 := hji2z
 have hji2r : (IntKind.i64.wrap (2 ^ min l0_0.length 64)) = ji2 := by have h_ := hji2p; rw [Int.one_mul] at h_; exact h_
 have hji2s : (l0_0.length : Int) ≤ 64 → (IntKind.i64.wrap (2 ^ l0_0.length)) = ji2 := fun hle_ => by have h_ := hji2q hle_; rw [Int.one_mul] at h_; exact h_
 have hji2u : (IntKind.i64.wrap (2 ^ min (l0_0.length : Int).toNat 64)) = ji2 := by have h_ := hji2_; rw [Int.one_mul] at h_; exact h_
 have hji2v : (l0_0.length : Int) ≤ 64 → (IntKind.i64.wrap (2 ^ (l0_0.length : Int).toNat)) = ji2 := fun hle_ => by have h_ := hji2z hle_; rw [Int.one_mul] at h_; exact h_
 have hji2y : (wrap64 (1 * 2 ^ min (l0_0.length : Int).toNat 64)) = ji2 := (i64_w _).symm.trans hji2_
 have hji2x : (l0_0.length : Int) ≤ 64 → (wrap64 (1 * 2 ^ (l0_0.length : Int).toNat)) = ji2 := fun h_ => (i64_w _).symm.trans (hji2z h_)
 obtain rfl := Option.some.inj H
 go_enter Tryd.func45, Tryd.ntmps45
 go_wp2_with (first | (refine yB 1 #[.slice A0_0 l0_0.length c0_0, .int .i64 a0_1] 26 ?_; intro gb258 hg w3 hbox hb; have BK258 := aM (hbox); have GW258 := yV0 hg HB; have GE258 := yV0 hg HB; replace HB := yS0 HB hb; clear hb hbox hg; obtain ⟨hcz4_0, hcz4_1, hfz4_0, hfz4_1⟩ := yD2 BK258))
 go_ret
 exact ⟨by first | rfl | (simp [errW_none, errW_some] <;> rfl) | (simp only [← hji2]; first | rfl | (simp [errW_none, errW_some] <;> rfl)) | (simp [*, errW_none, errW_some] <;> rfl), xG1 HB.out GE258.out⟩
def cmp_isNaN_int.f (a0 : Int) : Option (Bool) := some (a0 != a0)
theorem cmp_isNaN_int.calls (a0 : Int) (r : Bool) (w : World) (h : cmp_isNaN_int.f a0 = some r) :
  Calls Tryd.prog 85 #[.int .i64 a0] w fun e w' => e = .returned (.bool r) ∧ Drawn0 w w' := by
 have H : (some (a0 != a0)) = some r := h
 clear h
 obtain rfl := Option.some.inj H
 go_enter Tryd.func85, Tryd.ntmps85
 go_wp2
 go_ret
 exact ⟨by first | rfl | (simp; done) | (simp [*]; done), by repeat (first | exact Drawn0.refl _ | apply Drawn0.step)⟩
def cmp_Compare_int.f (a0 : Int) (a1 : Int) : Option (Int) := (cmp_isNaN_int.f a0).bind fun t259 => ((cmp_isNaN_int.f a1).bind fun t260 => (if t259 = true then (if t260 = true then (some 0) else (some (-1))) else (if t260 = true then (some 1) else (if a0 < a1 then (some (-1)) else (if a0 > a1 then (some 1) else (some 0))))))
theorem cmp_Compare_int.calls (a0 : Int) (a1 : Int) (r : Int) (w : World) (h : cmp_Compare_int.f a0 a1 = some r) :
  Calls Tryd.prog 79 #[.int .i64 a0, .int .i64 a1] w fun e w' => e = .returned (.int .i64 r) ∧ Drawn0 w w' := by
 have H : ((cmp_isNaN_int.f a0).bind fun t259 => ((cmp_isNaN_int.f a1).bind fun t260 => (if t259 = true then (if t260 = true then (some 0) else (some (-1))) else (if t260 = true then (some 1) else (if a0 < a1 then (some (-1)) else (if a0 > a1 then (some 1) else (some 0))))))) = some r := h
 clear h
 replace H := oB.mp H
 obtain ⟨t259, A30, H⟩ := H
 replace H : ((cmp_isNaN_int.f a1).bind fun t260 => (if t259 = true then (if t260 = true then (some 0) else (some (-1))) else (if t260 = true then (some 1) else (if a0 < a1 then (some (-1)) else (if a0 > a1 then (some 1) else (some 0)))))) = some r := H
 have A3 := aM A30
 clear A30
 replace H := oB.mp H
 obtain ⟨t260, A40, H⟩ := H
 replace H : (if t259 = true then (if t260 = true then (some 0) else (some (-1))) else (if t260 = true then (some 1) else (if a0 < a1 then (some (-1)) else (if a0 > a1 then (some 1) else (some 0))))) = some r := H
 have A4 := aM A40
 clear A40
 by_cases c5 : t259 = true
 ·
  subst c5
  have H1 : (if t260 = true then (some 0) else (some (-1))) = some r := by rw [if_pos rfl] at H; exact H
  clear H
  have H := H1
  clear H1
  by_cases c6 : t260 = true
  ·
   subst c6
   have H1 : (some 0) = some r := by rw [if_pos rfl] at H; exact H
   clear H
   have H := H1
   clear H1
   obtain rfl := Option.some.inj H
   go_enter Tryd.func79, Tryd.ntmps79
   go_wp2_with (first | (refine yL 8 Tryd.func85 #[.int .i64 a0] ?_; (with_reducible refine (cmp_isNaN_int.calls a0 true _ A3.out).mono ?_); rintro e w' ⟨rfl, ⟨nd, rfl⟩⟩; refine ⟨_, rfl, ?_⟩) | (refine yL 10 Tryd.func85 #[.int .i64 a1] ?_; (with_reducible refine (cmp_isNaN_int.calls a1 true _ A4.out).mono ?_); rintro e w' ⟨rfl, ⟨nd, rfl⟩⟩; refine ⟨_, rfl, ?_⟩))
   go_ret
   exact ⟨by first | rfl | (simp; done) | (simp [*]; done), by repeat (first | exact Drawn0.refl _ | apply Drawn0.step)⟩
  ·
   replace c6 := Bool.eq_false_iff.mpr c6
   subst c6
   have H1 : (some (-1)) = some r := by rw [if_neg (show ¬ (false = true) by decide)] at H; exact H
   clear H
   have H := H1
   clear H1
   obtain rfl := Option.some.inj H
   go_enter Tryd.func79, Tryd.ntmps79
   go_wp2_with (first | (refine yL 8 Tryd.func85 #[.int .i64 a0] ?_; (with_reducible refine (cmp_isNaN_int.calls a0 true _ A3.out).mono ?_); rintro e w' ⟨rfl, ⟨nd, rfl⟩⟩; refine ⟨_, rfl, ?_⟩) | (refine yL 10 Tryd.func85 #[.int .i64 a1] ?_; (with_reducible refine (cmp_isNaN_int.calls a1 false _ A4.out).mono ?_); rintro e w' ⟨rfl, ⟨nd, rfl⟩⟩; refine ⟨_, rfl, ?_⟩))
   go_ret
   exact ⟨by first | rfl | (simp; done) | (simp [*]; done), by repeat (first | exact Drawn0.refl _ | apply Drawn0.step)⟩
 ·
  replace c5 := Bool.eq_false_iff.mpr c5
  subst c5
  have H1 : (if t260 = true then (some 1) else (if a0 < a1 then (some (-1)) else (if a0 > a1 then (some 1) else (some 0)))) = some r := by rw [if_neg (show ¬ (false = true) by decide)] at H; exact H
  clear H
  have H := H1
  clear H1
  by_cases c7 : t260 = true
  ·
   subst c7
   have H1 : (some 1) = some r := by rw [if_pos rfl] at H; exact H
   clear H
   have H := H1
   clear H1
   obtain rfl := Option.some.inj H
   go_enter Tryd.func79, Tryd.ntmps79
   go_wp2_with (first | (refine yL 8 Tryd.func85 #[.int .i64 a0] ?_; (with_reducible refine (cmp_isNaN_int.calls a0 false _ A3.out).mono ?_); rintro e w' ⟨rfl, ⟨nd, rfl⟩⟩; refine ⟨_, rfl, ?_⟩) | (refine yL 10 Tryd.func85 #[.int .i64 a1] ?_; (with_reducible refine (cmp_isNaN_int.calls a1 true _ A4.out).mono ?_); rintro e w' ⟨rfl, ⟨nd, rfl⟩⟩; refine ⟨_, rfl, ?_⟩))
   go_ret
   exact ⟨by first | rfl | (simp; done) | (simp [*]; done), by repeat (first | exact Drawn0.refl _ | apply Drawn0.step)⟩
  ·
   replace c7 := Bool.eq_false_iff.mpr c7
   subst c7
   have H1 : (if a0 < a1 then (some (-1)) else (if a0 > a1 then (some 1) else (some 0))) = some r := by rw [if_neg (show ¬ (false = true) by decide)] at H; exact H
   clear H
   have H := H1
   clear H1
   by_cases c8 : a0 < a1
   ·
    rw [if_pos c8] at H
    have c8b0 := decide_eq_true c8
    clear c8
    obtain rfl := Option.some.inj H
    go_enter Tryd.func79, Tryd.ntmps79
    go_wp2_with (first | (refine yL 8 Tryd.func85 #[.int .i64 a0] ?_; (with_reducible refine (cmp_isNaN_int.calls a0 false _ A3.out).mono ?_); rintro e w' ⟨rfl, ⟨nd, rfl⟩⟩; refine ⟨_, rfl, ?_⟩) | (refine yL 10 Tryd.func85 #[.int .i64 a1] ?_; (with_reducible refine (cmp_isNaN_int.calls a1 false _ A4.out).mono ?_); rintro e w' ⟨rfl, ⟨nd, rfl⟩⟩; refine ⟨_, rfl, ?_⟩))
    go_ret
    exact ⟨by first | rfl | (simp; done) | (simp [*]; done), by repeat (first | exact Drawn0.refl _ | apply Drawn0.step)⟩
   ·
    rw [if_neg c8] at H
    have c8b0 := decide_eq_false c8
    clear c8
    by_cases c9 : a0 > a1
    ·
     rw [if_pos c9] at H
     have c9b0 : decide (a1 < a0) = true := decide_eq_true c9
     clear c9
     obtain rfl := Option.some.inj H
     go_enter Tryd.func79, Tryd.ntmps79
     go_wp2_with (first | (refine yL 8 Tryd.func85 #[.int .i64 a0] ?_; (with_reducible refine (cmp_isNaN_int.calls a0 false _ A3.out).mono ?_); rintro e w' ⟨rfl, ⟨nd, rfl⟩⟩; refine ⟨_, rfl, ?_⟩) | (refine yL 10 Tryd.func85 #[.int .i64 a1] ?_; (with_reducible refine (cmp_isNaN_int.calls a1 false _ A4.out).mono ?_); rintro e w' ⟨rfl, ⟨nd, rfl⟩⟩; refine ⟨_, rfl, ?_⟩))
     go_ret
     exact ⟨by first | rfl | (simp; done) | (simp [*]; done), by repeat (first | exact Drawn0.refl _ | apply Drawn0.step)⟩
    ·
     rw [if_neg c9] at H
     have c9b0 : decide (a1 < a0) = false := decide_eq_false c9
     clear c9
     obtain rfl := Option.some.inj H
     go_enter Tryd.func79, Tryd.ntmps79
     go_wp2_with (first | (refine yL 8 Tryd.func85 #[.int .i64 a0] ?_; (with_reducible refine (cmp_isNaN_int.calls a0 false _ A3.out).mono ?_); rintro e w' ⟨rfl, ⟨nd, rfl⟩⟩; refine ⟨_, rfl, ?_⟩) | (refine yL 10 Tryd.func85 #[.int .i64 a1] ?_; (with_reducible refine (cmp_isNaN_int.calls a1 false _ A4.out).mono ?_); rintro e w' ⟨rfl, ⟨nd, rfl⟩⟩; refine ⟨_, rfl, ?_⟩))
     go_ret
     exact ⟨by first | rfl | (simp; done) | (simp [*]; done), by repeat (first | exact Drawn0.refl _ | apply Drawn0.step)⟩
end Go.Proofs.YtkgekmpnbhomgaaDoor.PFnVotes
