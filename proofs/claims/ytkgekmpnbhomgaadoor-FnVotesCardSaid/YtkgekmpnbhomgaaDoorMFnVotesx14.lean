-- Laid for this claim by a program of the session's own (wip/tool/myprint.py).
import Derived.Test.YtkgekmpnbhomgaaDoorMFnVotesx0
import Derived.Test.YtkgekmpnbhomgaaDoorMFnVotesx3
import Derived.Test.YtkgekmpnbhomgaaDoorMFnVotesx4
import Derived.Test.YtkgekmpnbhomgaaDoorMFnVotesx5
namespace Go.Proofs.YtkgekmpnbhomgaaDoor.PFnVotes
open Go.RowKit Go.Proofs.YtkgekmpnbhomgaaDoorW.PrintWords Go.Proofs.YtkgekmpnbhomgaaDoorW.PrintLast Go.Proofs.YtkgekmpnbhomgaaDoorW.PrintMore
attribute [local go_sem] max2_int min2_int max_two min_two max_three min_three max_four min_four
set_option linter.unusedVariables false
set_option maxHeartbeats 8000000
set_option maxRecDepth 100000
set_option linter.unusedSimpArgs false
def impl_IsStrong.l0 : Nat → Int → Int → List Int → Int → Option (Bool × Bool)
 | 0, _, _, _, _ => none
 | k + 1, x10, x11, x417000, x417001 => if x11 < x10 then ((impl_Vote_wins.f k x417000 x417001 x11).bind fun t419 => (if t419 = true then (impl_IsStrong.l0 k x10 (wrap64 (x11 + 1)) x417000 x417001) else ((impl_Vote_all.f x417000 x417001).bind fun t420 => ((impl_Vote_wins.f k x417000 x417001 (Go.bits .andNot .i64 t420 x11)).bind fun t421 => (if t421 = true then (impl_IsStrong.l0 k x10 (wrap64 (x11 + 1)) x417000 x417001) else (some (false, true))))))) else (some (true, true))
def impl_IsStrong.f (k : Nat) (l0_0 : List Int) (a0_1 : Int) : Option (Bool × Bool) := (impl_IsVote.f k l0_0 a0_1).bind fun t417 => (if t417 = true then ((impl_Vote_all.f l0_0 a0_1).bind fun t418 => (impl_IsStrong.l0 k (wrap64 (t418 + 1)) 0 l0_0 a0_1)) else (some (false, false)))
def impl_IsStrong.T6 : Bool × List (List Nat × List Nat) := (true, [([], []), ([], []), ([0, 1], [0, 1]), ([2], [2]), ([3, 2], [3]), ([4], [4]), ([4], [4]), ([6, 4, 4], [4, 6]), ([4], [4]), ([7, 8, 4], [4, 7, 8]), ([5, 9, 7, 4], [4, 5, 9]), ([10, 4], [4, 10]), ([4, 11], [4, 11])])
def impl_IsStrong.B6 : List Nat := [0, 0, 3, 7, 15, 31, 31, 95, 31, 479, 1023, 2047, 4095]
theorem impl_IsStrong.tab6 : rtab .any (opsOf Tryd.f21 6) = impl_IsStrong.T6 := by kernel_rfl
theorem impl_IsStrong.bits6 : waitsOk impl_IsStrong.T6.2 impl_IsStrong.B6 = true := by kernel_rfl
theorem impl_IsStrong.calls (k : Nat) (A0_0 : Option Addr) (c0_0 : Nat) (l0_0 : List Int) (a0_1 : Int) (r1 : Bool) (r2 : Bool) (w : World) (hr0_0 : Kd.C (Kd.int .i64) w A0_0 l0_0.length l0_0) (hc0_0 : l0_0.length ≤ c0_0) (h : impl_IsStrong.f k l0_0 a0_1 = some (r1, r2)) :
  Calls Tryd.prog 21 #[.agg #[.slice A0_0 l0_0.length c0_0, .int .i64 a0_1]] w fun e w' => e = .returned (.tuple #[.bool r1, .bool r2]) ∧ Below w.heap.size w w' := by
 have hu26 := Tryd.underlying26
 have HR0_0 := aM hr0_0
 have HC0_0 := aM hc0_0
 clear hr0_0 hc0_0
 have HB := aM (Below.refl w.heap.size w)
 have H : ((impl_IsVote.f k l0_0 a0_1).bind fun t417 => (if t417 = true then ((impl_Vote_all.f l0_0 a0_1).bind fun t418 => (impl_IsStrong.l0 k (wrap64 (t418 + 1)) 0 l0_0 a0_1)) else (some (false, false)))) = some (r1, r2) := h
 clear h
 replace H := oB.mp H
 obtain ⟨t417, A20, H⟩ := H
 replace H : (if t417 = true then ((impl_Vote_all.f l0_0 a0_1).bind fun t418 => (impl_IsStrong.l0 k (wrap64 (t418 + 1)) 0 l0_0 a0_1)) else (some (false, false))) = some (r1, r2) := H
 have A2 := aM A20
 clear A20
 by_cases c3 : t417 = true
 ·
  subst c3
  have H1 : ((impl_Vote_all.f l0_0 a0_1).bind fun t418 => (impl_IsStrong.l0 k (wrap64 (t418 + 1)) 0 l0_0 a0_1)) = some (r1, r2) := by rw [if_pos rfl] at H; exact H
  clear H
  have H := H1
  clear H1
  replace H := oB.mp H
  obtain ⟨t418, A40, H⟩ := H
  replace H : (impl_IsStrong.l0 k (wrap64 (t418 + 1)) 0 l0_0 a0_1) = some (r1, r2) := H
  have A4 := aM A40
  clear A40
  have H' := aM H
  clear H
  go_enter Tryd.func21, Tryd.ntmps21
  go_wp2_with (first | (refine yB 1 #[.slice A0_0 l0_0.length c0_0, .int .i64 a0_1] 26 ?_; intro gb416 hg w5 hbox hb; have BK416 := aM (hbox); have GW416 := yV0 hg HB; have GE416 := yV0 hg HB; replace HB := yS0 HB hb; clear hb hbox hg; obtain ⟨hcz6_0, hcz6_1, hfz6_0, hfz6_1⟩ := yD2 BK416) | (refine yL 6 Tryd.func10 #[.agg #[.slice A0_0 l0_0.length c0_0, .int .i64 a0_1]] ?_; (with_reducible refine (impl_IsVote.calls k _ _ l0_0 a0_1 true _ ?side1 ?side2 A2.out).mono ?_); (case side1 => exact xC (Kd.C_below HR0_0.out HB.out)); (case side2 => exact HC0_0.out); rintro e w7 ⟨rfl, hb⟩; refine ⟨_, rfl, ?_⟩; replace BK416 := yK BK416 hb; replace HB := yS1 HB GE416 hb; (try clear hb; try clear hb2; try clear hk; try clear hi); obtain ⟨hcz8_0, hcz8_1, hfz8_0, hfz8_1⟩ := yD2 BK416) | (refine yL 9 Tryd.func45 #[.agg #[.slice A0_0 l0_0.length c0_0, .int .i64 a0_1]] ?_; (with_reducible refine (impl_Vote_all.calls _ _ l0_0 a0_1 t418 _ ?side1 ?side2 A4.out).mono ?_); (case side1 => exact xC (Kd.C_below HR0_0.out HB.out)); (case side2 => exact HC0_0.out); rintro e w9 ⟨rfl, hb⟩; refine ⟨_, rfl, ?_⟩; replace BK416 := yK BK416 hb; replace HB := yS1 HB GE416 hb; (try clear hb; try clear hb2; try clear hk; try clear hi)))
  go_loopg [11] k (fun kq v11 w' => ∃ (x11_1 : Int), v11 = .int .i64 x11_1 ∧ Aside0 (impl_IsStrong.l0 kq (wrap64 (t418 + 1)) x11_1 l0_0 a0_1 = some (r1, r2)) ∧ Aside0 (kq ≤ k) ∧ Aside0 (w'.heap[gb416]? = some (.cells #[(.slice A0_0 l0_0.length c0_0), .int .i64 a0_1] 26 (0, 0))) ∧ Aside0 (Below w.heap.size w w'))
  case atStart => exact ⟨(0), yZ, H', ⟨Nat.le_refl _⟩, ⟨xB BK416.out⟩, ⟨xG1 HB.out GE416.out⟩⟩
  case round =>
   clear H'
   try clear c1; try clear c2; try clear p2; try clear c3; try clear c4; try clear p6; try clear hcz6_0; try clear hcz6_1; try clear hcz8_0; try clear hcz8_1; try clear hfz6_0; try clear hfz6_1; try clear hfz8_0; try clear hfz8_1
   obtain ⟨x11_1, rfl, HA, HK1, BK416, HB⟩ := hrel
   cases gk with
   | zero => exact absurd HA.out (by simp [impl_IsStrong.l0])
   | succ k1 =>
    have H := HA.out
    clear HA
    simp only [impl_IsStrong.l0] at H
    by_cases c10 : x11_1 < (wrap64 (t418 + 1))
    ·
     rw [if_pos c10] at H
     have c10b0 := decide_eq_true c10
     clear c10
     replace H := oB.mp H
     obtain ⟨t419, A110, H⟩ := H
     replace H : (if t419 = true then (impl_IsStrong.l0 k1 (wrap64 (t418 + 1)) (wrap64 (x11_1 + 1)) l0_0 a0_1) else ((impl_Vote_all.f l0_0 a0_1).bind fun t420 => ((impl_Vote_wins.f k1 l0_0 a0_1 (Go.bits .andNot .i64 t420 x11_1)).bind fun t421 => (if t421 = true then (impl_IsStrong.l0 k1 (wrap64 (t418 + 1)) (wrap64 (x11_1 + 1)) l0_0 a0_1) else (some (false, true)))))) = some (r1, r2) := H
     have A11 := aM A110
     clear A110
     by_cases c12 : t419 = true
     ·
      subst c12
      have H1 : (impl_IsStrong.l0 k1 (wrap64 (t418 + 1)) (wrap64 (x11_1 + 1)) l0_0 a0_1) = some (r1, r2) := by rw [if_pos rfl] at H; exact H
      clear H
      have H := H1
      clear H1
      have H' := aM H
      clear H
      try go_wp2
      replace BK416 := aM (bD BK416.out)
      replace HB := aM (eD HB.out)
      refine start_ (n := 13) (S := fun w' => w'.cell? ⟨gb416, 0, none⟩ = some (.slice A0_0 l0_0.length c0_0) ∧ w'.cell? ⟨gb416, 1, none⟩ = some (.int .i64 a0_1)) (ds := []) (bm 13 0) (by kernel_rfl) rfl rfl ⟨(bC BK416.out 0).trans rfl, (bC BK416.out 1).trans rfl⟩ (fun hHeld => ?_); refine with_tabW impl_IsStrong.tab6 impl_IsStrong.bits6 (fun HT_ HW_ => ?_)
      generalize wr.drew = w13 at BK416 HB hHeld ⊢
      refine yP 1 15 (bm 13 2) HT_ ?_
      refine yT2 0 14 (bm 13 3) HT_ HW_ hHeld ?_
      refine yO 2 16 (bm 13 7) HT_ (fun K hK => ?_)
      refine yG Tryd.func31 #[.agg #[.slice A0_0 l0_0.length c0_0, .int .i64 a0_1], .int .i64 x11_1] ?_
      with_reducible refine (impl_Vote_wins.calls k1 _ _ l0_0 a0_1 x11_1 true _ ?side1 ?side2 A11.out).mono ?_
      (case side1 => exact xC (Kd.C_below HR0_0.out HB.out))
      (case side2 => exact HC0_0.out)
      rintro e w14 ⟨rfl, hb⟩
      refine ⟨_, rfl, ?_⟩
      replace BK416 := yK BK416 hb
      replace HB := yS1 HB GE416 hb
      (try clear hb)
      (try clear hb2)
      (try clear hk)
      (try clear hi)
      refine hK.out _ _ ⟨(bC BK416.out 0).trans rfl, (bC BK416.out 1).trans rfl⟩ (fun hHeld => ?_)
      clear hK K
      refine norm_ (a' := ?_) ?_ ?_
      rotate_left
      ·
       show Act.put _ (some 16) _ = _
       simp only [Act.put, sA, sZ, sU, i64_w, i32_w]
       rfl
      refine yP 3 17 (bm 13 15) HT_ ?_
      refine yP 4 18 (bm 13 31) HT_ ?_
      refine yU 5 19 (bm 13 63) HT_ ?_
      refine yU 6 20 (bm 13 127) HT_ ?_
      refine yU 7 21 (bm 13 255) HT_ ?_
      refine yU 8 22 (bm 13 511) HT_ ?_
      refine yU 9 23 (bm 13 1023) HT_ ?_
      refine yU 10 24 (bm 13 2047) HT_ ?_
      refine yU 11 25 (bm 13 4095) HT_ ?_
      refine yP 12 26 (bm 13 8191) HT_ ?_
      refine done_ (done_of HT_.out (by kernel_rfl)) ?_
      try go_wp2
      go_roundg k1
      case measure => have := HK1.out; omega
      case rel => exact ⟨(wrap64 (x11_1 + 1)), yZ, H', ⟨by have := HK1.out; omega⟩, ⟨xB BK416.out⟩, ⟨xG1 HB.out GE416.out⟩⟩
     ·
      replace c12 := Bool.eq_false_iff.mpr c12
      subst c12
      have H1 : ((impl_Vote_all.f l0_0 a0_1).bind fun t420 => ((impl_Vote_wins.f k1 l0_0 a0_1 (Go.bits .andNot .i64 t420 x11_1)).bind fun t421 => (if t421 = true then (impl_IsStrong.l0 k1 (wrap64 (t418 + 1)) (wrap64 (x11_1 + 1)) l0_0 a0_1) else (some (false, true))))) = some (r1, r2) := by rw [if_neg (show ¬ (false = true) by decide)] at H; exact H
      clear H
      have H := H1
      clear H1
      replace H := oB.mp H
      obtain ⟨t420, A150, H⟩ := H
      replace H : ((impl_Vote_wins.f k1 l0_0 a0_1 (Go.bits .andNot .i64 t420 x11_1)).bind fun t421 => (if t421 = true then (impl_IsStrong.l0 k1 (wrap64 (t418 + 1)) (wrap64 (x11_1 + 1)) l0_0 a0_1) else (some (false, true)))) = some (r1, r2) := H
      have A15 := aM A150
      clear A150
      replace H := oB.mp H
      obtain ⟨t421, A160, H⟩ := H
      replace H : (if t421 = true then (impl_IsStrong.l0 k1 (wrap64 (t418 + 1)) (wrap64 (x11_1 + 1)) l0_0 a0_1) else (some (false, true))) = some (r1, r2) := H
      have A16 := aM A160
      clear A160
      by_cases c17 : t421 = true
      ·
       subst c17
       have H1 : (impl_IsStrong.l0 k1 (wrap64 (t418 + 1)) (wrap64 (x11_1 + 1)) l0_0 a0_1) = some (r1, r2) := by rw [if_pos rfl] at H; exact H
       clear H
       have H := H1
       clear H1
       have H' := aM H
       clear H
       try go_wp2
       replace BK416 := aM (bD BK416.out)
       replace HB := aM (eD HB.out)
       refine start_ (n := 13) (S := fun w' => w'.cell? ⟨gb416, 0, none⟩ = some (.slice A0_0 l0_0.length c0_0) ∧ w'.cell? ⟨gb416, 1, none⟩ = some (.int .i64 a0_1)) (ds := []) (bm 13 0) (by kernel_rfl) rfl rfl ⟨(bC BK416.out 0).trans rfl, (bC BK416.out 1).trans rfl⟩ (fun hHeld => ?_); refine with_tabW impl_IsStrong.tab6 impl_IsStrong.bits6 (fun HT_ HW_ => ?_)
       generalize wr.drew = w18 at BK416 HB hHeld ⊢
       refine yP 1 15 (bm 13 2) HT_ ?_
       refine yT2 0 14 (bm 13 3) HT_ HW_ hHeld ?_
       refine yO 2 16 (bm 13 7) HT_ (fun K hK => ?_)
       refine yG Tryd.func31 #[.agg #[.slice A0_0 l0_0.length c0_0, .int .i64 a0_1], .int .i64 x11_1] ?_
       with_reducible refine (impl_Vote_wins.calls k1 _ _ l0_0 a0_1 x11_1 false _ ?side1 ?side2 A11.out).mono ?_
       (case side1 => exact xC (Kd.C_below HR0_0.out HB.out))
       (case side2 => exact HC0_0.out)
       rintro e w19 ⟨rfl, hb⟩
       refine ⟨_, rfl, ?_⟩
       replace BK416 := yK BK416 hb
       replace HB := yS1 HB GE416 hb
       (try clear hb)
       (try clear hb2)
       (try clear hk)
       (try clear hi)
       refine hK.out _ _ ⟨(bC BK416.out 0).trans rfl, (bC BK416.out 1).trans rfl⟩ (fun hHeld => ?_)
       clear hK K
       refine norm_ (a' := ?_) ?_ ?_
       rotate_left
       ·
        show Act.put _ (some 16) _ = _
        simp only [Act.put, sA, sZ, sU, i64_w, i32_w]
        rfl
       refine yP 3 17 (bm 13 15) HT_ ?_
       refine yP 4 18 (bm 13 31) HT_ ?_
       refine yP 8 22 (bm 13 287) HT_ ?_
       refine yT2 5 19 (bm 13 319) HT_ HW_ hHeld ?_
       refine yT2 6 20 (bm 13 383) HT_ HW_ hHeld ?_
       refine yO 7 21 (bm 13 511) HT_ (fun K hK => ?_)
       refine yG Tryd.func45 #[.agg #[.slice A0_0 l0_0.length c0_0, .int .i64 a0_1]] ?_
       with_reducible refine (impl_Vote_all.calls _ _ l0_0 a0_1 t420 _ ?side1 ?side2 A15.out).mono ?_
       (case side1 => exact xC (Kd.C_below HR0_0.out HB.out))
       (case side2 => exact HC0_0.out)
       rintro e w20 ⟨rfl, hb⟩
       refine ⟨_, rfl, ?_⟩
       replace BK416 := yK BK416 hb
       replace HB := yS1 HB GE416 hb
       (try clear hb)
       (try clear hb2)
       (try clear hk)
       (try clear hi)
       refine hK.out _ _ ⟨(bC BK416.out 0).trans rfl, (bC BK416.out 1).trans rfl⟩ (fun hHeld => ?_)
       clear hK K
       refine norm_ (a' := ?_) ?_ ?_
       rotate_left
       ·
        show Act.put _ (some 21) _ = _
        simp only [Act.put, sA, sZ, sU, i64_w, i32_w]
        rfl
       refine yP 9 23 (bm 13 1023) HT_ ?_
       refine yO 10 24 (bm 13 2047) HT_ (fun K hK => ?_)
       refine yG Tryd.func31 #[.agg #[.slice A0_0 l0_0.length c0_0, .int .i64 a0_1], .int .i64 (Go.bits .andNot .i64 t420 x11_1)] ?_
       with_reducible refine (impl_Vote_wins.calls k1 _ _ l0_0 a0_1 (Go.bits .andNot .i64 t420 x11_1) true _ ?side1 ?side2 A16.out).mono ?_
       (case side1 => exact xC (Kd.C_below HR0_0.out HB.out))
       (case side2 => exact HC0_0.out)
       rintro e w21 ⟨rfl, hb⟩
       refine ⟨_, rfl, ?_⟩
       replace BK416 := yK BK416 hb
       replace HB := yS1 HB GE416 hb
       (try clear hb)
       (try clear hb2)
       (try clear hk)
       (try clear hi)
       refine hK.out _ _ ⟨(bC BK416.out 0).trans rfl, (bC BK416.out 1).trans rfl⟩ (fun hHeld => ?_)
       clear hK K
       refine norm_ (a' := ?_) ?_ ?_
       rotate_left
       ·
        show Act.put _ (some 24) _ = _
        simp only [Act.put, sA, sZ, sU, i64_w, i32_w]
        rfl
       refine yP 11 25 (bm 13 4095) HT_ ?_
       refine yP 12 26 (bm 13 8191) HT_ ?_
       refine done_ (done_of HT_.out (by kernel_rfl)) ?_
       try go_wp2
       go_roundg k1
       case measure => have := HK1.out; omega
       case rel => exact ⟨(wrap64 (x11_1 + 1)), yZ, H', ⟨by have := HK1.out; omega⟩, ⟨xB BK416.out⟩, ⟨xG1 HB.out GE416.out⟩⟩
      ·
       replace c17 := Bool.eq_false_iff.mpr c17
       subst c17
       have H1 : (some (false, true)) = some (r1, r2) := by rw [if_neg (show ¬ (false = true) by decide)] at H; exact H
       clear H
       have H := H1
       clear H1
       simp only [Option.some.injEq, Prod.mk.injEq] at H
       obtain ⟨rfl, rfl⟩ := H
       try go_wp2
       replace BK416 := aM (bD BK416.out)
       replace HB := aM (eD HB.out)
       refine start_ (n := 13) (S := fun w' => w'.cell? ⟨gb416, 0, none⟩ = some (.slice A0_0 l0_0.length c0_0) ∧ w'.cell? ⟨gb416, 1, none⟩ = some (.int .i64 a0_1)) (ds := []) (bm 13 0) (by kernel_rfl) rfl rfl ⟨(bC BK416.out 0).trans rfl, (bC BK416.out 1).trans rfl⟩ (fun hHeld => ?_); refine with_tabW impl_IsStrong.tab6 impl_IsStrong.bits6 (fun HT_ HW_ => ?_)
       generalize wr.drew = w22 at BK416 HB hHeld ⊢
       refine yP 1 15 (bm 13 2) HT_ ?_
       refine yT2 0 14 (bm 13 3) HT_ HW_ hHeld ?_
       refine yO 2 16 (bm 13 7) HT_ (fun K hK => ?_)
       refine yG Tryd.func31 #[.agg #[.slice A0_0 l0_0.length c0_0, .int .i64 a0_1], .int .i64 x11_1] ?_
       with_reducible refine (impl_Vote_wins.calls k1 _ _ l0_0 a0_1 x11_1 false _ ?side1 ?side2 A11.out).mono ?_
       (case side1 => exact xC (Kd.C_below HR0_0.out HB.out))
       (case side2 => exact HC0_0.out)
       rintro e w23 ⟨rfl, hb⟩
       refine ⟨_, rfl, ?_⟩
       replace BK416 := yK BK416 hb
       replace HB := yS1 HB GE416 hb
       (try clear hb)
       (try clear hb2)
       (try clear hk)
       (try clear hi)
       refine hK.out _ _ ⟨(bC BK416.out 0).trans rfl, (bC BK416.out 1).trans rfl⟩ (fun hHeld => ?_)
       clear hK K
       refine norm_ (a' := ?_) ?_ ?_
       rotate_left
       ·
        show Act.put _ (some 16) _ = _
        simp only [Act.put, sA, sZ, sU, i64_w, i32_w]
        rfl
       refine yP 3 17 (bm 13 15) HT_ ?_
       refine yP 4 18 (bm 13 31) HT_ ?_
       refine yP 8 22 (bm 13 287) HT_ ?_
       refine yT2 5 19 (bm 13 319) HT_ HW_ hHeld ?_
       refine yT2 6 20 (bm 13 383) HT_ HW_ hHeld ?_
       refine yO 7 21 (bm 13 511) HT_ (fun K hK => ?_)
       refine yG Tryd.func45 #[.agg #[.slice A0_0 l0_0.length c0_0, .int .i64 a0_1]] ?_
       with_reducible refine (impl_Vote_all.calls _ _ l0_0 a0_1 t420 _ ?side1 ?side2 A15.out).mono ?_
       (case side1 => exact xC (Kd.C_below HR0_0.out HB.out))
       (case side2 => exact HC0_0.out)
       rintro e w24 ⟨rfl, hb⟩
       refine ⟨_, rfl, ?_⟩
       replace BK416 := yK BK416 hb
       replace HB := yS1 HB GE416 hb
       (try clear hb)
       (try clear hb2)
       (try clear hk)
       (try clear hi)
       refine hK.out _ _ ⟨(bC BK416.out 0).trans rfl, (bC BK416.out 1).trans rfl⟩ (fun hHeld => ?_)
       clear hK K
       refine norm_ (a' := ?_) ?_ ?_
       rotate_left
       ·
        show Act.put _ (some 21) _ = _
        simp only [Act.put, sA, sZ, sU, i64_w, i32_w]
        rfl
       refine yP 9 23 (bm 13 1023) HT_ ?_
       refine yO 10 24 (bm 13 2047) HT_ (fun K hK => ?_)
       refine yG Tryd.func31 #[.agg #[.slice A0_0 l0_0.length c0_0, .int .i64 a0_1], .int .i64 (Go.bits .andNot .i64 t420 x11_1)] ?_
       with_reducible refine (impl_Vote_wins.calls k1 _ _ l0_0 a0_1 (Go.bits .andNot .i64 t420 x11_1) false _ ?side1 ?side2 A16.out).mono ?_
       (case side1 => exact xC (Kd.C_below HR0_0.out HB.out))
       (case side2 => exact HC0_0.out)
       rintro e w25 ⟨rfl, hb⟩
       refine ⟨_, rfl, ?_⟩
       replace BK416 := yK BK416 hb
       replace HB := yS1 HB GE416 hb
       (try clear hb)
       (try clear hb2)
       (try clear hk)
       (try clear hi)
       refine hK.out _ _ ⟨(bC BK416.out 0).trans rfl, (bC BK416.out 1).trans rfl⟩ (fun hHeld => ?_)
       clear hK K
       refine norm_ (a' := ?_) ?_ ?_
       rotate_left
       ·
        show Act.put _ (some 24) _ = _
        simp only [Act.put, sA, sZ, sU, i64_w, i32_w]
        rfl
       refine yP 11 25 (bm 13 4095) HT_ ?_
       refine yP 12 26 (bm 13 8191) HT_ ?_
       refine done_ (done_of HT_.out (by kernel_rfl)) ?_
       try go_wp2
       go_ret2
       exact ⟨yF, xG1 HB.out GE416.out⟩
    ·
     rw [if_neg c10] at H
     have c10b0 := decide_eq_false c10
     clear c10
     simp only [Option.some.injEq, Prod.mk.injEq] at H
     obtain ⟨rfl, rfl⟩ := H
     go_wp2
     go_ret2
     exact ⟨yF, xG1 HB.out GE416.out⟩
 ·
  replace c3 := Bool.eq_false_iff.mpr c3
  subst c3
  have H1 : (some (false, false)) = some (r1, r2) := by rw [if_neg (show ¬ (false = true) by decide)] at H; exact H
  clear H
  have H := H1
  clear H1
  simp only [Option.some.injEq, Prod.mk.injEq] at H
  obtain ⟨rfl, rfl⟩ := H
  go_enter Tryd.func21, Tryd.ntmps21
  go_wp2_with (first | (refine yB 1 #[.slice A0_0 l0_0.length c0_0, .int .i64 a0_1] 26 ?_; intro gb416 hg w26 hbox hb; have BK416 := aM (hbox); have GW416 := yV0 hg HB; have GE416 := yV0 hg HB; replace HB := yS0 HB hb; clear hb hbox hg; obtain ⟨hcz27_0, hcz27_1, hfz27_0, hfz27_1⟩ := yD2 BK416) | (refine yL 6 Tryd.func10 #[.agg #[.slice A0_0 l0_0.length c0_0, .int .i64 a0_1]] ?_; (with_reducible refine (impl_IsVote.calls k _ _ l0_0 a0_1 false _ ?side1 ?side2 A2.out).mono ?_); (case side1 => exact xC (Kd.C_below HR0_0.out HB.out)); (case side2 => exact HC0_0.out); rintro e w28 ⟨rfl, hb⟩; refine ⟨_, rfl, ?_⟩; replace BK416 := yK BK416 hb; replace HB := yS1 HB GE416 hb; (try clear hb; try clear hb2; try clear hk; try clear hi)))
  go_ret2
  exact ⟨yF, xG1 HB.out GE416.out⟩
def spec_IsStrong.l0 : Nat → List Bool → Int → Option (Bool × Bool)
 | 0, _, _ => none
 | k + 1, x4, x5 => if x5 < (x4.length : Int) then (if 0 ≤ x5 then (if rdOf false x4 x5 = true then (spec_IsStrong.l0 k x4 (wrap64 (x5 + 1))) else (if 0 ≤ (wrap64 ((wrap64 ((x4.length : Int) - 1)) - x5)) then (if (wrap64 ((wrap64 ((x4.length : Int) - 1)) - x5)) < (x4.length : Int) then (if (rdOf false x4 (wrap64 ((wrap64 ((x4.length : Int) - 1)) - x5)) = true) then (spec_IsStrong.l0 k x4 (wrap64 (x5 + 1))) else (some (false, true))) else (none)) else (none))) else (none)) else (some (true, true))
def spec_IsStrong.f (k : Nat) (l0_0 : List Int) (a0_1 : Int) : Option (Bool × Bool) := (spec_l6Vote.f k l0_0 a0_1).bind fun t423 => (if t423 = true then ((spec_l6Wins.f k l0_0 a0_1).bind fun t424 => (spec_IsStrong.l0 k t424 0)) else (some (false, false)))
theorem spec_IsStrong.calls (k : Nat) (A0_0 : Option Addr) (c0_0 : Nat) (l0_0 : List Int) (a0_1 : Int) (r1 : Bool) (r2 : Bool) (w : World) (hr0_0 : Kd.C (Kd.int .i64) w A0_0 l0_0.length l0_0) (hc0_0 : l0_0.length ≤ c0_0) (h : spec_IsStrong.f k l0_0 a0_1 = some (r1, r2)) :
  Calls Tryd.prog 22 #[.agg #[.slice A0_0 l0_0.length c0_0, .int .i64 a0_1]] w fun e w' => e = .returned (.tuple #[.bool r1, .bool r2]) ∧ Below w.heap.size w w' := by
 have hu26 := Tryd.underlying26
 have HR0_0 := aM hr0_0
 have HC0_0 := aM hc0_0
 clear hr0_0 hc0_0
 have HB := aM (Below.refl w.heap.size w)
 have H : ((spec_l6Vote.f k l0_0 a0_1).bind fun t423 => (if t423 = true then ((spec_l6Wins.f k l0_0 a0_1).bind fun t424 => (spec_IsStrong.l0 k t424 0)) else (some (false, false)))) = some (r1, r2) := h
 clear h
 replace H := oB.mp H
 obtain ⟨t423, A20, H⟩ := H
 replace H : (if t423 = true then ((spec_l6Wins.f k l0_0 a0_1).bind fun t424 => (spec_IsStrong.l0 k t424 0)) else (some (false, false))) = some (r1, r2) := H
 have A2 := aM A20
 clear A20
 by_cases c3 : t423 = true
 ·
  subst c3
  have H1 : ((spec_l6Wins.f k l0_0 a0_1).bind fun t424 => (spec_IsStrong.l0 k t424 0)) = some (r1, r2) := by rw [if_pos rfl] at H; exact H
  clear H
  have H := H1
  clear H1
  replace H := oB.mp H
  obtain ⟨t424, A40, H⟩ := H
  replace H : (spec_IsStrong.l0 k t424 0) = some (r1, r2) := H
  have A4 := aM A40
  clear A40
  have H' := aM H
  clear H
  go_enter Tryd.func22, Tryd.ntmps22
  go_wp2_with (first | ((with_reducible refine gate_dst (N := 1) rfl ?_); (try (refine gate_guard (by rfl) ?_; dsimp only)); refine yB 1 #[.slice A0_0 l0_0.length c0_0, .int .i64 a0_1] 26 ?_; intro gb422 hg w5 hbox hb; have BK422 := aM (hbox); have GW422 := yV0 hg HB; have GE422 := yV0 hg HB; replace HB := yS0 HB hb; clear hb hbox hg; obtain ⟨hcz6_0, hcz6_1, hfz6_0, hfz6_1⟩ := yD2 BK422) | (refine yL 7 Tryd.func38 #[.agg #[.slice A0_0 l0_0.length c0_0, .int .i64 a0_1]] ?_; (with_reducible refine (spec_l6Vote.calls k _ _ l0_0 a0_1 true _ ?side1 ?side2 A2.out).mono ?_); (case side1 => exact xC (Kd.C_below HR0_0.out HB.out)); (case side2 => exact HC0_0.out); rintro e w7 ⟨rfl, hb⟩; refine ⟨_, rfl, ?_⟩; replace BK422 := yK BK422 hb; replace HB := yS1 HB GE422 hb; (try clear hb; try clear hb2; try clear hk; try clear hi); obtain ⟨hcz8_0, hcz8_1, hfz8_0, hfz8_1⟩ := yD2 BK422) | (refine yL 10 Tryd.func34 #[.agg #[.slice A0_0 l0_0.length c0_0, .int .i64 a0_1]] ?_; (with_reducible refine (spec_l6Wins.calls k _ _ l0_0 a0_1 t424 _ ?side1 ?side2 A4.out).mono ?_); (case side1 => exact xC (Kd.C_below HR0_0.out HB.out)); (case side2 => exact HC0_0.out); rintro e w9 ⟨v425, rfl, ho0, hb⟩; refine ⟨_, rfl, ?_⟩; have HO426 := aM (Kd.R_lower ho0 (below_size (xG1 HB.out GE422.out))); replace BK422 := yK BK422 hb; replace HB := yS1 HB GE422 hb; (try clear hb; try clear hb2; try clear hk; try clear hi; try clear ho0)))
  go_loopg [5] k (fun kq v5 w' => ∃ (x5_1 : Int), v5 = .int .i64 x5_1 ∧ Aside0 (spec_IsStrong.l0 kq t424 x5_1 = some (r1, r2)) ∧ Aside0 (kq ≤ k) ∧ Aside0 (Kd.R Kd.bool 4 w' w.heap.size (fun _ => True) v425 t424) ∧ Aside0 (w'.heap[gb422]? = some (.cells #[(.slice A0_0 l0_0.length c0_0), .int .i64 a0_1] 26 (0, 0))) ∧ Aside0 (Below w.heap.size w w'))
  case atStart => exact ⟨(0), yZ, H', ⟨Nat.le_refl _⟩, ⟨xR HO426.out⟩, ⟨xB BK422.out⟩, ⟨xG1 HB.out GE422.out⟩⟩
  case round =>
   clear H'
   try clear c2; try clear p2; try clear c3; try clear hcz6_0; try clear hcz6_1; try clear hcz8_0; try clear hcz8_1; try clear hfz6_0; try clear hfz6_1; try clear hfz8_0; try clear hfz8_1
   obtain ⟨x5_1, rfl, HA, HK1, HO_4, BK422, HB⟩ := hrel
   cases gk with
   | zero => exact absurd HA.out (by simp [spec_IsStrong.l0])
   | succ k1 =>
    have H := HA.out
    clear HA
    simp only [spec_IsStrong.l0] at H
    by_cases c10 : x5_1 < (t424.length : Int)
    ·
     rw [if_pos c10] at H
     have c10b0 := decide_eq_true c10
     clear c10
     by_cases c11 : 0 ≤ x5_1
     ·
      rw [if_pos c11] at H
      have c11b0 := decide_eq_true c11
      clear c11
      obtain ⟨bq12, hbq12⟩ : ∃ b_ : Bool, b_ = (rdOf false t424 x5_1) := ⟨_, rfl⟩
      replace H : (if bq12 = true then (spec_IsStrong.l0 k1 t424 (wrap64 (x5_1 + 1))) else (if 0 ≤ (wrap64 ((wrap64 ((t424.length : Int) - 1)) - x5_1)) then (if (wrap64 ((wrap64 ((t424.length : Int) - 1)) - x5_1)) < (t424.length : Int) then (if (rdOf false t424 (wrap64 ((wrap64 ((t424.length : Int) - 1)) - x5_1)) = true) then (spec_IsStrong.l0 k1 t424 (wrap64 (x5_1 + 1))) else (some (false, true))) else (none)) else (none))) = some (r1, r2) := by rw [← hbq12] at H; exact H
      have Nbq12 := aM hbq12
      clear hbq12
      by_cases c13 : bq12 = true
      ·
       subst c13
       have H1 : (spec_IsStrong.l0 k1 t424 (wrap64 (x5_1 + 1))) = some (r1, r2) := by rw [if_pos rfl] at H; exact H
       clear H
       have H := H1
       clear H1
       have H' := aM H
       clear H
       obtain ⟨Ao14, co14, eo14⟩ := Kd.R_slice HO_4.out
       subst eo14
       have p427 : 0 ≤ (x5_1 : Int) := yA
       have q427 : x5_1 < (t424.length : Int) := yA
       obtain ⟨ad427, e427, hx427_0⟩ := Kd.at_bool (Kd.R_reads' HO_4.out).2.2 x5_1 p427 q427
       (try rw [← Nbq12.out] at hx427_0)
       cases e427
       replace p427 := eq_true p427
       replace q427 := eq_true q427
       go_wp2
       go_roundg k1
       case measure => have := HK1.out; omega
       case rel => exact ⟨(wrap64 (x5_1 + 1)), yZ, H', ⟨by have := HK1.out; omega⟩, ⟨xR HO_4.out⟩, ⟨xB BK422.out⟩, ⟨xG1 HB.out GE422.out⟩⟩
      ·
       replace c13 := Bool.eq_false_iff.mpr c13
       subst c13
       have H1 : (if 0 ≤ (wrap64 ((wrap64 ((t424.length : Int) - 1)) - x5_1)) then (if (wrap64 ((wrap64 ((t424.length : Int) - 1)) - x5_1)) < (t424.length : Int) then (if (rdOf false t424 (wrap64 ((wrap64 ((t424.length : Int) - 1)) - x5_1)) = true) then (spec_IsStrong.l0 k1 t424 (wrap64 (x5_1 + 1))) else (some (false, true))) else (none)) else (none)) = some (r1, r2) := by rw [if_neg (show ¬ (false = true) by decide)] at H; exact H
       clear H
       have H := H1
       clear H1
       obtain ⟨ji15, hji15⟩ := yJ ((wrap64 ((wrap64 ((t424.length : Int) - 1)) - x5_1)))
       replace H : (if 0 ≤ (ji15) then (if (ji15) < (t424.length : Int) then (if (rdOf false t424 (ji15) = true) then (spec_IsStrong.l0 k1 t424 (wrap64 (x5_1 + 1))) else (some (false, true))) else (none)) else (none)) = some (r1, r2) := by first | (rw [hji15] at H; exact H) | (simp only [hji15] at H ⊢; exact H)
       have hji15w : (IntKind.i64.wrap ((wrap64 ((t424.length : Int) - 1)) - x5_1)) = ji15 := (i64_w _).trans hji15
       by_cases c16 : 0 ≤ (ji15)
       ·
        rw [if_pos c16] at H
        have c16b0 := decide_eq_true c16
        clear c16
        by_cases c17 : (ji15) < (t424.length : Int)
        ·
         rw [if_pos c17] at H
         have c17b0 := decide_eq_true c17
         clear c17
         obtain ⟨bq18, hbq18⟩ : ∃ b_ : Bool, b_ = (rdOf false t424 (ji15)) := ⟨_, rfl⟩
         replace H : (if (bq18 = true) then (spec_IsStrong.l0 k1 t424 (wrap64 (x5_1 + 1))) else (some (false, true))) = some (r1, r2) := by rw [← hbq18] at H; exact H
         have Nbq18 := aM hbq18
         clear hbq18
         by_cases c19 : (bq18 = true)
         ·
          subst c19
          have H1 : (spec_IsStrong.l0 k1 t424 (wrap64 (x5_1 + 1))) = some (r1, r2) := by rw [if_pos rfl] at H; exact H
          clear H
          have H := H1
          clear H1
          have H' := aM H
          clear H
          obtain ⟨Ao20, co20, eo20⟩ := Kd.R_slice HO_4.out
          subst eo20
          have p427 : 0 ≤ (x5_1 : Int) := yA
          have q427 : x5_1 < (t424.length : Int) := yA
          obtain ⟨ad427, e427, hx427_0⟩ := Kd.at_bool (Kd.R_reads' HO_4.out).2.2 x5_1 p427 q427
          (try rw [← Nbq12.out] at hx427_0)
          (try rw [← Nbq18.out] at hx427_0)
          cases e427
          replace p427 := eq_true p427
          replace q427 := eq_true q427
          have p428 : 0 ≤ ((ji15) : Int) := yA
          have q428 : (ji15) < (t424.length : Int) := yA
          obtain ⟨ad428, e428, hx428_0⟩ := Kd.at_bool (Kd.R_reads' HO_4.out).2.2 (ji15) p428 q428
          (try rw [← Nbq12.out] at hx428_0)
          (try rw [← Nbq18.out] at hx428_0)
          obtain rfl : ad427 = ad428 := (by injection e428)
          replace p428 := eq_true p428
          replace q428 := eq_true q428
          go_wp2
          go_roundg k1
          case measure => have := HK1.out; omega
          case rel => exact ⟨(wrap64 (x5_1 + 1)), yZ, H', ⟨by have := HK1.out; omega⟩, ⟨xR HO_4.out⟩, ⟨xB BK422.out⟩, ⟨xG1 HB.out GE422.out⟩⟩
         ·
          replace c19 := Bool.eq_false_iff.mpr c19
          subst c19
          have H1 : (some (false, true)) = some (r1, r2) := by rw [if_neg (show ¬ (false = true) by decide)] at H; exact H
          clear H
          have H := H1
          clear H1
          simp only [Option.some.injEq, Prod.mk.injEq] at H
          obtain ⟨rfl, rfl⟩ := H
          obtain ⟨Ao21, co21, eo21⟩ := Kd.R_slice HO_4.out
          subst eo21
          have p427 : 0 ≤ (x5_1 : Int) := yA
          have q427 : x5_1 < (t424.length : Int) := yA
          obtain ⟨ad427, e427, hx427_0⟩ := Kd.at_bool (Kd.R_reads' HO_4.out).2.2 x5_1 p427 q427
          (try rw [← Nbq12.out] at hx427_0)
          (try rw [← Nbq18.out] at hx427_0)
          cases e427
          replace p427 := eq_true p427
          replace q427 := eq_true q427
          have p428 : 0 ≤ ((ji15) : Int) := yA
          have q428 : (ji15) < (t424.length : Int) := yA
          obtain ⟨ad428, e428, hx428_0⟩ := Kd.at_bool (Kd.R_reads' HO_4.out).2.2 (ji15) p428 q428
          (try rw [← Nbq12.out] at hx428_0)
          (try rw [← Nbq18.out] at hx428_0)
          obtain rfl : ad427 = ad428 := (by injection e428)
          replace p428 := eq_true p428
          replace q428 := eq_true q428
          go_wp2
          go_ret2
          exact ⟨by first | rfl | (simp [errW_none, errW_some] <;> rfl) | (simp only [← hji15]; first | rfl | (simp [errW_none, errW_some] <;> rfl)) | (simp [*, errW_none, errW_some] <;> rfl), xG1 HB.out GE422.out⟩
        ·
         rw [if_neg c17] at H
         exact absurd H (by simp)
       ·
        rw [if_neg c16] at H
        exact absurd H (by simp)
     ·
      rw [if_neg c11] at H
      exact absurd H (by simp)
    ·
     rw [if_neg c10] at H
     have c10b0 := decide_eq_false c10
     clear c10
     simp only [Option.some.injEq, Prod.mk.injEq] at H
     obtain ⟨rfl, rfl⟩ := H
     obtain ⟨Ao22, co22, eo22⟩ := Kd.R_slice HO_4.out
     subst eo22
     go_wp2
     go_ret2
     exact ⟨yF, xG1 HB.out GE422.out⟩
 ·
  replace c3 := Bool.eq_false_iff.mpr c3
  subst c3
  have H1 : (some (false, false)) = some (r1, r2) := by rw [if_neg (show ¬ (false = true) by decide)] at H; exact H
  clear H
  have H := H1
  clear H1
  simp only [Option.some.injEq, Prod.mk.injEq] at H
  obtain ⟨rfl, rfl⟩ := H
  go_enter Tryd.func22, Tryd.ntmps22
  go_wp2_with (first | ((with_reducible refine gate_dst (N := 1) rfl ?_); (try (refine gate_guard (by rfl) ?_; dsimp only)); refine yB 1 #[.slice A0_0 l0_0.length c0_0, .int .i64 a0_1] 26 ?_; intro gb422 hg w23 hbox hb; have BK422 := aM (hbox); have GW422 := yV0 hg HB; have GE422 := yV0 hg HB; replace HB := yS0 HB hb; clear hb hbox hg; obtain ⟨hcz24_0, hcz24_1, hfz24_0, hfz24_1⟩ := yD2 BK422) | (refine yL 7 Tryd.func38 #[.agg #[.slice A0_0 l0_0.length c0_0, .int .i64 a0_1]] ?_; (with_reducible refine (spec_l6Vote.calls k _ _ l0_0 a0_1 false _ ?side1 ?side2 A2.out).mono ?_); (case side1 => exact xC (Kd.C_below HR0_0.out HB.out)); (case side2 => exact HC0_0.out); rintro e w25 ⟨rfl, hb⟩; refine ⟨_, rfl, ?_⟩; replace BK422 := yK BK422 hb; replace HB := yS1 HB GE422 hb; (try clear hb; try clear hb2; try clear hk; try clear hi)))
  go_ret2
  exact ⟨yF, xG1 HB.out GE422.out⟩
end Go.Proofs.YtkgekmpnbhomgaaDoor.PFnVotes
