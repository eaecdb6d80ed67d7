-- Laid for this claim by a program of the session's own (wip/tool/myprint.py).
import Derived.Test.YtkgekmpnbhomgaaDoorMFnVotesx0
import Derived.Test.YtkgekmpnbhomgaaDoorMFnVotesx3
import Derived.Test.YtkgekmpnbhomgaaDoorMFnVotesx4
import Derived.Test.YtkgekmpnbhomgaaDoorMFnVotesx5
namespace Go.Proofs.YtkgekmpnbhomgaaDoor.PFnVotes
open Go.RowKit Go.Proofs.YtkgekmpnbhomgaaDoorW.PrintWords Go.Proofs.YtkgekmpnbhomgaaDoorW.PrintLast Go.Proofs.YtkgekmpnbhomgaaDoorW.PrintMore
attribute [local go_sem] max2_int min2_int max_two min_two max_three min_three max_four min_four
set_option linter.unusedVariables false
set_option maxHeartbeats 8000000
set_option maxRecDepth 100000
set_option linter.unusedSimpArgs false
def impl_IsProper.l0 : Nat → Int → Int → List Int → Int → Option (Bool × Bool)
 | 0, _, _, _, _ => none
 | k + 1, x10, x11, x402000, x402001 => if x11 < x10 then ((impl_Vote_wins.f k x402000 x402001 x11).bind fun t404 => (if t404 = true then ((impl_Vote_all.f x402000 x402001).bind fun t405 => ((impl_Vote_wins.f k x402000 x402001 (Go.bits .andNot .i64 t405 x11)).bind fun t406 => (if t406 = true then (some (false, true)) else (impl_IsProper.l0 k x10 (wrap64 (x11 + 1)) x402000 x402001)))) else (impl_IsProper.l0 k x10 (wrap64 (x11 + 1)) x402000 x402001))) else (some (true, true))
def impl_IsProper.f (k : Nat) (l0_0 : List Int) (a0_1 : Int) : Option (Bool × Bool) := (impl_IsVote.f k l0_0 a0_1).bind fun t402 => (if t402 = true then ((impl_Vote_all.f l0_0 a0_1).bind fun t403 => (impl_IsProper.l0 k (wrap64 (t403 + 1)) 0 l0_0 a0_1)) else (some (false, false)))
def impl_IsProper.T6 : Bool × List (List Nat × List Nat) := (true, [([], []), ([], []), ([0, 1], [0, 1]), ([2, 2], [2]), ([3], [3]), ([3], [3]), ([5, 3, 3], [3, 5]), ([3], [3]), ([6, 7, 3], [3, 6, 7]), ([4, 8, 6, 3], [3, 4, 8]), ([3, 9], [3, 9])])
def impl_IsProper.B6 : List Nat := [0, 0, 3, 7, 15, 15, 47, 15, 239, 511, 1023]
theorem impl_IsProper.tab6 : rtab .any (opsOf Tryd.f19 6) = impl_IsProper.T6 := by kernel_rfl
theorem impl_IsProper.bits6 : waitsOk impl_IsProper.T6.2 impl_IsProper.B6 = true := by kernel_rfl
theorem impl_IsProper.calls (k : Nat) (A0_0 : Option Addr) (c0_0 : Nat) (l0_0 : List Int) (a0_1 : Int) (r1 : Bool) (r2 : Bool) (w : World) (hr0_0 : Kd.C (Kd.int .i64) w A0_0 l0_0.length l0_0) (hc0_0 : l0_0.length ≤ c0_0) (h : impl_IsProper.f k l0_0 a0_1 = some (r1, r2)) :
  Calls Tryd.prog 19 #[.agg #[.slice A0_0 l0_0.length c0_0, .int .i64 a0_1]] w fun e w' => e = .returned (.tuple #[.bool r1, .bool r2]) ∧ Below w.heap.size w w' := by
 have hu26 := Tryd.underlying26
 have HR0_0 := aM hr0_0
 have HC0_0 := aM hc0_0
 clear hr0_0 hc0_0
 have HB := aM (Below.refl w.heap.size w)
 have H : ((impl_IsVote.f k l0_0 a0_1).bind fun t402 => (if t402 = true then ((impl_Vote_all.f l0_0 a0_1).bind fun t403 => (impl_IsProper.l0 k (wrap64 (t403 + 1)) 0 l0_0 a0_1)) else (some (false, false)))) = some (r1, r2) := h
 clear h
 replace H := oB.mp H
 obtain ⟨t402, A20, H⟩ := H
 replace H : (if t402 = true then ((impl_Vote_all.f l0_0 a0_1).bind fun t403 => (impl_IsProper.l0 k (wrap64 (t403 + 1)) 0 l0_0 a0_1)) else (some (false, false))) = some (r1, r2) := H
 have A2 := aM A20
 clear A20
 by_cases c3 : t402 = true
 ·
  subst c3
  have H1 : ((impl_Vote_all.f l0_0 a0_1).bind fun t403 => (impl_IsProper.l0 k (wrap64 (t403 + 1)) 0 l0_0 a0_1)) = some (r1, r2) := by rw [if_pos rfl] at H; exact H
  clear H
  have H := H1
  clear H1
  replace H := oB.mp H
  obtain ⟨t403, A40, H⟩ := H
  replace H : (impl_IsProper.l0 k (wrap64 (t403 + 1)) 0 l0_0 a0_1) = some (r1, r2) := H
  have A4 := aM A40
  clear A40
  have H' := aM H
  clear H
  go_enter Tryd.func19, Tryd.ntmps19
  go_wp2_with (first | (refine yB 1 #[.slice A0_0 l0_0.length c0_0, .int .i64 a0_1] 26 ?_; intro gb401 hg w5 hbox hb; have BK401 := aM (hbox); have GW401 := yV0 hg HB; have GE401 := yV0 hg HB; replace HB := yS0 HB hb; clear hb hbox hg; obtain ⟨hcz6_0, hcz6_1, hfz6_0, hfz6_1⟩ := yD2 BK401) | (refine yL 6 Tryd.func10 #[.agg #[.slice A0_0 l0_0.length c0_0, .int .i64 a0_1]] ?_; (with_reducible refine (impl_IsVote.calls k _ _ l0_0 a0_1 true _ ?side1 ?side2 A2.out).mono ?_); (case side1 => exact xC (Kd.C_below HR0_0.out HB.out)); (case side2 => exact HC0_0.out); rintro e w7 ⟨rfl, hb⟩; refine ⟨_, rfl, ?_⟩; replace BK401 := yK BK401 hb; replace HB := yS1 HB GE401 hb; (try clear hb; try clear hb2; try clear hk; try clear hi); obtain ⟨hcz8_0, hcz8_1, hfz8_0, hfz8_1⟩ := yD2 BK401) | (refine yL 9 Tryd.func45 #[.agg #[.slice A0_0 l0_0.length c0_0, .int .i64 a0_1]] ?_; (with_reducible refine (impl_Vote_all.calls _ _ l0_0 a0_1 t403 _ ?side1 ?side2 A4.out).mono ?_); (case side1 => exact xC (Kd.C_below HR0_0.out HB.out)); (case side2 => exact HC0_0.out); rintro e w9 ⟨rfl, hb⟩; refine ⟨_, rfl, ?_⟩; replace BK401 := yK BK401 hb; replace HB := yS1 HB GE401 hb; (try clear hb; try clear hb2; try clear hk; try clear hi)))
  go_loopg [11] k (fun kq v11 w' => ∃ (x11_1 : Int), v11 = .int .i64 x11_1 ∧ Aside0 (impl_IsProper.l0 kq (wrap64 (t403 + 1)) x11_1 l0_0 a0_1 = some (r1, r2)) ∧ Aside0 (kq ≤ k) ∧ Aside0 (w'.heap[gb401]? = some (.cells #[(.slice A0_0 l0_0.length c0_0), .int .i64 a0_1] 26 (0, 0))) ∧ Aside0 (Below w.heap.size w w'))
  case atStart => exact ⟨(0), yZ, H', ⟨Nat.le_refl _⟩, ⟨xB BK401.out⟩, ⟨xG1 HB.out GE401.out⟩⟩
  case round =>
   clear H'
   try clear c1; try clear p2; try clear c3; try clear c4; try clear p6; try clear hcz6_0; try clear hcz6_1; try clear hcz8_0; try clear hcz8_1; try clear hfz6_0; try clear hfz6_1; try clear hfz8_0; try clear hfz8_1
   obtain ⟨x11_1, rfl, HA, HK1, BK401, HB⟩ := hrel
   cases gk with
   | zero => exact absurd HA.out (by simp [impl_IsProper.l0])
   | succ k1 =>
    have H := HA.out
    clear HA
    simp only [impl_IsProper.l0] at H
    by_cases c10 : x11_1 < (wrap64 (t403 + 1))
    ·
     rw [if_pos c10] at H
     have c10b0 := decide_eq_true c10
     clear c10
     replace H := oB.mp H
     obtain ⟨t404, A110, H⟩ := H
     replace H : (if t404 = true then ((impl_Vote_all.f l0_0 a0_1).bind fun t405 => ((impl_Vote_wins.f k1 l0_0 a0_1 (Go.bits .andNot .i64 t405 x11_1)).bind fun t406 => (if t406 = true then (some (false, true)) else (impl_IsProper.l0 k1 (wrap64 (t403 + 1)) (wrap64 (x11_1 + 1)) l0_0 a0_1)))) else (impl_IsProper.l0 k1 (wrap64 (t403 + 1)) (wrap64 (x11_1 + 1)) l0_0 a0_1)) = some (r1, r2) := H
     have A11 := aM A110
     clear A110
     by_cases c12 : t404 = true
     ·
      subst c12
      have H1 : ((impl_Vote_all.f l0_0 a0_1).bind fun t405 => ((impl_Vote_wins.f k1 l0_0 a0_1 (Go.bits .andNot .i64 t405 x11_1)).bind fun t406 => (if t406 = true then (some (false, true)) else (impl_IsProper.l0 k1 (wrap64 (t403 + 1)) (wrap64 (x11_1 + 1)) l0_0 a0_1)))) = some (r1, r2) := by rw [if_pos rfl] at H; exact H
      clear H
      have H := H1
      clear H1
      replace H := oB.mp H
      obtain ⟨t405, A130, H⟩ := H
      replace H : ((impl_Vote_wins.f k1 l0_0 a0_1 (Go.bits .andNot .i64 t405 x11_1)).bind fun t406 => (if t406 = true then (some (false, true)) else (impl_IsProper.l0 k1 (wrap64 (t403 + 1)) (wrap64 (x11_1 + 1)) l0_0 a0_1))) = some (r1, r2) := H
      have A13 := aM A130
      clear A130
      replace H := oB.mp H
      obtain ⟨t406, A140, H⟩ := H
      replace H : (if t406 = true then (some (false, true)) else (impl_IsProper.l0 k1 (wrap64 (t403 + 1)) (wrap64 (x11_1 + 1)) l0_0 a0_1)) = some (r1, r2) := H
      have A14 := aM A140
      clear A140
      by_cases c15 : t406 = true
      ·
       subst c15
       have H1 : (some (false, true)) = some (r1, r2) := by rw [if_pos rfl] at H; exact H
       clear H
       have H := H1
       clear H1
       simp only [Option.some.injEq, Prod.mk.injEq] at H
       obtain ⟨rfl, rfl⟩ := H
       try go_wp2
       replace BK401 := aM (bD BK401.out)
       replace HB := aM (eD HB.out)
       refine start_ (n := 11) (S := fun w' => w'.cell? ⟨gb401, 0, none⟩ = some (.slice A0_0 l0_0.length c0_0) ∧ w'.cell? ⟨gb401, 1, none⟩ = some (.int .i64 a0_1)) (ds := []) (bm 11 0) (by kernel_rfl) rfl rfl ⟨(bC BK401.out 0).trans rfl, (bC BK401.out 1).trans rfl⟩ (fun hHeld => ?_); refine with_tabW impl_IsProper.tab6 impl_IsProper.bits6 (fun HT_ HW_ => ?_)
       generalize wr.drew = w16 at BK401 HB hHeld ⊢
       refine yP 1 15 (bm 11 2) HT_ ?_
       refine yT2 0 14 (bm 11 3) HT_ HW_ hHeld ?_
       refine yO 2 16 (bm 11 7) HT_ (fun K hK => ?_)
       refine yG Tryd.func31 #[.agg #[.slice A0_0 l0_0.length c0_0, .int .i64 a0_1], .int .i64 x11_1] ?_
       with_reducible refine (impl_Vote_wins.calls k1 _ _ l0_0 a0_1 x11_1 true _ ?side1 ?side2 A11.out).mono ?_
       (case side1 => exact xC (Kd.C_below HR0_0.out HB.out))
       (case side2 => exact HC0_0.out)
       rintro e w17 ⟨rfl, hb⟩
       refine ⟨_, rfl, ?_⟩
       replace BK401 := yK BK401 hb
       replace HB := yS1 HB GE401 hb
       (try clear hb)
       (try clear hb2)
       (try clear hk)
       (try clear hi)
       refine hK.out _ _ ⟨(bC BK401.out 0).trans rfl, (bC BK401.out 1).trans rfl⟩ (fun hHeld => ?_)
       clear hK K
       refine norm_ (a' := ?_) ?_ ?_
       rotate_left
       ·
        show Act.put _ (some 16) _ = _
        simp only [Act.put, sA, sZ, sU, i64_w, i32_w]
        rfl
       refine yP 3 17 (bm 11 15) HT_ ?_
       refine yP 7 21 (bm 11 143) HT_ ?_
       refine yT2 4 18 (bm 11 159) HT_ HW_ hHeld ?_
       refine yT2 5 19 (bm 11 191) HT_ HW_ hHeld ?_
       refine yO 6 20 (bm 11 255) HT_ (fun K hK => ?_)
       refine yG Tryd.func45 #[.agg #[.slice A0_0 l0_0.length c0_0, .int .i64 a0_1]] ?_
       with_reducible refine (impl_Vote_all.calls _ _ l0_0 a0_1 t405 _ ?side1 ?side2 A13.out).mono ?_
       (case side1 => exact xC (Kd.C_below HR0_0.out HB.out))
       (case side2 => exact HC0_0.out)
       rintro e w18 ⟨rfl, hb⟩
       refine ⟨_, rfl, ?_⟩
       replace BK401 := yK BK401 hb
       replace HB := yS1 HB GE401 hb
       (try clear hb)
       (try clear hb2)
       (try clear hk)
       (try clear hi)
       refine hK.out _ _ ⟨(bC BK401.out 0).trans rfl, (bC BK401.out 1).trans rfl⟩ (fun hHeld => ?_)
       clear hK K
       refine norm_ (a' := ?_) ?_ ?_
       rotate_left
       ·
        show Act.put _ (some 20) _ = _
        simp only [Act.put, sA, sZ, sU, i64_w, i32_w]
        rfl
       refine yP 8 22 (bm 11 511) HT_ ?_
       refine yO 9 23 (bm 11 1023) HT_ (fun K hK => ?_)
       refine yG Tryd.func31 #[.agg #[.slice A0_0 l0_0.length c0_0, .int .i64 a0_1], .int .i64 (Go.bits .andNot .i64 t405 x11_1)] ?_
       with_reducible refine (impl_Vote_wins.calls k1 _ _ l0_0 a0_1 (Go.bits .andNot .i64 t405 x11_1) true _ ?side1 ?side2 A14.out).mono ?_
       (case side1 => exact xC (Kd.C_below HR0_0.out HB.out))
       (case side2 => exact HC0_0.out)
       rintro e w19 ⟨rfl, hb⟩
       refine ⟨_, rfl, ?_⟩
       replace BK401 := yK BK401 hb
       replace HB := yS1 HB GE401 hb
       (try clear hb)
       (try clear hb2)
       (try clear hk)
       (try clear hi)
       refine hK.out _ _ ⟨(bC BK401.out 0).trans rfl, (bC BK401.out 1).trans rfl⟩ (fun hHeld => ?_)
       clear hK K
       refine norm_ (a' := ?_) ?_ ?_
       rotate_left
       ·
        show Act.put _ (some 23) _ = _
        simp only [Act.put, sA, sZ, sU, i64_w, i32_w]
        rfl
       refine yP 10 24 (bm 11 2047) HT_ ?_
       refine done_ (done_of HT_.out (by kernel_rfl)) ?_
       try go_wp2
       go_ret2
       exact ⟨yF, xG1 HB.out GE401.out⟩
      ·
       replace c15 := Bool.eq_false_iff.mpr c15
       subst c15
       have H1 : (impl_IsProper.l0 k1 (wrap64 (t403 + 1)) (wrap64 (x11_1 + 1)) l0_0 a0_1) = some (r1, r2) := by rw [if_neg (show ¬ (false = true) by decide)] at H; exact H
       clear H
       have H := H1
       clear H1
       have H' := aM H
       clear H
       try go_wp2
       replace BK401 := aM (bD BK401.out)
       replace HB := aM (eD HB.out)
       refine start_ (n := 11) (S := fun w' => w'.cell? ⟨gb401, 0, none⟩ = some (.slice A0_0 l0_0.length c0_0) ∧ w'.cell? ⟨gb401, 1, none⟩ = some (.int .i64 a0_1)) (ds := []) (bm 11 0) (by kernel_rfl) rfl rfl ⟨(bC BK401.out 0).trans rfl, (bC BK401.out 1).trans rfl⟩ (fun hHeld => ?_); refine with_tabW impl_IsProper.tab6 impl_IsProper.bits6 (fun HT_ HW_ => ?_)
       generalize wr.drew = w20 at BK401 HB hHeld ⊢
       refine yP 1 15 (bm 11 2) HT_ ?_
       refine yT2 0 14 (bm 11 3) HT_ HW_ hHeld ?_
       refine yO 2 16 (bm 11 7) HT_ (fun K hK => ?_)
       refine yG Tryd.func31 #[.agg #[.slice A0_0 l0_0.length c0_0, .int .i64 a0_1], .int .i64 x11_1] ?_
       with_reducible refine (impl_Vote_wins.calls k1 _ _ l0_0 a0_1 x11_1 true _ ?side1 ?side2 A11.out).mono ?_
       (case side1 => exact xC (Kd.C_below HR0_0.out HB.out))
       (case side2 => exact HC0_0.out)
       rintro e w21 ⟨rfl, hb⟩
       refine ⟨_, rfl, ?_⟩
       replace BK401 := yK BK401 hb
       replace HB := yS1 HB GE401 hb
       (try clear hb)
       (try clear hb2)
       (try clear hk)
       (try clear hi)
       refine hK.out _ _ ⟨(bC BK401.out 0).trans rfl, (bC BK401.out 1).trans rfl⟩ (fun hHeld => ?_)
       clear hK K
       refine norm_ (a' := ?_) ?_ ?_
       rotate_left
       ·
        show Act.put _ (some 16) _ = _
        simp only [Act.put, sA, sZ, sU, i64_w, i32_w]
        rfl
       refine yP 3 17 (bm 11 15) HT_ ?_
       refine yP 7 21 (bm 11 143) HT_ ?_
       refine yT2 4 18 (bm 11 159) HT_ HW_ hHeld ?_
       refine yT2 5 19 (bm 11 191) HT_ HW_ hHeld ?_
       refine yO 6 20 (bm 11 255) HT_ (fun K hK => ?_)
       refine yG Tryd.func45 #[.agg #[.slice A0_0 l0_0.length c0_0, .int .i64 a0_1]] ?_
       with_reducible refine (impl_Vote_all.calls _ _ l0_0 a0_1 t405 _ ?side1 ?side2 A13.out).mono ?_
       (case side1 => exact xC (Kd.C_below HR0_0.out HB.out))
       (case side2 => exact HC0_0.out)
       rintro e w22 ⟨rfl, hb⟩
       refine ⟨_, rfl, ?_⟩
       replace BK401 := yK BK401 hb
       replace HB := yS1 HB GE401 hb
       (try clear hb)
       (try clear hb2)
       (try clear hk)
       (try clear hi)
       refine hK.out _ _ ⟨(bC BK401.out 0).trans rfl, (bC BK401.out 1).trans rfl⟩ (fun hHeld => ?_)
       clear hK K
       refine norm_ (a' := ?_) ?_ ?_
       rotate_left
       ·
        show Act.put _ (some 20) _ = _
        simp only [Act.put, sA, sZ, sU, i64_w, i32_w]
        rfl
       refine yP 8 22 (bm 11 511) HT_ ?_
       refine yO 9 23 (bm 11 1023) HT_ (fun K hK => ?_)
       refine yG Tryd.func31 #[.agg #[.slice A0_0 l0_0.length c0_0, .int .i64 a0_1], .int .i64 (Go.bits .andNot .i64 t405 x11_1)] ?_
       with_reducible refine (impl_Vote_wins.calls k1 _ _ l0_0 a0_1 (Go.bits .andNot .i64 t405 x11_1) false _ ?side1 ?side2 A14.out).mono ?_
       (case side1 => exact xC (Kd.C_below HR0_0.out HB.out))
       (case side2 => exact HC0_0.out)
       rintro e w23 ⟨rfl, hb⟩
       refine ⟨_, rfl, ?_⟩
       replace BK401 := yK BK401 hb
       replace HB := yS1 HB GE401 hb
       (try clear hb)
       (try clear hb2)
       (try clear hk)
       (try clear hi)
       refine hK.out _ _ ⟨(bC BK401.out 0).trans rfl, (bC BK401.out 1).trans rfl⟩ (fun hHeld => ?_)
       clear hK K
       refine norm_ (a' := ?_) ?_ ?_
       rotate_left
       ·
        show Act.put _ (some 23) _ = _
        simp only [Act.put, sA, sZ, sU, i64_w, i32_w]
        rfl
       refine yP 10 24 (bm 11 2047) HT_ ?_
       refine done_ (done_of HT_.out (by kernel_rfl)) ?_
       try go_wp2
       go_roundg k1
       case measure => have := HK1.out; omega
       case rel => exact ⟨(wrap64 (x11_1 + 1)), yZ, H', ⟨by have := HK1.out; omega⟩, ⟨xB BK401.out⟩, ⟨xG1 HB.out GE401.out⟩⟩
     ·
      replace c12 := Bool.eq_false_iff.mpr c12
      subst c12
      have H1 : (impl_IsProper.l0 k1 (wrap64 (t403 + 1)) (wrap64 (x11_1 + 1)) l0_0 a0_1) = some (r1, r2) := by rw [if_neg (show ¬ (false = true) by decide)] at H; exact H
      clear H
      have H := H1
      clear H1
      have H' := aM H
      clear H
      try go_wp2
      replace BK401 := aM (bD BK401.out)
      replace HB := aM (eD HB.out)
      refine start_ (n := 11) (S := fun w' => w'.cell? ⟨gb401, 0, none⟩ = some (.slice A0_0 l0_0.length c0_0) ∧ w'.cell? ⟨gb401, 1, none⟩ = some (.int .i64 a0_1)) (ds := []) (bm 11 0) (by kernel_rfl) rfl rfl ⟨(bC BK401.out 0).trans rfl, (bC BK401.out 1).trans rfl⟩ (fun hHeld => ?_); refine with_tabW impl_IsProper.tab6 impl_IsProper.bits6 (fun HT_ HW_ => ?_)
      generalize wr.drew = w24 at BK401 HB hHeld ⊢
      refine yP 1 15 (bm 11 2) HT_ ?_
      refine yT2 0 14 (bm 11 3) HT_ HW_ hHeld ?_
      refine yO 2 16 (bm 11 7) HT_ (fun K hK => ?_)
      refine yG Tryd.func31 #[.agg #[.slice A0_0 l0_0.length c0_0, .int .i64 a0_1], .int .i64 x11_1] ?_
      with_reducible refine (impl_Vote_wins.calls k1 _ _ l0_0 a0_1 x11_1 false _ ?side1 ?side2 A11.out).mono ?_
      (case side1 => exact xC (Kd.C_below HR0_0.out HB.out))
      (case side2 => exact HC0_0.out)
      rintro e w25 ⟨rfl, hb⟩
      refine ⟨_, rfl, ?_⟩
      replace BK401 := yK BK401 hb
      replace HB := yS1 HB GE401 hb
      (try clear hb)
      (try clear hb2)
      (try clear hk)
      (try clear hi)
      refine hK.out _ _ ⟨(bC BK401.out 0).trans rfl, (bC BK401.out 1).trans rfl⟩ (fun hHeld => ?_)
      clear hK K
      refine norm_ (a' := ?_) ?_ ?_
      rotate_left
      ·
       show Act.put _ (some 16) _ = _
       simp only [Act.put, sA, sZ, sU, i64_w, i32_w]
       rfl
      refine yP 3 17 (bm 11 15) HT_ ?_
      refine yU 4 18 (bm 11 31) HT_ ?_
      refine yU 5 19 (bm 11 63) HT_ ?_
      refine yU 6 20 (bm 11 127) HT_ ?_
      refine yU 7 21 (bm 11 255) HT_ ?_
      refine yU 8 22 (bm 11 511) HT_ ?_
      refine yU 9 23 (bm 11 1023) HT_ ?_
      refine yP 10 24 (bm 11 2047) HT_ ?_
      refine done_ (done_of HT_.out (by kernel_rfl)) ?_
      try go_wp2
      go_roundg k1
      case measure => have := HK1.out; omega
      case rel => exact ⟨(wrap64 (x11_1 + 1)), yZ, H', ⟨by have := HK1.out; omega⟩, ⟨xB BK401.out⟩, ⟨xG1 HB.out GE401.out⟩⟩
    ·
     rw [if_neg c10] at H
     have c10b0 := decide_eq_false c10
     clear c10
     simp only [Option.some.injEq, Prod.mk.injEq] at H
     obtain ⟨rfl, rfl⟩ := H
     go_wp2
     go_ret2
     exact ⟨yF, xG1 HB.out GE401.out⟩
 ·
  replace c3 := Bool.eq_false_iff.mpr c3
  subst c3
  have H1 : (some (false, false)) = some (r1, r2) := by rw [if_neg (show ¬ (false = true) by decide)] at H; exact H
  clear H
  have H := H1
  clear H1
  simp only [Option.some.injEq, Prod.mk.injEq] at H
  obtain ⟨rfl, rfl⟩ := H
  go_enter Tryd.func19, Tryd.ntmps19
  go_wp2_with (first | (refine yB 1 #[.slice A0_0 l0_0.length c0_0, .int .i64 a0_1] 26 ?_; intro gb401 hg w26 hbox hb; have BK401 := aM (hbox); have GW401 := yV0 hg HB; have GE401 := yV0 hg HB; replace HB := yS0 HB hb; clear hb hbox hg; obtain ⟨hcz27_0, hcz27_1, hfz27_0, hfz27_1⟩ := yD2 BK401) | (refine yL 6 Tryd.func10 #[.agg #[.slice A0_0 l0_0.length c0_0, .int .i64 a0_1]] ?_; (with_reducible refine (impl_IsVote.calls k _ _ l0_0 a0_1 false _ ?side1 ?side2 A2.out).mono ?_); (case side1 => exact xC (Kd.C_below HR0_0.out HB.out)); (case side2 => exact HC0_0.out); rintro e w28 ⟨rfl, hb⟩; refine ⟨_, rfl, ?_⟩; replace BK401 := yK BK401 hb; replace HB := yS1 HB GE401 hb; (try clear hb; try clear hb2; try clear hk; try clear hi)))
  go_ret2
  exact ⟨yF, xG1 HB.out GE401.out⟩
def spec_l6Proper.l0 : Nat → List Bool → Int → Option (Bool)
 | 0, _, _ => none
 | k + 1, x3, x4 => if x4 < (x3.length : Int) then (if 0 ≤ x4 then (if rdOf false x3 x4 = true then (if 0 ≤ (wrap64 ((wrap64 ((x3.length : Int) - 1)) - x4)) then (if (wrap64 ((wrap64 ((x3.length : Int) - 1)) - x4)) < (x3.length : Int) then (if rdOf false x3 (wrap64 ((wrap64 ((x3.length : Int) - 1)) - x4)) = true then (some false) else (spec_l6Proper.l0 k x3 (wrap64 (x4 + 1)))) else (none)) else (none)) else (spec_l6Proper.l0 k x3 (wrap64 (x4 + 1)))) else (none)) else (some true)
def spec_l6Proper.f (k : Nat) (l0_0 : List Int) (a0_1 : Int) : Option (Bool) := (spec_l6Wins.f k l0_0 a0_1).bind fun t408 => (spec_l6Proper.l0 k t408 0)
theorem spec_l6Proper.calls (k : Nat) (A0_0 : Option Addr) (c0_0 : Nat) (l0_0 : List Int) (a0_1 : Int) (r : Bool) (w : World) (hr0_0 : Kd.C (Kd.int .i64) w A0_0 l0_0.length l0_0) (hc0_0 : l0_0.length ≤ c0_0) (h : spec_l6Proper.f k l0_0 a0_1 = some r) :
  Calls Tryd.prog 48 #[.agg #[.slice A0_0 l0_0.length c0_0, .int .i64 a0_1]] w fun e w' => e = .returned (.bool r) ∧ Below w.heap.size w w' := by
 have hu26 := Tryd.underlying26
 have HR0_0 := aM hr0_0
 have HC0_0 := aM hc0_0
 clear hr0_0 hc0_0
 have HB := aM (Below.refl w.heap.size w)
 have H : ((spec_l6Wins.f k l0_0 a0_1).bind fun t408 => (spec_l6Proper.l0 k t408 0)) = some r := h
 clear h
 replace H := oB.mp H
 obtain ⟨t408, A20, H⟩ := H
 replace H : (spec_l6Proper.l0 k t408 0) = some r := H
 have A2 := aM A20
 clear A20
 have H' := aM H
 clear H
 go_enter Tryd.func48, Tryd.ntmps48
 go_wp2_with (first | ((with_reducible refine gate_dst (N := 1) rfl ?_); (try (refine gate_guard (by rfl) ?_; dsimp only)); refine yB 1 #[.slice A0_0 l0_0.length c0_0, .int .i64 a0_1] 26 ?_; intro gb407 hg w3 hbox hb; have BK407 := aM (hbox); have GW407 := yV0 hg HB; have GE407 := yV0 hg HB; replace HB := yS0 HB hb; clear hb hbox hg; obtain ⟨hcz4_0, hcz4_1, hfz4_0, hfz4_1⟩ := yD2 BK407) | (refine yL 6 Tryd.func34 #[.agg #[.slice A0_0 l0_0.length c0_0, .int .i64 a0_1]] ?_; (with_reducible refine (spec_l6Wins.calls k _ _ l0_0 a0_1 t408 _ ?side1 ?side2 A2.out).mono ?_); (case side1 => exact xC (Kd.C_below HR0_0.out HB.out)); (case side2 => exact HC0_0.out); rintro e w5 ⟨v409, rfl, ho0, hb⟩; refine ⟨_, rfl, ?_⟩; have HO410 := aM (Kd.R_lower ho0 (below_size (xG1 HB.out GE407.out))); replace BK407 := yK BK407 hb; replace HB := yS1 HB GE407 hb; (try clear hb; try clear hb2; try clear hk; try clear hi; try clear ho0)))
 go_loopg [4] k (fun kq v4 w' => ∃ (x4_1 : Int), v4 = .int .i64 x4_1 ∧ Aside0 (spec_l6Proper.l0 kq t408 x4_1 = some r) ∧ Aside0 (kq ≤ k) ∧ Aside0 (Kd.R Kd.bool 4 w' w.heap.size (fun _ => True) v409 t408) ∧ Aside0 (w'.heap[gb407]? = some (.cells #[(.slice A0_0 l0_0.length c0_0), .int .i64 a0_1] 26 (0, 0))) ∧ Aside0 (Below w.heap.size w w'))
 case atStart => exact ⟨(0), yZ, H', ⟨Nat.le_refl _⟩, ⟨xR HO410.out⟩, ⟨xB BK407.out⟩, ⟨xG1 HB.out GE407.out⟩⟩
 case round =>
  clear H'
  try clear p2; try clear c3; try clear c4; try clear hcz4_0; try clear hcz4_1; try clear hfz4_0; try clear hfz4_1
  obtain ⟨x4_1, rfl, HA, HK1, HO_3, BK407, HB⟩ := hrel
  cases gk with
  | zero => exact absurd HA.out (by simp [spec_l6Proper.l0])
  | succ k1 =>
   have H := HA.out
   clear HA
   simp only [spec_l6Proper.l0] at H
   by_cases c6 : x4_1 < (t408.length : Int)
   ·
    rw [if_pos c6] at H
    have c6b0 := decide_eq_true c6
    clear c6
    by_cases c7 : 0 ≤ x4_1
    ·
     rw [if_pos c7] at H
     have c7b0 := decide_eq_true c7
     clear c7
     obtain ⟨bq8, hbq8⟩ : ∃ b_ : Bool, b_ = (rdOf false t408 x4_1) := ⟨_, rfl⟩
     replace H : (if bq8 = true then (if 0 ≤ (wrap64 ((wrap64 ((t408.length : Int) - 1)) - x4_1)) then (if (wrap64 ((wrap64 ((t408.length : Int) - 1)) - x4_1)) < (t408.length : Int) then (if rdOf false t408 (wrap64 ((wrap64 ((t408.length : Int) - 1)) - x4_1)) = true then (some false) else (spec_l6Proper.l0 k1 t408 (wrap64 (x4_1 + 1)))) else (none)) else (none)) else (spec_l6Proper.l0 k1 t408 (wrap64 (x4_1 + 1)))) = some r := by rw [← hbq8] at H; exact H
     have Nbq8 := aM hbq8
     clear hbq8
     by_cases c9 : bq8 = true
     ·
      subst c9
      have H1 : (if 0 ≤ (wrap64 ((wrap64 ((t408.length : Int) - 1)) - x4_1)) then (if (wrap64 ((wrap64 ((t408.length : Int) - 1)) - x4_1)) < (t408.length : Int) then (if rdOf false t408 (wrap64 ((wrap64 ((t408.length : Int) - 1)) - x4_1)) = true then (some false) else (spec_l6Proper.l0 k1 t408 (wrap64 (x4_1 + 1)))) else (none)) else (none)) = some r := by rw [if_pos rfl] at H; exact H
      clear H
      have H := H1
      clear H1
      obtain ⟨ji10, hji10⟩ := yJ ((wrap64 ((wrap64 ((t408.length : Int) - 1)) - x4_1)))
      replace H : (if 0 ≤ (ji10) then (if (ji10) < (t408.length : Int) then (if rdOf false t408 (ji10) = true then (some false) else (spec_l6Proper.l0 k1 t408 (wrap64 (x4_1 + 1)))) else (none)) else (none)) = some r := by first | (rw [hji10] at H; exact H) | (simp only [hji10] at H ⊢; exact H)
      have hji10w : (IntKind.i64.wrap ((wrap64 ((t408.length : Int) - 1)) - x4_1)) = ji10 := (i64_w _).trans hji10
      by_cases c11 : 0 ≤ (ji10)
      ·
       rw [if_pos c11] at H
       have c11b0 := decide_eq_true c11
       clear c11
       by_cases c12 : (ji10) < (t408.length : Int)
       ·
        rw [if_pos c12] at H
        have c12b0 := decide_eq_true c12
        clear c12
        obtain ⟨bq13, hbq13⟩ : ∃ b_ : Bool, b_ = (rdOf false t408 (ji10)) := ⟨_, rfl⟩
        replace H : (if bq13 = true then (some false) else (spec_l6Proper.l0 k1 t408 (wrap64 (x4_1 + 1)))) = some r := by rw [← hbq13] at H; exact H
        have Nbq13 := aM hbq13
        clear hbq13
        by_cases c14 : bq13 = true
        ·
         subst c14
         have H1 : (some false) = some r := by rw [if_pos rfl] at H; exact H
         clear H
         have H := H1
         clear H1
         obtain rfl := Option.some.inj H
         obtain ⟨Ao15, co15, eo15⟩ := Kd.R_slice HO_3.out
         subst eo15
         have p411 : 0 ≤ (x4_1 : Int) := yA
         have q411 : x4_1 < (t408.length : Int) := yA
         obtain ⟨ad411, e411, hx411_0⟩ := Kd.at_bool (Kd.R_reads' HO_3.out).2.2 x4_1 p411 q411
         (try rw [← Nbq8.out] at hx411_0)
         (try rw [← Nbq13.out] at hx411_0)
         cases e411
         replace p411 := eq_true p411
         replace q411 := eq_true q411
         have p412 : 0 ≤ ((ji10) : Int) := yA
         have q412 : (ji10) < (t408.length : Int) := yA
         obtain ⟨ad412, e412, hx412_0⟩ := Kd.at_bool (Kd.R_reads' HO_3.out).2.2 (ji10) p412 q412
         (try rw [← Nbq8.out] at hx412_0)
         (try rw [← Nbq13.out] at hx412_0)
         obtain rfl : ad411 = ad412 := (by injection e412)
         replace p412 := eq_true p412
         replace q412 := eq_true q412
         go_wp2
         go_ret
         exact ⟨by first | rfl | (simp [errW_none, errW_some] <;> rfl) | (simp only [← hji10]; first | rfl | (simp [errW_none, errW_some] <;> rfl)) | (simp [*, errW_none, errW_some] <;> rfl), xG1 HB.out GE407.out⟩
        ·
         replace c14 := Bool.eq_false_iff.mpr c14
         subst c14
         have H1 : (spec_l6Proper.l0 k1 t408 (wrap64 (x4_1 + 1))) = some r := by rw [if_neg (show ¬ (false = true) by decide)] at H; exact H
         clear H
         have H := H1
         clear H1
         have H' := aM H
         clear H
         obtain ⟨Ao16, co16, eo16⟩ := Kd.R_slice HO_3.out
         subst eo16
         have p411 : 0 ≤ (x4_1 : Int) := yA
         have q411 : x4_1 < (t408.length : Int) := yA
         obtain ⟨ad411, e411, hx411_0⟩ := Kd.at_bool (Kd.R_reads' HO_3.out).2.2 x4_1 p411 q411
         (try rw [← Nbq8.out] at hx411_0)
         (try rw [← Nbq13.out] at hx411_0)
         cases e411
         replace p411 := eq_true p411
         replace q411 := eq_true q411
         have p412 : 0 ≤ ((ji10) : Int) := yA
         have q412 : (ji10) < (t408.length : Int) := yA
         obtain ⟨ad412, e412, hx412_0⟩ := Kd.at_bool (Kd.R_reads' HO_3.out).2.2 (ji10) p412 q412
         (try rw [← Nbq8.out] at hx412_0)
         (try rw [← Nbq13.out] at hx412_0)
         obtain rfl : ad411 = ad412 := (by injection e412)
         replace p412 := eq_true p412
         replace q412 := eq_true q412
         go_wp2
         go_roundg k1
         case measure => have := HK1.out; omega
         case rel => exact ⟨(wrap64 (x4_1 + 1)), yZ, H', ⟨by have := HK1.out; omega⟩, ⟨xR HO_3.out⟩, ⟨xB BK407.out⟩, ⟨xG1 HB.out GE407.out⟩⟩
       ·
        rw [if_neg c12] at H
        exact absurd H (by simp)
      ·
       rw [if_neg c11] at H
       exact absurd H (by simp)
     ·
      replace c9 := Bool.eq_false_iff.mpr c9
      subst c9
      have H1 : (spec_l6Proper.l0 k1 t408 (wrap64 (x4_1 + 1))) = some r := by rw [if_neg (show ¬ (false = true) by decide)] at H; exact H
      clear H
      have H := H1
      clear H1
      have H' := aM H
      clear H
      obtain ⟨Ao17, co17, eo17⟩ := Kd.R_slice HO_3.out
      subst eo17
      have p411 : 0 ≤ (x4_1 : Int) := yA
      have q411 : x4_1 < (t408.length : Int) := yA
      obtain ⟨ad411, e411, hx411_0⟩ := Kd.at_bool (Kd.R_reads' HO_3.out).2.2 x4_1 p411 q411
      (try rw [← Nbq8.out] at hx411_0)
      cases e411
      replace p411 := eq_true p411
      replace q411 := eq_true q411
      go_wp2
      go_roundg k1
      case measure => have := HK1.out; omega
      case rel => exact ⟨(wrap64 (x4_1 + 1)), yZ, H', ⟨by have := HK1.out; omega⟩, ⟨xR HO_3.out⟩, ⟨xB BK407.out⟩, ⟨xG1 HB.out GE407.out⟩⟩
    ·
     rw [if_neg c7] at H
     exact absurd H (by simp)
   ·
    rw [if_neg c6] at H
    have c6b0 := decide_eq_false c6
    clear c6
    obtain rfl := Option.some.inj H
    obtain ⟨Ao18, co18, eo18⟩ := Kd.R_slice HO_3.out
    subst eo18
    go_wp2
    go_ret
    exact ⟨yF, xG1 HB.out GE407.out⟩
def spec_IsProper.f (k : Nat) (l0_0 : List Int) (a0_1 : Int) : Option (Bool × Bool) := (spec_l6Vote.f k l0_0 a0_1).bind fun t414 => (if t414 = true then ((spec_l6Proper.f k l0_0 a0_1).bind fun t415 => (some (t415, true))) else (some (false, false)))
theorem spec_IsProper.calls (k : Nat) (A0_0 : Option Addr) (c0_0 : Nat) (l0_0 : List Int) (a0_1 : Int) (r1 : Bool) (r2 : Bool) (w : World) (hr0_0 : Kd.C (Kd.int .i64) w A0_0 l0_0.length l0_0) (hc0_0 : l0_0.length ≤ c0_0) (h : spec_IsProper.f k l0_0 a0_1 = some (r1, r2)) :
  Calls Tryd.prog 20 #[.agg #[.slice A0_0 l0_0.length c0_0, .int .i64 a0_1]] w fun e w' => e = .returned (.tuple #[.bool r1, .bool r2]) ∧ Below w.heap.size w w' := by
 have hu26 := Tryd.underlying26
 have HR0_0 := aM hr0_0
 have HC0_0 := aM hc0_0
 clear hr0_0 hc0_0
 have HB := aM (Below.refl w.heap.size w)
 have H : ((spec_l6Vote.f k l0_0 a0_1).bind fun t414 => (if t414 = true then ((spec_l6Proper.f k l0_0 a0_1).bind fun t415 => (some (t415, true))) else (some (false, false)))) = some (r1, r2) := h
 clear h
 replace H := oB.mp H
 obtain ⟨t414, A20, H⟩ := H
 replace H : (if t414 = true then ((spec_l6Proper.f k l0_0 a0_1).bind fun t415 => (some (t415, true))) else (some (false, false))) = some (r1, r2) := H
 have A2 := aM A20
 clear A20
 by_cases c3 : t414 = true
 ·
  subst c3
  have H1 : ((spec_l6Proper.f k l0_0 a0_1).bind fun t415 => (some (t415, true))) = some (r1, r2) := by rw [if_pos rfl] at H; exact H
  clear H
  have H := H1
  clear H1
  replace H := oB.mp H
  obtain ⟨t415, A40, H⟩ := H
  replace H : (some (t415, true)) = some (r1, r2) := H
  have A4 := aM A40
  clear A40
  simp only [Option.some.injEq, Prod.mk.injEq] at H
  obtain ⟨rfl, rfl⟩ := H
  go_enter Tryd.func20, Tryd.ntmps20
  go_wp2_with (first | (refine yB 1 #[.slice A0_0 l0_0.length c0_0, .int .i64 a0_1] 26 ?_; intro gb413 hg w5 hbox hb; have BK413 := aM (hbox); have GW413 := yV0 hg HB; have GE413 := yV0 hg HB; replace HB := yS0 HB hb; clear hb hbox hg; obtain ⟨hcz6_0, hcz6_1, hfz6_0, hfz6_1⟩ := yD2 BK413) | (refine yL 5 Tryd.func38 #[.agg #[.slice A0_0 l0_0.length c0_0, .int .i64 a0_1]] ?_; (with_reducible refine (spec_l6Vote.calls k _ _ l0_0 a0_1 true _ ?side1 ?side2 A2.out).mono ?_); (case side1 => exact xC (Kd.C_below HR0_0.out HB.out)); (case side2 => exact HC0_0.out); rintro e w7 ⟨rfl, hb⟩; refine ⟨_, rfl, ?_⟩; replace BK413 := yK BK413 hb; replace HB := yS1 HB GE413 hb; (try clear hb; try clear hb2; try clear hk; try clear hi); obtain ⟨hcz8_0, hcz8_1, hfz8_0, hfz8_1⟩ := yD2 BK413) | (refine yL 8 Tryd.func48 #[.agg #[.slice A0_0 l0_0.length c0_0, .int .i64 a0_1]] ?_; (with_reducible refine (spec_l6Proper.calls k _ _ l0_0 a0_1 t415 _ ?side1 ?side2 A4.out).mono ?_); (case side1 => exact xC (Kd.C_below HR0_0.out HB.out)); (case side2 => exact HC0_0.out); rintro e w9 ⟨rfl, hb⟩; refine ⟨_, rfl, ?_⟩; replace BK413 := yK BK413 hb; replace HB := yS1 HB GE413 hb; (try clear hb; try clear hb2; try clear hk; try clear hi)))
  go_ret2
  exact ⟨yF, xG1 HB.out GE413.out⟩
 ·
  replace c3 := Bool.eq_false_iff.mpr c3
  subst c3
  have H1 : (some (false, false)) = some (r1, r2) := by rw [if_neg (show ¬ (false = true) by decide)] at H; exact H
  clear H
  have H := H1
  clear H1
  simp only [Option.some.injEq, Prod.mk.injEq] at H
  obtain ⟨rfl, rfl⟩ := H
  go_enter Tryd.func20, Tryd.ntmps20
  go_wp2_with (first | (refine yB 1 #[.slice A0_0 l0_0.length c0_0, .int .i64 a0_1] 26 ?_; intro gb413 hg w10 hbox hb; have BK413 := aM (hbox); have GW413 := yV0 hg HB; have GE413 := yV0 hg HB; replace HB := yS0 HB hb; clear hb hbox hg; obtain ⟨hcz11_0, hcz11_1, hfz11_0, hfz11_1⟩ := yD2 BK413) | (refine yL 5 Tryd.func38 #[.agg #[.slice A0_0 l0_0.length c0_0, .int .i64 a0_1]] ?_; (with_reducible refine (spec_l6Vote.calls k _ _ l0_0 a0_1 false _ ?side1 ?side2 A2.out).mono ?_); (case side1 => exact xC (Kd.C_below HR0_0.out HB.out)); (case side2 => exact HC0_0.out); rintro e w12 ⟨rfl, hb⟩; refine ⟨_, rfl, ?_⟩; replace BK413 := yK BK413 hb; replace HB := yS1 HB GE413 hb; (try clear hb; try clear hb2; try clear hk; try clear hi)))
  go_ret2
  exact ⟨yF, xG1 HB.out GE413.out⟩
end Go.Proofs.YtkgekmpnbhomgaaDoor.PFnVotes
