-- Laid for this claim by a program of the session's own (wip/tool/myprint.py).
import Derived.Test.YtkgekmpnbhomgaaDoorMFnVotesx0
import Derived.Test.YtkgekmpnbhomgaaDoorMFnVotesx3
namespace Go.Proofs.YtkgekmpnbhomgaaDoor.PFnVotes
open Go.RowKit Go.Proofs.YtkgekmpnbhomgaaDoorW.PrintWords Go.Proofs.YtkgekmpnbhomgaaDoorW.PrintLast Go.Proofs.YtkgekmpnbhomgaaDoorW.PrintMore
attribute [local go_sem] max2_int min2_int max_two min_two max_three min_three max_four min_four
set_option linter.unusedVariables false
set_option maxHeartbeats 8000000
set_option maxRecDepth 100000
set_option linter.unusedSimpArgs false
def impl_Vote_wins.l0 : Nat → Int → Int → List Int → Int → Int → List Int → Int → Option (Bool)
 | 0, _, _, _, _, _, _, _ => none
 | k + 1, x1, x5, x9, x10, x11, x223000, x223001 => if x11 < x10 then (if 0 ≤ x11 then (if x11 < (x9.length : Int) then (impl_Vote_wins.l0 k x1 (wrap64 (x5 + (wrap64 ((rd x9 x11) * (Go.bits .and .i64 (shr .i64 x1 x11) 1))))) x9 x10 (wrap64 (x11 + 1)) x223000 x223001) else (none)) else (none)) else (some (decide (x5 ≥ x223001)))
def impl_Vote_wins.f (k : Nat) (l0_0 : List Int) (a0_1 : Int) (a1 : Int) : Option (Bool) := impl_Vote_wins.l0 k a1 0 l0_0 (l0_0.length : Int) 0 l0_0 a0_1
theorem impl_Vote_wins.mono_l : ∀ k, (∀ y0 y1 y2 y3 y4 y5 y6, LeO (impl_Vote_wins.l0 k y0 y1 y2 y3 y4 y5 y6) (impl_Vote_wins.l0 (k + 1) y0 y1 y2 y3 y4 y5 y6))
 | 0 => fun _ _ _ _ _ _ _ r h => by simp [impl_Vote_wins.l0] at h
 | k + 1 => by
  have ih0 := impl_Vote_wins.mono_l k
  ·
   intro y0 y1 y2 y3 y4 y5 y6
   unfold impl_Vote_wins.l0
   repeat' first
   | (with_reducible first | exact ih0 _ _ _ _ _ _ _ | exact LeO.refl _ | exact LeO.none _ | refine LeO.ite ?_ ?_ | refine LeO.bind ?_ (fun _ => ?_))
   | exact ih0 _ _ _ _ _ _ _ | exact LeO.none _ | refine LeO.ite ?_ ?_ | refine LeO.bind ?_ (fun _ => ?_)
theorem impl_Vote_wins.mono : ∀ a0 a1 a2 k, LeO (impl_Vote_wins.f k a0 a1 a2) (impl_Vote_wins.f (k + 1) a0 a1 a2) := by
 intro a0 a1 a2 k
 have ih0 := impl_Vote_wins.mono_l k
 unfold impl_Vote_wins.f
 repeat' first
   | (with_reducible first | exact ih0 _ _ _ _ _ _ _ | exact LeO.refl _ | exact LeO.none _ | refine LeO.ite ?_ ?_ | refine LeO.bind ?_ (fun _ => ?_))
   | exact ih0 _ _ _ _ _ _ _ | exact LeO.none _ | refine LeO.ite ?_ ?_ | refine LeO.bind ?_ (fun _ => ?_)
theorem impl_Vote_wins.calls (k : Nat) (A0_0 : Option Addr) (c0_0 : Nat) (l0_0 : List Int) (a0_1 : Int) (a1 : Int) (r : Bool) (w : World) (hr0_0 : Kd.C (Kd.int .i64) w A0_0 l0_0.length l0_0) (hc0_0 : l0_0.length ≤ c0_0) (h : impl_Vote_wins.f k l0_0 a0_1 a1 = some r) :
  Calls Tryd.prog 31 #[.agg #[.slice A0_0 l0_0.length c0_0, .int .i64 a0_1], .int .i64 a1] w fun e w' => e = .returned (.bool r) ∧ Below w.heap.size w w' := by
 have hu26 := Tryd.underlying26
 have HR0_0 := aM hr0_0
 have HC0_0 := aM hc0_0
 clear hr0_0 hc0_0
 have HB := aM (Below.refl w.heap.size w)
 have H : (impl_Vote_wins.l0 k a1 0 l0_0 (l0_0.length : Int) 0 l0_0 a0_1) = some r := h
 clear h
 have H' := aM H
 clear H
 go_enter Tryd.func31, Tryd.ntmps31
 go_wp2_with (first | (refine yB 2 #[.slice A0_0 l0_0.length c0_0, .int .i64 a0_1] 26 ?_; intro gb222 hg w3 hbox hb; have BK222 := aM (hbox); have GW222 := yV0 hg HB; have GE222 := yV0 hg HB; replace HB := yS0 HB hb; clear hb hbox hg; obtain ⟨hcz4_0, hcz4_1, hfz4_0, hfz4_1⟩ := yD2 BK222))
 go_loopg [5, 11] k (fun kq v5 v11 w' => ∃ (x5_1 : Int) (x11_1 : Int), v5 = .int .i64 x5_1 ∧ v11 = .int .i64 x11_1 ∧ Aside0 (impl_Vote_wins.l0 kq a1 x5_1 l0_0 (l0_0.length : Int) x11_1 l0_0 a0_1 = some r) ∧ Aside0 (kq ≤ k) ∧ Aside0 (w'.heap[gb222]? = some (.cells #[(.slice A0_0 l0_0.length c0_0), .int .i64 a0_1] 26 (0, 0))) ∧ Aside0 (Below w.heap.size w w'))
 case atStart => exact ⟨(0), (0), yZ, yZ, H', ⟨Nat.le_refl _⟩, ⟨xB BK222.out⟩, ⟨xG1 HB.out GE222.out⟩⟩
 case round =>
  clear H'
  try clear p2; try clear c3; try clear hcz4_0; try clear hcz4_1; try clear hfz4_0; try clear hfz4_1
  obtain ⟨x5_1, x11_1, rfl, rfl, HA, HK1, BK222, HB⟩ := hrel
  cases gk with
  | zero => exact absurd HA.out (by simp [impl_Vote_wins.l0])
  | succ k1 =>
   have H := HA.out
   clear HA
   simp only [impl_Vote_wins.l0] at H
   by_cases c5 : x11_1 < (l0_0.length : Int)
   ·
    rw [if_pos c5] at H
    have c5b0 := decide_eq_true c5
    clear c5
    by_cases c6 : 0 ≤ x11_1
    ·
     rw [if_pos c6] at H
     have c6b0 := decide_eq_true c6
     clear c6
     by_cases c7 : x11_1 < (l0_0.length : Int)
     ·
      rw [if_pos c7] at H
      have c7b0 := decide_eq_true c7
      clear c7
      have c8b0 := eq_true (yA : 0 ≤ x11_1)
      obtain ⟨ji9, hji9⟩ := yJ ((shr .i64 a1 x11_1))
      replace H : (impl_Vote_wins.l0 k1 a1 (wrap64 (x5_1 + (wrap64 ((rd l0_0 x11_1) * (Go.bits .and .i64 (ji9) 1))))) l0_0 (l0_0.length : Int) (wrap64 (x11_1 + 1)) l0_0 a0_1) = some r := by first | (rw [hji9] at H; exact H) | (simp only [hji9] at H ⊢; exact H)
      have hji9_ : (a1 / 2 ^ min x11_1.toNat 64) = ji9 := hji9
      have hji9z : x11_1 ≤ 64 → (a1 / 2 ^ x11_1.toNat) = ji9 := shr_small hji9
      have H' := aM H
      clear H
      have p223 : 0 ≤ (x11_1 : Int) := yA
      have q223 : x11_1 < (l0_0.length : Int) := yA
      obtain ⟨ad223, e223, hx223_0⟩ := Kd.at_int HR0_0.out x11_1 p223 q223
      cases e223
      replace hx223_0 := (HB.out.cell (World.block_lt_of_cell? w _ hx223_0)).trans hx223_0
      replace p223 := eq_true p223
      replace q223 := eq_true q223
      go_wp2
      go_roundg k1
      case measure => have := HK1.out; omega
      case rel => exact ⟨(wrap64 (x5_1 + (wrap64 ((rd l0_0 x11_1) * (Go.bits .and .i64 (ji9) 1))))), (wrap64 (x11_1 + 1)), (by first | rfl | (simp; done) | (simp only [← hji9] <;> (first | rfl | simp)) | (simp [*]; done)), yZ, H', ⟨by have := HK1.out; omega⟩, ⟨xB BK222.out⟩, ⟨xG1 HB.out GE222.out⟩⟩
     ·
      rw [if_neg c7] at H
      exact absurd H (by simp)
    ·
     rw [if_neg c6] at H
     exact absurd H (by simp)
   ·
    rw [if_neg c5] at H
    have c5b0 := decide_eq_false c5
    clear c5
    obtain rfl := Option.some.inj H
    have hcz10_0 : wr.cell? ⟨gb222, 0, none⟩ = some (.slice A0_0 l0_0.length c0_0) := (bC BK222.out 0).trans rfl
    have hcz10_1 : wr.cell? ⟨gb222, 1, none⟩ = some (.int .i64 a0_1) := (bC BK222.out 1).trans rfl
    have hfz10_0 := bF BK222.out 0
    have hfz10_1 := bF BK222.out 1
    go_wp2
    go_ret
    exact ⟨yF, xG1 HB.out GE222.out⟩
def impl_setOf.l0 : Nat → Int → List Int → Int → Int → Option (Int)
 | 0, _, _, _, _ => none
 | k + 1, x3, x6, x7, x8 => if x8 < x7 then (if 0 ≤ x8 then (if x8 < (x6.length : Int) then (if 0 ≤ (rd x6 x8) then (impl_setOf.l0 k (Go.bits .or .i64 x3 (shl .i64 1 (rd x6 x8))) x6 x7 (wrap64 (x8 + 1))) else (none)) else (none)) else (none)) else (some x3)
def impl_setOf.f (k : Nat) (l0 : List Int) : Option (Int) := impl_setOf.l0 k 0 l0 (l0.length : Int) 0
theorem impl_setOf.calls (k : Nat) (A0 : Option Addr) (c0 : Nat) (l0 : List Int) (r : Int) (w : World) (hr0 : Kd.C (Kd.int .i64) w A0 l0.length l0) (hc0 : l0.length ≤ c0) (h : impl_setOf.f k l0 = some r) :
  Calls Tryd.prog 32 #[.slice A0 l0.length c0] w fun e w' => e = .returned (.int .i64 r) ∧ Drawn0 w w' := by
 have HR0 := aM hr0
 have HC0 := aM hc0
 clear hr0 hc0
 have H : (impl_setOf.l0 k 0 l0 (l0.length : Int) 0) = some r := h
 clear h
 have H' := aM H
 clear H
 go_enter Tryd.func32, Tryd.ntmps32
 go_wp2
 go_loopg [3, 8] k (fun kq v3 v8 w' => ∃ (x3_1 : Int) (x8_1 : Int), v3 = .int .i64 x3_1 ∧ v8 = .int .i64 x8_1 ∧ Aside0 (impl_setOf.l0 kq x3_1 l0 (l0.length : Int) x8_1 = some r) ∧ Aside0 (kq ≤ k) ∧ Drawn0 w w')
 case atStart => exact ⟨(0), (0), yZ, yZ, H', ⟨Nat.le_refl _⟩, by repeat (first | exact Drawn0.refl _ | apply Drawn0.step)⟩
 case round =>
  clear H'
  obtain ⟨x3_1, x8_1, rfl, rfl, HA, HK1, ⟨m1, rfl⟩⟩ := hrel
  cases gk with
  | zero => exact absurd HA.out (by simp [impl_setOf.l0])
  | succ k1 =>
   have H := HA.out
   clear HA
   simp only [impl_setOf.l0] at H
   by_cases c2 : x8_1 < (l0.length : Int)
   ·
    rw [if_pos c2] at H
    have c2b0 := decide_eq_true c2
    clear c2
    by_cases c3 : 0 ≤ x8_1
    ·
     rw [if_pos c3] at H
     have c3b0 := decide_eq_true c3
     clear c3
     by_cases c4 : x8_1 < (l0.length : Int)
     ·
      rw [if_pos c4] at H
      have c4b0 := decide_eq_true c4
      clear c4
      by_cases c5 : 0 ≤ (rd l0 x8_1)
      ·
       rw [if_pos c5] at H
       have c5b0 := eq_true c5
       have c5b1 : decide (0 ≤ (rd l0 x8_1)) = true := decide_eq_true c5
       clear c5
       obtain ⟨ji6, hji6⟩ := yJ ((shl .i64 1 (rd l0 x8_1)))
       replace H : (impl_setOf.l0 k1 (Go.bits .or .i64 x3_1 (ji6)) l0 (l0.length : Int) (wrap64 (x8_1 + 1))) = some r := by first | (rw [hji6] at H; exact H) | (simp only [hji6] at H ⊢; exact H)
       have hji6_ : (IntKind.i64.wrap (1 * 2 ^ min (rd l0 x8_1).toNat 64)) = ji6 := hji6
       have hji6z : (rd l0 x8_1) ≤ 64 → (IntKind.i64.wrap (1 * 2 ^ (rd l0 x8_1).toNat)) = ji6 := shl_small hji6
       have hji6u : (IntKind.i64.wrap (2 ^ min (rd l0 x8_1).toNat 64)) = ji6 := by have h_ := hji6_; rw [Int.one_mul] at h_; exact h_
       have hji6v : (rd l0 x8_1) ≤ 64 → (IntKind.i64.wrap (2 ^ (rd l0 x8_1).toNat)) = ji6 := fun hle_ => by have h_ := hji6z hle_; rw [Int.one_mul] at h_; exact h_
       have hji6y : (wrap64 (1 * 2 ^ min (rd l0 x8_1).toNat 64)) = ji6 := (i64_w _).symm.trans hji6_
       have hji6x : (rd l0 x8_1) ≤ 64 → (wrap64 (1 * 2 ^ (rd l0 x8_1).toNat)) = ji6 := fun h_ => (i64_w _).symm.trans (hji6z h_)
       have H' := aM H
       clear H
       have p224 : 0 ≤ (x8_1 : Int) := yA
       have q224 : x8_1 < (l0.length : Int) := yA
       obtain ⟨ad224, e224, hx224_0⟩ := Kd.at_int HR0.out x8_1 p224 q224
       cases e224
       replace p224 := eq_true p224
       replace q224 := eq_true q224
       go_wp2
       go_roundg k1
       case measure => have := HK1.out; omega
       case rel => exact ⟨(Go.bits .or .i64 x3_1 (ji6)), (wrap64 (x8_1 + 1)), (by first | rfl | (simp; done) | (simp only [← hji6] <;> (first | rfl | simp)) | (simp [*]; done)), yZ, H', ⟨by have := HK1.out; omega⟩, by repeat (first | exact Drawn0.refl _ | apply Drawn0.step)⟩
      ·
       rw [if_neg c5] at H
       exact absurd H (by simp)
     ·
      rw [if_neg c4] at H
      exact absurd H (by simp)
    ·
     rw [if_neg c3] at H
     exact absurd H (by simp)
   ·
    rw [if_neg c2] at H
    have c2b0 := decide_eq_false c2
    clear c2
    obtain rfl := Option.some.inj H
    go_wp2
    go_ret
    exact ⟨by first | rfl | (simp; done) | (simp [*]; done), by repeat (first | exact Drawn0.refl _ | apply Drawn0.step)⟩
def impl_WinsWith.j0 : Nat → List Int → Bool → List Int → Int → Option (Bool × Bool)
 | 0, _, _, _, _ => none
 | k + 1, x1, x16, x226000, x226001 => if x16 = true then (some (false, false)) else ((impl_setOf.f k x1).bind fun t228 => ((impl_Vote_wins.f k x226000 x226001 t228).bind fun t229 => (some (t229, true))))
def impl_WinsWith.f (k : Nat) (l0_0 : List Int) (a0_1 : Int) (l1 : List Int) : Option (Bool × Bool) := (impl_IsVote.f k l0_0 a0_1).bind fun t226 => (if t226 = true then ((impl_isSet.f k l1 (l0_0.length : Int)).bind fun t227 => (impl_WinsWith.j0 k l1 (!t227) l0_0 a0_1)) else (impl_WinsWith.j0 k l1 true l0_0 a0_1))
theorem impl_WinsWith.calls (k : Nat) (A0_0 : Option Addr) (c0_0 : Nat) (l0_0 : List Int) (a0_1 : Int) (A1 : Option Addr) (c1 : Nat) (l1 : List Int) (r1 : Bool) (r2 : Bool) (w : World) (hr0_0 : Kd.C (Kd.int .i64) w A0_0 l0_0.length l0_0) (hc0_0 : l0_0.length ≤ c0_0) (hr1 : Kd.C (Kd.int .i64) w A1 l1.length l1) (hc1 : l1.length ≤ c1) (h : impl_WinsWith.f k l0_0 a0_1 l1 = some (r1, r2)) :
  Calls Tryd.prog 6 #[.agg #[.slice A0_0 l0_0.length c0_0, .int .i64 a0_1], .slice A1 l1.length c1] w fun e w' => e = .returned (.tuple #[.bool r1, .bool r2]) ∧ Below w.heap.size w w' := by
 have hu26 := Tryd.underlying26
 have HR0_0 := aM hr0_0
 have HC0_0 := aM hc0_0
 clear hr0_0 hc0_0
 have HR1 := aM hr1
 have HC1 := aM hc1
 clear hr1 hc1
 have HB := aM (Below.refl w.heap.size w)
 have H : ((impl_IsVote.f k l0_0 a0_1).bind fun t226 => (if t226 = true then ((impl_isSet.f k l1 (l0_0.length : Int)).bind fun t227 => (impl_WinsWith.j0 k l1 (!t227) l0_0 a0_1)) else (impl_WinsWith.j0 k l1 true l0_0 a0_1))) = some (r1, r2) := h
 clear h
 have HC3 := aM H
 clear H
 go_enter Tryd.func6, Tryd.ntmps6
 go_upto_region 1 with (first | ((with_reducible refine gate_dst (N := 2) rfl ?_); (try (refine gate_guard (by rfl) ?_; dsimp only)); refine yB 2 #[.slice A0_0 l0_0.length c0_0, .int .i64 a0_1] 26 ?_; intro gb225 hg w4 hbox hb; have BK225 := aM (hbox); have GW225 := yV0 hg HB; have GE225 := yV0 hg HB; replace HB := yS0 HB hb; clear hb hbox hg))
 (try simp only [Act.put, sA, sZ, sU])
 go_cut [16] (fun v16 wc => ∃ (kq : Nat) (x16_2 : Bool), v16 = .bool x16_2 ∧ Aside0 (impl_WinsWith.j0 kq l1 x16_2 l0_0 a0_1 = some (r1, r2)) ∧ Aside0 (kq ≤ k) ∧ Aside0 (wc.heap[gb225]? = some (.cells #[(.slice A0_0 l0_0.length c0_0), .int .i64 a0_1] 26 (0, 0))) ∧ Aside0 (Below w.heap.size w wc))
 case first =>
  have H := HC3.out
  clear HC3
  replace H := oB.mp H
  obtain ⟨t226, A50, H⟩ := H
  replace H : (if t226 = true then ((impl_isSet.f k l1 (l0_0.length : Int)).bind fun t227 => (impl_WinsWith.j0 k l1 (!t227) l0_0 a0_1)) else (impl_WinsWith.j0 k l1 true l0_0 a0_1)) = some (r1, r2) := H
  have A5 := aM A50
  clear A50
  by_cases c6 : t226 = true
  ·
   subst c6
   have H1 : ((impl_isSet.f k l1 (l0_0.length : Int)).bind fun t227 => (impl_WinsWith.j0 k l1 (!t227) l0_0 a0_1)) = some (r1, r2) := by rw [if_pos rfl] at H; exact H
   clear H
   have H := H1
   clear H1
   replace H := oB.mp H
   obtain ⟨t227, A70, H⟩ := H
   replace H : (impl_WinsWith.j0 k l1 (!t227) l0_0 a0_1) = some (r1, r2) := H
   have A7 := aM A70
   clear A70
   have H' := aM H
   clear H
   have hcz8_0 := yC0 BK225
   have hcz8_1 := yC1 BK225
   have hfz8_0 := bF BK225.out 0
   have hfz8_1 := bF BK225.out 1
   go_wp2_with (first | (refine yL 7 Tryd.func10 #[.agg #[.slice A0_0 l0_0.length c0_0, .int .i64 a0_1]] ?_; (with_reducible refine (impl_IsVote.calls k _ _ l0_0 a0_1 true _ ?side1 ?side2 A5.out).mono ?_); (case side1 => exact xC (Kd.C_below HR0_0.out HB.out)); (case side2 => exact HC0_0.out); rintro e w9 ⟨rfl, hb⟩; refine ⟨_, rfl, ?_⟩; replace BK225 := yK BK225 hb; replace HB := yS1 HB GE225 hb; (try clear hb; try clear hb2; try clear hk; try clear hi); obtain ⟨hcz10_0, hcz10_1, hfz10_0, hfz10_1⟩ := yD2 BK225) | (go_at_call 30; (with_reducible refine (impl_isSet.calls k _ _ l1 (l0_0.length : Int) t227 _ ?side1 ?side2 A7.out).mono ?_); (case side1 => exact xC (Kd.C_below HR1.out HB.out)); (case side2 => exact HC1.out); rintro e w' ⟨rfl, ⟨nd, rfl⟩⟩))
   go_meet
   case rel => exact ⟨_, (!t227), yZ, H', ⟨yM⟩, ⟨xB BK225.out⟩, ⟨xG1 HB.out GE225.out⟩⟩
  ·
   replace c6 := Bool.eq_false_iff.mpr c6
   subst c6
   have H1 : (impl_WinsWith.j0 k l1 true l0_0 a0_1) = some (r1, r2) := by rw [if_neg (show ¬ (false = true) by decide)] at H; exact H
   clear H
   have H := H1
   clear H1
   have H' := aM H
   clear H
   have hcz11_0 := yC0 BK225
   have hcz11_1 := yC1 BK225
   have hfz11_0 := bF BK225.out 0
   have hfz11_1 := bF BK225.out 1
   go_wp2_with (first | (refine yL 7 Tryd.func10 #[.agg #[.slice A0_0 l0_0.length c0_0, .int .i64 a0_1]] ?_; (with_reducible refine (impl_IsVote.calls k _ _ l0_0 a0_1 false _ ?side1 ?side2 A5.out).mono ?_); (case side1 => exact xC (Kd.C_below HR0_0.out HB.out)); (case side2 => exact HC0_0.out); rintro e w12 ⟨rfl, hb⟩; refine ⟨_, rfl, ?_⟩; replace BK225 := yK BK225 hb; replace HB := yS1 HB GE225 hb; (try clear hb; try clear hb2; try clear hk; try clear hi)))
   go_meet
   case rel => exact ⟨_, (true), yZ, H', ⟨yM⟩, ⟨xB BK225.out⟩, ⟨xG1 HB.out GE225.out⟩⟩
 case rest =>
  clear HC3
  try clear c1; try clear p2; try clear c6; try clear c10; try clear hcz10_0; try clear hcz10_1; try clear hcz11_0; try clear hcz11_1; try clear hcz8_0; try clear hcz8_1; try clear hfz10_0; try clear hfz10_1; try clear hfz11_0; try clear hfz11_1; try clear hfz8_0; try clear hfz8_1
  obtain ⟨kq, x16_2, rfl, HA, HJ2, BK225, HB⟩ := hcut
  cases kq with
  | zero => exact absurd HA.out (by simp [impl_WinsWith.j0])
  | succ kj2 =>
   have H := HA.out
   clear HA
   simp only [impl_WinsWith.j0] at H
   by_cases c13 : x16_2 = true
   ·
    subst c13
    have H1 : (some (false, false)) = some (r1, r2) := by rw [if_pos rfl] at H; exact H
    clear H
    have H := H1
    clear H1
    simp only [Option.some.injEq, Prod.mk.injEq] at H
    obtain ⟨rfl, rfl⟩ := H
    go_wp2
    go_ret2
    exact ⟨yF, xG1 HB.out GE225.out⟩
   ·
    replace c13 := Bool.eq_false_iff.mpr c13
    subst c13
    have H1 : ((impl_setOf.f kj2 l1).bind fun t228 => ((impl_Vote_wins.f kj2 l0_0 a0_1 t228).bind fun t229 => (some (t229, true)))) = some (r1, r2) := by rw [if_neg (show ¬ (false = true) by decide)] at H; exact H
    clear H
    have H := H1
    clear H1
    replace H := oB.mp H
    obtain ⟨t228, A140, H⟩ := H
    replace H : ((impl_Vote_wins.f kj2 l0_0 a0_1 t228).bind fun t229 => (some (t229, true))) = some (r1, r2) := H
    have A14 := aM A140
    clear A140
    replace H := oB.mp H
    obtain ⟨t229, A150, H⟩ := H
    replace H : (some (t229, true)) = some (r1, r2) := H
    have A15 := aM A150
    clear A150
    simp only [Option.some.injEq, Prod.mk.injEq] at H
    obtain ⟨rfl, rfl⟩ := H
    try go_wp2
    replace BK225 := aM (bD BK225.out)
    replace HB := aM (eD HB.out)
    refine start_ (n := 6) (S := fun w' => w'.cell? ⟨gb225, 0, none⟩ = some (.slice A0_0 l0_0.length c0_0) ∧ w'.cell? ⟨gb225, 1, none⟩ = some (.int .i64 a0_1)) (ds := []) (bm 6 0) (by kernel_rfl) rfl rfl ⟨(bC BK225.out 0).trans rfl, (bC BK225.out 1).trans rfl⟩ (fun hHeld => ?_)
    generalize wc.drew = w16 at BK225 HB hHeld ⊢
    refine pure_ (i := 1) (N := some 18) (v := ?_) (a' := ?_) (bm 6 2) rfl rfl (by kernel_rfl) (fun _ _ _ h => h) (Or.inl ⟨by rfl, ?_⟩) ?_ ?_
    rotate_left
    ·
     intro w'
     go_simp
     with_reducible rfl
    rotate_left
    ·
     simp only [Act.put, sA, sZ, sU, i64_w, i32_w]
     rfl
    refine take_ (i := 0) (N := some 17) (v := ?_) (a' := ?_) (bm 6 3) rfl rfl (by kernel_rfl) (fun _ _ _ h => h) (Or.inl ⟨by rfl, ?_⟩) hHeld ?_ ?_
    rotate_left
    ·
     rintro w' ⟨s0, s1⟩
     first | (go_simp; with_reducible rfl) | (simp only [add_plain] at s0 s1; go_simp; with_reducible rfl)
    rotate_left
    ·
     simp only [Act.put, sA, sZ, sU, i64_w, i32_w]
     rfl
    refine one_ (i := 2) (N := some 19) (bm 6 7) rfl rfl (by kernel_rfl) (by decide) (fun K hK => ?_)
    refine yG Tryd.func32 #[.slice A1 l1.length c1] ?_
    with_reducible refine (impl_setOf.calls kj2 _ _ l1 t228 _ ?side1 ?side2 A14.out).mono ?_
    (case side1 => exact xC (Kd.C_below HR1.out HB.out))
    (case side2 => exact HC1.out)
    rintro e w' ⟨rfl, ⟨nd, rfl⟩⟩
    refine ⟨_, rfl, ?_⟩
    refine hK.out _ _ ⟨(bC BK225.out 0).trans rfl, (bC BK225.out 1).trans rfl⟩ (fun hHeld => ?_)
    clear hK K
    refine norm_ (a' := ?_) ?_ ?_
    rotate_left
    ·
     show Act.put _ (some 19) _ = _
     simp only [Act.put, sA, sZ, sU, i64_w, i32_w]
     rfl
    refine one_ (i := 3) (N := some 20) (bm 6 15) rfl rfl (by kernel_rfl) (by decide) (fun K hK => ?_)
    refine yG Tryd.func31 #[.agg #[.slice A0_0 l0_0.length c0_0, .int .i64 a0_1], .int .i64 t228] ?_
    with_reducible refine (impl_Vote_wins.calls kj2 _ _ l0_0 a0_1 t228 t229 _ ?side1 ?side2 A15.out).mono ?_
    (case side1 => exact xC (Kd.C_below HR0_0.out (xG1 HB.out GE225.out)))
    (case side2 => exact HC0_0.out)
    rintro e w17 ⟨rfl, hb⟩
    refine ⟨_, rfl, ?_⟩
    replace BK225 := yK BK225 hb
    replace HB := yS1 HB GE225 hb
    (try clear hb)
    (try clear hb2)
    (try clear hk)
    (try clear hi)
    refine hK.out _ _ ⟨(bC BK225.out 0).trans rfl, (bC BK225.out 1).trans rfl⟩ (fun hHeld => ?_)
    clear hK K
    refine norm_ (a' := ?_) ?_ ?_
    rotate_left
    ·
     show Act.put _ (some 20) _ = _
     simp only [Act.put, sA, sZ, sU, i64_w, i32_w]
     rfl
    refine pure_ (i := 4) (N := some 4) (v := ?_) (a' := ?_) (bm 6 31) rfl rfl (by kernel_rfl) (fun _ _ _ h => h) (Or.inl ⟨by rfl, ?_⟩) ?_ ?_
    rotate_left
    ·
     intro w'
     go_simp
     with_reducible rfl
    rotate_left
    ·
     simp only [Act.put, sA, sZ, sU, i64_w, i32_w]
     rfl
    refine pure_ (i := 5) (N := some 5) (v := ?_) (a' := ?_) (bm 6 63) rfl rfl (by kernel_rfl) (fun _ _ _ h => h) (Or.inl ⟨by rfl, ?_⟩) ?_ ?_
    rotate_left
    ·
     intro w'
     go_simp
     with_reducible rfl
    rotate_left
    ·
     simp only [Act.put, sA, sZ, sU, i64_w, i32_w]
     rfl
    refine done_ (by kernel_rfl) ?_
    try go_wp2
    go_ret2
    exact ⟨yF, xG1 HB.out GE225.out⟩
def spec_l1In.f (a0 : Int) (a1 : Int) (a2 : Int) : Option (Bool) := if a0 ≥ a1 then (some (decide (a0 ≤ a2))) else (some false)
theorem spec_l1In.calls (a0 : Int) (a1 : Int) (a2 : Int) (r : Bool) (w : World) (h : spec_l1In.f a0 a1 a2 = some r) :
  Calls Tryd.prog 57 #[.int .i64 a0, .int .i64 a1, .int .i64 a2] w fun e w' => e = .returned (.bool r) ∧ Drawn0 w w' := by
 have H : (if a0 ≥ a1 then (some (decide (a0 ≤ a2))) else (some false)) = some r := h
 clear h
 by_cases c4 : a0 ≥ a1
 ·
  rw [if_pos c4] at H
  have c4b0 : decide (a1 ≤ a0) = true := decide_eq_true c4
  clear c4
  obtain rfl := Option.some.inj H
  go_enter Tryd.func57, Tryd.ntmps57
  go_wp2
  go_ret
  exact ⟨by first | rfl | (simp; done) | (simp [*]; done), by repeat (first | exact Drawn0.refl _ | apply Drawn0.step)⟩
 ·
  rw [if_neg c4] at H
  have c4b0 : decide (a1 ≤ a0) = false := decide_eq_false c4
  clear c4
  obtain rfl := Option.some.inj H
  go_enter Tryd.func57, Tryd.ntmps57
  go_wp2
  go_ret
  exact ⟨by first | rfl | (simp; done) | (simp [*]; done), by repeat (first | exact Drawn0.refl _ | apply Drawn0.step)⟩
mutual
def spec_l6Vote.l0 : Nat → Int → Int → List Int → Int → Option (Bool)
 | 0, _, _, _, _ => none
 | k + 1, x3, x4, x231000, x231001 => if x4 < (x231000.length : Int) then (spec_l6Vote.j1 k x3 x4 (decide (x4 ≤ 8)) x231000 x231001) else (spec_l6Vote.j1 k x3 x4 false x231000 x231001)
def spec_l6Vote.j1 : Nat → Int → Int → Bool → List Int → Int → Option (Bool)
 | 0, _, _, _, _, _ => none
 | k + 1, x3, x4, x13, x231000, x231001 => if x13 = true then (if 0 ≤ x4 then (if x4 < (x231000.length : Int) then ((spec_l1In.f (rd x231000 x4) 0 20).bind fun t232 => (if t232 = true then (spec_l6Vote.l0 k (wrap64 (x3 + (rd x231000 x4))) (wrap64 (x4 + 1)) x231000 x231001) else (some false))) else (none)) else (none)) else ((spec_l1In.f (x231000.length : Int) 1 8).bind fun t234 => (if t234 = true then ((spec_l1In.f x231001 1 x3).bind fun t235 => (some t235)) else (some false)))
end
def spec_l6Vote.f (k : Nat) (l0_0 : List Int) (a0_1 : Int) : Option (Bool) := spec_l6Vote.l0 k 0 0 l0_0 a0_1
theorem spec_l6Vote.calls (k : Nat) (A0_0 : Option Addr) (c0_0 : Nat) (l0_0 : List Int) (a0_1 : Int) (r : Bool) (w : World) (hr0_0 : Kd.C (Kd.int .i64) w A0_0 l0_0.length l0_0) (hc0_0 : l0_0.length ≤ c0_0) (h : spec_l6Vote.f k l0_0 a0_1 = some r) :
  Calls Tryd.prog 38 #[.agg #[.slice A0_0 l0_0.length c0_0, .int .i64 a0_1]] w fun e w' => e = .returned (.bool r) ∧ Below w.heap.size w w' := by
 have hu26 := Tryd.underlying26
 have HR0_0 := aM hr0_0
 have HC0_0 := aM hc0_0
 clear hr0_0 hc0_0
 have HB := aM (Below.refl w.heap.size w)
 have H : (spec_l6Vote.l0 k 0 0 l0_0 a0_1) = some r := h
 clear h
 have H' := aM H
 clear H
 go_enter Tryd.func38, Tryd.ntmps38
 go_wp2_with (first | (refine yB 1 #[.slice A0_0 l0_0.length c0_0, .int .i64 a0_1] 26 ?_; intro gb230 hg w2 hbox hb; have BK230 := aM (hbox); have GW230 := yV0 hg HB; have GE230 := yV0 hg HB; replace HB := yS0 HB hb; clear hb hbox hg))
 go_loopg [3, 4] k (fun kq v3 v4 w' => ∃ (x3_1 : Int) (x4_1 : Int), v3 = .int .i64 x3_1 ∧ v4 = .int .i64 x4_1 ∧ Aside0 (spec_l6Vote.l0 kq x3_1 x4_1 l0_0 a0_1 = some r) ∧ Aside0 (kq ≤ k) ∧ Aside0 (w'.heap[gb230]? = some (.cells #[(.slice A0_0 l0_0.length c0_0), .int .i64 a0_1] 26 (0, 0))) ∧ Aside0 (Below w.heap.size w w'))
 case atStart => exact ⟨(0), (0), yZ, yZ, H', ⟨Nat.le_refl _⟩, ⟨xB BK230.out⟩, ⟨xG1 HB.out GE230.out⟩⟩
 case round =>
  clear H'
  try clear p2
  obtain ⟨x3_1, x4_1, rfl, rfl, HA, HK1, BK230, HB⟩ := hrel
  cases gk with
  | zero => exact absurd HA.out (by simp [spec_l6Vote.l0])
  | succ k1 =>
   have H := HA.out
   clear HA
   simp only [spec_l6Vote.l0] at H
   have HC3 := aM H
   clear H
   go_upto_region 3 with (fail)
   go_cut [13] (fun v13 wc => ∃ (kq : Nat) (x13_2 : Bool), v13 = .bool x13_2 ∧ Aside0 (spec_l6Vote.j1 kq x3_1 x4_1 x13_2 l0_0 a0_1 = some r) ∧ Aside0 (kq ≤ k1) ∧ Aside0 (wc.heap[gb230]? = some (.cells #[(.slice A0_0 l0_0.length c0_0), .int .i64 a0_1] 26 (0, 0))) ∧ Aside0 (Below w.heap.size w wc))
   case first =>
    have H := HC3.out
    clear HC3
    by_cases c4 : x4_1 < (l0_0.length : Int)
    ·
     rw [if_pos c4] at H
     have c4b0 := decide_eq_true c4
     clear c4
     (first | rw [c4b0] | (simp only [i64_w, i32_w]; rw [c4b0]) | skip)
     have H' := aM H
     clear H
     have hcz5_0 : wr.cell? ⟨gb230, 0, none⟩ = some (.slice A0_0 l0_0.length c0_0) := (bC BK230.out 0).trans rfl
     have hcz5_1 : wr.cell? ⟨gb230, 1, none⟩ = some (.int .i64 a0_1) := (bC BK230.out 1).trans rfl
     have hfz5_0 := bF BK230.out 0
     have hfz5_1 := bF BK230.out 1
     go_wp2
     go_meet
     case rel => exact ⟨_, (decide (x4_1 ≤ 8)), yZ, H', ⟨by have := HK1.out; first | omega | exact Nat.le_refl _⟩, ⟨xB BK230.out⟩, ⟨xG1 HB.out GE230.out⟩⟩
    ·
     rw [if_neg c4] at H
     have c4b0 := decide_eq_false c4
     clear c4
     (first | rw [c4b0] | (simp only [i64_w, i32_w]; rw [c4b0]) | skip)
     have H' := aM H
     clear H
     have hcz6_0 : wr.cell? ⟨gb230, 0, none⟩ = some (.slice A0_0 l0_0.length c0_0) := (bC BK230.out 0).trans rfl
     have hcz6_1 : wr.cell? ⟨gb230, 1, none⟩ = some (.int .i64 a0_1) := (bC BK230.out 1).trans rfl
     have hfz6_0 := bF BK230.out 0
     have hfz6_1 := bF BK230.out 1
     go_wp2
     go_meet
     case rel => exact ⟨_, (false), yZ, H', ⟨by have := HK1.out; first | omega | exact Nat.le_refl _⟩, ⟨xB BK230.out⟩, ⟨xG1 HB.out GE230.out⟩⟩
   case rest =>
    clear HC3
    try clear p2; try clear c3; try clear c4; try clear c4b0; try clear hcz5_0; try clear hcz5_1; try clear hcz6_0; try clear hcz6_1; try clear hfz5_0; try clear hfz5_1; try clear hfz6_0; try clear hfz6_1; try clear p2
    obtain ⟨kq, x13_2, rfl, HA, HJ2, BK230, HB⟩ := hcut
    cases kq with
    | zero => exact absurd HA.out (by simp [spec_l6Vote.j1])
    | succ kj2 =>
     have H := HA.out
     clear HA
     simp only [spec_l6Vote.j1] at H
     by_cases c7 : x13_2 = true
     ·
      subst c7
      have H1 : (if 0 ≤ x4_1 then (if x4_1 < (l0_0.length : Int) then ((spec_l1In.f (rd l0_0 x4_1) 0 20).bind fun t232 => (if t232 = true then (spec_l6Vote.l0 kj2 (wrap64 (x3_1 + (rd l0_0 x4_1))) (wrap64 (x4_1 + 1)) l0_0 a0_1) else (some false))) else (none)) else (none)) = some r := by rw [if_pos rfl] at H; exact H
      clear H
      have H := H1
      clear H1
      by_cases c8 : 0 ≤ x4_1
      ·
       rw [if_pos c8] at H
       have c8b0 := decide_eq_true c8
       clear c8
       by_cases c9 : x4_1 < (l0_0.length : Int)
       ·
        rw [if_pos c9] at H
        have c9b0 := decide_eq_true c9
        clear c9
        replace H := oB.mp H
        obtain ⟨t232, A100, H⟩ := H
        replace H : (if t232 = true then (spec_l6Vote.l0 kj2 (wrap64 (x3_1 + (rd l0_0 x4_1))) (wrap64 (x4_1 + 1)) l0_0 a0_1) else (some false)) = some r := H
        have A10 := aM A100
        clear A100
        by_cases c11 : t232 = true
        ·
         subst c11
         have H1 : (spec_l6Vote.l0 kj2 (wrap64 (x3_1 + (rd l0_0 x4_1))) (wrap64 (x4_1 + 1)) l0_0 a0_1) = some r := by rw [if_pos rfl] at H; exact H
         clear H
         have H := H1
         clear H1
         have H' := aM H
         clear H
         have hcz12_0 : wc.cell? ⟨gb230, 0, none⟩ = some (.slice A0_0 l0_0.length c0_0) := (bC BK230.out 0).trans rfl
         have hcz12_1 : wc.cell? ⟨gb230, 1, none⟩ = some (.int .i64 a0_1) := (bC BK230.out 1).trans rfl
         have hfz12_0 := bF BK230.out 0
         have hfz12_1 := bF BK230.out 1
         have p231 : 0 ≤ (x4_1 : Int) := yA
         have q231 : x4_1 < (l0_0.length : Int) := yA
         obtain ⟨ad231, e231, hx231_0⟩ := Kd.at_int HR0_0.out x4_1 p231 q231
         cases e231
         replace hx231_0 := (HB.out.cell (World.block_lt_of_cell? w _ hx231_0)).trans hx231_0
         replace p231 := eq_true p231
         replace q231 := eq_true q231
         go_wp2_with (first | (refine yL 21 Tryd.func57 #[.int .i64 (rd l0_0 x4_1), .int .i64 0, .int .i64 20] ?_; (with_reducible refine (spec_l1In.calls (rd l0_0 x4_1) 0 20 true _ A10.out).mono ?_); rintro e w' ⟨rfl, ⟨nd, rfl⟩⟩; refine ⟨_, rfl, ?_⟩; have p233 : 0 ≤ (x4_1 : Int) := yA; have q233 : x4_1 < (l0_0.length : Int) := yA; obtain ⟨ad233, e233, hx233_0⟩ := Kd.at_int HR0_0.out x4_1 p233 q233; obtain rfl : ad231 = ad233 := (by injection e233); replace hx233_0 := (HB.out.cell (World.block_lt_of_cell? w _ hx233_0)).trans hx233_0; replace p233 := eq_true p233; replace q233 := eq_true q233))
         go_roundg kj2
         case measure => have := HK1.out; have := HJ2.out; omega
         case rel => exact ⟨(wrap64 (x3_1 + (rd l0_0 x4_1))), (wrap64 (x4_1 + 1)), yZ, yZ, H', ⟨by have := HK1.out; have := HJ2.out; omega⟩, ⟨xB BK230.out⟩, ⟨xG1 HB.out GE230.out⟩⟩
        ·
         replace c11 := Bool.eq_false_iff.mpr c11
         subst c11
         have H1 : (some false) = some r := by rw [if_neg (show ¬ (false = true) by decide)] at H; exact H
         clear H
         have H := H1
         clear H1
         obtain rfl := Option.some.inj H
         have hcz13_0 : wc.cell? ⟨gb230, 0, none⟩ = some (.slice A0_0 l0_0.length c0_0) := (bC BK230.out 0).trans rfl
         have hcz13_1 : wc.cell? ⟨gb230, 1, none⟩ = some (.int .i64 a0_1) := (bC BK230.out 1).trans rfl
         have hfz13_0 := bF BK230.out 0
         have hfz13_1 := bF BK230.out 1
         have p231 : 0 ≤ (x4_1 : Int) := yA
         have q231 : x4_1 < (l0_0.length : Int) := yA
         obtain ⟨ad231, e231, hx231_0⟩ := Kd.at_int HR0_0.out x4_1 p231 q231
         cases e231
         replace hx231_0 := (HB.out.cell (World.block_lt_of_cell? w _ hx231_0)).trans hx231_0
         replace p231 := eq_true p231
         replace q231 := eq_true q231
         go_wp2_with (first | (refine yL 21 Tryd.func57 #[.int .i64 (rd l0_0 x4_1), .int .i64 0, .int .i64 20] ?_; (with_reducible refine (spec_l1In.calls (rd l0_0 x4_1) 0 20 false _ A10.out).mono ?_); rintro e w' ⟨rfl, ⟨nd, rfl⟩⟩; refine ⟨_, rfl, ?_⟩))
         go_ret
         exact ⟨yF, xG1 HB.out GE230.out⟩
       ·
        rw [if_neg c9] at H
        exact absurd H (by simp)
      ·
       rw [if_neg c8] at H
       exact absurd H (by simp)
     ·
      replace c7 := Bool.eq_false_iff.mpr c7
      subst c7
      have H1 : ((spec_l1In.f (l0_0.length : Int) 1 8).bind fun t234 => (if t234 = true then ((spec_l1In.f a0_1 1 x3_1).bind fun t235 => (some t235)) else (some false))) = some r := by rw [if_neg (show ¬ (false = true) by decide)] at H; exact H
      clear H
      have H := H1
      clear H1
      replace H := oB.mp H
      obtain ⟨t234, A140, H⟩ := H
      replace H : (if t234 = true then ((spec_l1In.f a0_1 1 x3_1).bind fun t235 => (some t235)) else (some false)) = some r := H
      have A14 := aM A140
      clear A140
      by_cases c15 : t234 = true
      ·
       subst c15
       have H1 : ((spec_l1In.f a0_1 1 x3_1).bind fun t235 => (some t235)) = some r := by rw [if_pos rfl] at H; exact H
       clear H
       have H := H1
       clear H1
       replace H := oB.mp H
       obtain ⟨t235, A160, H⟩ := H
       replace H : (some t235) = some r := H
       have A16 := aM A160
       clear A160
       obtain rfl := Option.some.inj H
       have hcz17_0 : wc.cell? ⟨gb230, 0, none⟩ = some (.slice A0_0 l0_0.length c0_0) := (bC BK230.out 0).trans rfl
       have hcz17_1 : wc.cell? ⟨gb230, 1, none⟩ = some (.int .i64 a0_1) := (bC BK230.out 1).trans rfl
       have hfz17_0 := bF BK230.out 0
       have hfz17_1 := bF BK230.out 1
       go_wp2_with (first | (refine yL 33 Tryd.func57 #[.int .i64 (l0_0.length : Int), .int .i64 1, .int .i64 8] ?_; (with_reducible refine (spec_l1In.calls (l0_0.length : Int) 1 8 true _ A14.out).mono ?_); rintro e w' ⟨rfl, ⟨nd, rfl⟩⟩; refine ⟨_, rfl, ?_⟩) | (go_at_call 57; (with_reducible refine (spec_l1In.calls a0_1 1 x3_1 t235 _ A16.out).mono ?_); rintro e w' ⟨rfl, ⟨nd, rfl⟩⟩))
       go_ret
       exact ⟨yF, xG1 HB.out GE230.out⟩
      ·
       replace c15 := Bool.eq_false_iff.mpr c15
       subst c15
       have H1 : (some false) = some r := by rw [if_neg (show ¬ (false = true) by decide)] at H; exact H
       clear H
       have H := H1
       clear H1
       obtain rfl := Option.some.inj H
       have hcz18_0 : wc.cell? ⟨gb230, 0, none⟩ = some (.slice A0_0 l0_0.length c0_0) := (bC BK230.out 0).trans rfl
       have hcz18_1 : wc.cell? ⟨gb230, 1, none⟩ = some (.int .i64 a0_1) := (bC BK230.out 1).trans rfl
       have hfz18_0 := bF BK230.out 0
       have hfz18_1 := bF BK230.out 1
       go_wp2_with (first | (refine yL 33 Tryd.func57 #[.int .i64 (l0_0.length : Int), .int .i64 1, .int .i64 8] ?_; (with_reducible refine (spec_l1In.calls (l0_0.length : Int) 1 8 false _ A14.out).mono ?_); rintro e w' ⟨rfl, ⟨nd, rfl⟩⟩; refine ⟨_, rfl, ?_⟩))
       go_ret
       exact ⟨yF, xG1 HB.out GE230.out⟩
end Go.Proofs.YtkgekmpnbhomgaaDoor.PFnVotes
