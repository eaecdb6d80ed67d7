-- Laid for this claim by a program of the session's own (wip/tool/myprint.py).
import Derived.Test.YtddpdeoflaigeaaMFnExactIntervalClassx0
import Derived.Test.YtddpdeoflaigeaaMFnExactIntervalClassx1
import Derived.Test.YtddpdeoflaigeaaMFnExactIntervalClassx2
namespace Go.Proofs.Ytddpdeoflaigeaa.PFnExactIntervalClass
open Go.RowKit Go.Proofs.YtddpdeoflaigeaaW.PrintWords Go.Proofs.YtddpdeoflaigeaaW.PrintLast Go.Proofs.YtddpdeoflaigeaaW.PrintMore
attribute [local go_sem] max2_int min2_int max_two min_two max_three min_three max_four min_four   -- for this text's walks alone
set_option linter.unusedVariables false
set_option linter.unusedSimpArgs false

/-! ### laws_heldIntSS: function 18 -/
def laws_heldIntSS.l0 : Nat → List (List Int) → Int → Int → Option (Int)
  | 0, _, _, _ => none
  | k + 1, x0, x1, x5 => if x5 < (x0.length : Int) then (if 0 ≤ x5 then ((laws_heldIntS.f k (rd_L1 x0 x5) x1).bind fun t138 => (if t138 < 0 then (some (-1)) else (laws_heldIntSS.l0 k x0 t138 (wrap64 (x5 + 1))))) else (none)) else (some x1)
def laws_heldIntSS.f (k : Nat) (l0 : List (List Int)) (a1 : Int) : Option (Int) := laws_heldIntSS.l0 k l0 a1 0
theorem laws_heldIntSS.mono_l : ∀ k, (∀ y0 y1 y2, LeO (laws_heldIntSS.l0 k y0 y1 y2) (laws_heldIntSS.l0 (k + 1) y0 y1 y2))
  | 0 => fun _ _ _ r h => by simp [laws_heldIntSS.l0] at h
  | k + 1 => by
    have ih0 := laws_heldIntSS.mono_l k
    · intro y0 y1 y2
      unfold laws_heldIntSS.l0
      repeat' first
      | (with_reducible exact ih0 _ _ _)
      | (with_reducible exact laws_heldIntS.mono _ _ _)
      | (with_reducible exact LeO.refl _)
      | (with_reducible exact LeO.none _)
      | (with_reducible refine LeO.ite ?_ ?_)
      | (with_reducible refine LeO.bind ?_ (fun _ => ?_))
      | exact ih0 _ _ _
      | exact laws_heldIntS.mono _ _ _
      | exact LeO.none _
      | refine LeO.ite ?_ ?_
      | refine LeO.bind ?_ (fun _ => ?_)
theorem laws_heldIntSS.mono : ∀ a0 a1 k, LeO (laws_heldIntSS.f k a0 a1) (laws_heldIntSS.f (k + 1) a0 a1) := by
  intro a0 a1 k
  have ih0 := laws_heldIntSS.mono_l k
  unfold laws_heldIntSS.f
  repeat' first
      | (with_reducible exact ih0 _ _ _)
      | (with_reducible exact laws_heldIntS.mono _ _ _)
      | (with_reducible exact LeO.refl _)
      | (with_reducible exact LeO.none _)
      | (with_reducible refine LeO.ite ?_ ?_)
      | (with_reducible refine LeO.bind ?_ (fun _ => ?_))
      | exact ih0 _ _ _
      | exact laws_heldIntS.mono _ _ _
      | exact LeO.none _
      | refine LeO.ite ?_ ?_
      | refine LeO.bind ?_ (fun _ => ?_)
set_option maxHeartbeats 8000000 in
set_option maxRecDepth 100000 in
theorem laws_heldIntSS.calls (k : Nat) (A0 : Option Addr) (c0 : Nat) (l0 : List (List Int)) (a1 : Int) (r : Int) (w : World) (hr0 : Kd.C (Kd.slice 3 (Kd.int .i64)) w A0 l0.length l0) (hc0 : l0.length ≤ c0) (h : laws_heldIntSS.f k l0 a1 = some r) :
    Calls Try.prog 18 #[.slice A0 l0.length c0, .int .i64 a1] w fun e w' => e = .returned (.int .i64 r) ∧ Drawn0 w w' := by
  have HR0 := Aside0.mk hr0
  have HC0 := Aside0.mk hc0
  clear hr0 hc0
  have H : (laws_heldIntSS.l0 k l0 a1 0) = some r := h
  clear h
  have H' := Aside0.mk H
  clear H
  go_enter Try.func18, Try.ntmps18
  go_wp2
  go_loopg [1, 5] k (fun kq v1 v5 w' => ∃ (x1_1 : Int) (x5_1 : Int), v1 = .int .i64 x1_1 ∧ v5 = .int .i64 x5_1 ∧ Aside0 (laws_heldIntSS.l0 kq l0 x1_1 x5_1 = some r) ∧ Aside0 (kq ≤ k) ∧ Drawn0 w w')
  case atStart => exact ⟨(a1), (0), (by first | rfl | (simp; done) | (simp [*]; done)), (by first | rfl | (simp; done) | (simp [*]; done)), H', ⟨Nat.le_refl _⟩, by repeat (first | exact Drawn0.refl _ | apply Drawn0.step)⟩
  case round =>
    clear H'
    try clear c1
    try clear p2
    obtain ⟨x1_1, x5_1, rfl, rfl, HA, HK1, ⟨m1, rfl⟩⟩ := hrel
    cases gk with
    | zero => exact absurd HA.out (by simp [laws_heldIntSS.l0])
    | succ k1 =>
      have H := HA.out
      clear HA
      simp only [laws_heldIntSS.l0] at H
      by_cases c3 : x5_1 < (l0.length : Int)
      · rw [if_pos c3] at H
        have c3b0 : decide (x5_1 < (l0.length : Int)) = true := decide_eq_true c3
        clear c3
        by_cases c4 : 0 ≤ x5_1
        · rw [if_pos c4] at H
          have c4b0 : decide (0 ≤ x5_1) = true := decide_eq_true c4
          clear c4
          replace H := Option.bind_eq_some_iff.mp H
          obtain ⟨t138, A50, H⟩ := H
          replace H : (if t138 < 0 then (some (-1)) else (laws_heldIntSS.l0 k1 l0 t138 (wrap64 (x5_1 + 1)))) = some r := H
          have A5 := Aside0.mk A50
          clear A50
          by_cases c6 : t138 < 0
          · rw [if_pos c6] at H
            have c6b0 : decide (t138 < 0) = true := decide_eq_true c6
            clear c6
            obtain rfl := Option.some.inj H
            have p137 : 0 ≤ (x5_1 : Int) := of_decide_eq_true (by first | (with_reducible assumption) | assumption)
            have q137 : x5_1 < (l0.length : Int) := of_decide_eq_true (by first | (with_reducible assumption) | assumption)
            obtain ⟨ad137, A137_0, c137_0, e137, hx137_0, hl137_0, hi137_0⟩ := at_L1 HR0.out x5_1 p137 q137
            cases e137
            have HR137_0 := Aside0.mk hi137_0
            have HC137_0 := Aside0.mk hl137_0
            clear hi137_0 hl137_0
            replace p137 := eq_true p137
            replace q137 := eq_true q137
            go_wp2_with (first | ((with_reducible refine gate_callee (f := 31) rfl ?_); refine goesL_ (some 17) rfl rfl Try.func31 (by kernel_rfl) rfl #[.slice A137_0 (rd_L1 l0 x5_1).length c137_0, .int .i64 x1_1] rfl (by (try simp only [List.map_toArray, List.map_cons, List.map_nil]); first | done | rfl | (simp only [List.length_drop, List.length_take]; rfl)) ?_; (with_reducible refine (laws_heldIntS.calls k1 _ _ (rd_L1 l0 x5_1) x1_1 t138 _ ?side1 ?side2 A5.out).mono ?_); (case side1 => repeat (first | exact HR137_0.out | (with_reducible refine Kd.C_alloc ?_ _) | (with_reducible refine Kd.C_drewN ?_ _) | (with_reducible refine Kd.C_drew ?_))); (case side2 => exact HC137_0.out); rintro e w' ⟨rfl, ⟨nd, rfl⟩⟩; refine ⟨_, rfl, ?_⟩))
            go_ret
            exact ⟨by first | rfl | (simp; done) | (simp [*]; done), by repeat (first | exact Drawn0.refl _ | apply Drawn0.step)⟩
          · rw [if_neg c6] at H
            have c6b0 : decide (t138 < 0) = false := decide_eq_false c6
            clear c6
            have H' := Aside0.mk H
            clear H
            have p137 : 0 ≤ (x5_1 : Int) := of_decide_eq_true (by first | (with_reducible assumption) | assumption)
            have q137 : x5_1 < (l0.length : Int) := of_decide_eq_true (by first | (with_reducible assumption) | assumption)
            obtain ⟨ad137, A137_0, c137_0, e137, hx137_0, hl137_0, hi137_0⟩ := at_L1 HR0.out x5_1 p137 q137
            cases e137
            have HR137_0 := Aside0.mk hi137_0
            have HC137_0 := Aside0.mk hl137_0
            clear hi137_0 hl137_0
            replace p137 := eq_true p137
            replace q137 := eq_true q137
            go_wp2_with (first | ((with_reducible refine gate_callee (f := 31) rfl ?_); refine goesL_ (some 17) rfl rfl Try.func31 (by kernel_rfl) rfl #[.slice A137_0 (rd_L1 l0 x5_1).length c137_0, .int .i64 x1_1] rfl (by (try simp only [List.map_toArray, List.map_cons, List.map_nil]); first | done | rfl | (simp only [List.length_drop, List.length_take]; rfl)) ?_; (with_reducible refine (laws_heldIntS.calls k1 _ _ (rd_L1 l0 x5_1) x1_1 t138 _ ?side1 ?side2 A5.out).mono ?_); (case side1 => repeat (first | exact HR137_0.out | (with_reducible refine Kd.C_alloc ?_ _) | (with_reducible refine Kd.C_drewN ?_ _) | (with_reducible refine Kd.C_drew ?_))); (case side2 => exact HC137_0.out); rintro e w' ⟨rfl, ⟨nd, rfl⟩⟩; refine ⟨_, rfl, ?_⟩))
            go_roundg k1
            case measure => have := HK1.out; omega
            case rel => exact ⟨(t138), (wrap64 (x5_1 + 1)), (by first | rfl | (simp; done) | (simp [*]; done)), (by first | rfl | (simp; done) | (simp [*]; done)), H', ⟨by have := HK1.out; omega⟩, by repeat (first | exact Drawn0.refl _ | apply Drawn0.step)⟩
        · rw [if_neg c4] at H
          exact absurd H (by simp)
      · rw [if_neg c3] at H
        have c3b0 : decide (x5_1 < (l0.length : Int)) = false := decide_eq_false c3
        clear c3
        obtain rfl := Option.some.inj H
        go_wp2
        go_ret
        exact ⟨by first | rfl | (simp; done) | (simp [*]; done), by repeat (first | exact Drawn0.refl _ | apply Drawn0.step)⟩

/-! ### laws_FnExactIntervalClass: function 3 -/
theorem held_n (k : Nat) (A0 : Option Addr) (n c0 : Nat) (l0 : List (List Int)) (a1 : Int) (r : Int) (w : World) (hn : l0.length = n) (hr0 : Kd.C (Kd.slice 3 (Kd.int .i64)) w A0 l0.length l0) (hc0 : n ≤ c0) (h : laws_heldIntSS.f k l0 a1 = some r) :
    Calls Try.prog 18 #[.slice A0 n c0, .int .i64 a1] w fun e w' => e = .returned (.int .i64 r) ∧ Drawn0 w w' := by
  subst hn; exact laws_heldIntSS.calls k A0 c0 l0 a1 r w hr0 hc0 h
/-- The law on the way on which it holds. -/
def laws_FnExactIntervalClass.f (k : Nat) (a0 : Int) : Option Bool :=
  (spec_IntervalClass.f k a0).bind fun w => (impl_IntervalClass.f k a0).bind fun g => if g = w then (laws_eqIntSS.f k g.1 w.1).bind fun e => if e = true then
    (laws_markIntSS.f k g.1 1).bind fun m => (laws_heldIntSS.f k m.2 1).bind fun q => if q = m.1 ∧ 0 ≤ q then some true else none else none else none
theorem laws_FnExactIntervalClass.mono : ∀ a0 k, LeO (laws_FnExactIntervalClass.f k a0) (laws_FnExactIntervalClass.f (k + 1) a0) := by
  intro a0 k
  unfold laws_FnExactIntervalClass.f
  refine LeO.bind (spec_IntervalClass.mono _ k) fun _ => LeO.bind (impl_IntervalClass.mono _ k) fun _ => LeO.ite (LeO.bind (laws_eqIntSS.mono _ _ k) fun _ => LeO.ite (LeO.bind (laws_markIntSS.mono _ _ k) fun _ => LeO.bind (laws_heldIntSS.mono _ _ k) fun _ => LeO.refl _) (LeO.refl _)) (LeO.refl _)
set_option maxHeartbeats 8000000 in
set_option maxRecDepth 100000 in
theorem laws_FnExactIntervalClass.calls (k : Nat) (a0 : Int) (r : Bool) (w : World) (h : laws_FnExactIntervalClass.f k a0 = some r) :
    Calls Try.prog 3 #[.int .i64 a0] w fun e w' => e = .returned (.bool r) ∧ Below w.heap.size w w' := by
  unfold laws_FnExactIntervalClass.f at h
  obtain ⟨⟨R1, R2⟩, hw, h⟩ := Option.bind_eq_some_iff.mp h
  obtain ⟨g, hg, h⟩ := Option.bind_eq_some_iff.mp h
  by_cases e1 : g = (R1, R2)
  · rw [if_pos e1] at h
    subst e1
    obtain ⟨e, he, h⟩ := Option.bind_eq_some_iff.mp h
    by_cases e2 : e = true
    · rw [if_pos e2] at h
      subst e2
      obtain ⟨⟨m, M⟩, hm, h⟩ := Option.bind_eq_some_iff.mp h
      obtain ⟨q, hq, h⟩ := Option.bind_eq_some_iff.mp h
      by_cases e3 : q = m ∧ 0 ≤ q
      · rw [if_pos e3] at h
        cases h
        obtain ⟨rfl, hq0⟩ := e3
        have HW := Aside0.mk hw
        have HG := Aside0.mk hg
        have HE := Aside0.mk he
        have HM := Aside0.mk hm
        have HQ := Aside0.mk hq
        have d0 : decide (q < 0) = false := decide_eq_false (by omega)
        have d1 : (q != q) = false := by simp
        have d2 : (R2 != R2) = false := by simp
        clear hw hg he hm hq hq0
        have FS0_ := Aside0.mk trivial
        have FS1_ := Aside0.mk trivial
        have FS2_ := Aside0.mk trivial
        go_enter Try.func3, Try.ntmps3
        go_wp2_with (first | (go_at_call 14; (with_reducible refine (spec_IntervalClass.calls k a0 R1 R2 _ HW.out).mono ?_); rintro e w1 ⟨vw, rfl, hn, hb⟩; have HN := Aside0.mk (Kd.N_mono (Kd.N_bound hn) (fun k_ hk_ => hk_.2)); have HB := Aside0.mk hb; obtain ⟨Aw, cw, rfl⟩ := Kd.N_slice hn; clear hn hb) | (go_at_call 15; have FST_ := FS0_.out; clear FS0_ FST_; (with_reducible refine (impl_IntervalClass.calls k a0 R1 R2 _ HG.out).mono ?_); rintro e w2 ⟨vg, rfl, hs, hb⟩; have HS := Aside0.mk (Kd.S_mono (ok' := fun k_ => w1.heap.size ≤ k_) (Kd.S_bound hs) (fun k_ hk_ => hk_.2.1)); have HB1 := Aside0.mk hb; have HN2 := Aside0.mk (Kd.N_below HN.out hb); obtain ⟨Ag, cg, rfl⟩ := Kd.S_slice hs; clear hs hb) | (go_at_call 16; have FST_ := FS1_.out; clear FS1_ FST_; (with_reducible refine (laws_eqIntSS.calls k _ _ R1 _ _ R1 true _ (Kd.S_reads' HS.out).2.2 (Kd.S_reads' HS.out).2.1 (Kd.N_reads' HN2.out).2.2 (Kd.N_reads' HN2.out).2.1 HE.out).mono ?_); rintro e w' ⟨rfl, ⟨nd1, rfl⟩⟩) | (go_at_call 17; (with_reducible refine (laws_markIntSS.calls k (fun k_ => w1.heap.size ≤ k_) _ R1 1 q M w1 _ (below_step HB1.out (pw_below_drewN (Below.refl _ _) _)) (Kd.S_drewN HS.out _) HM.out).mono ?_); rintro e w3 ⟨rfl, hs, hb, hk⟩; have HS3 := Aside0.mk hs; have HB3 := Aside0.mk hb; have HN3 := Aside0.mk (Kd.N_kept (Kd.N_drewN HN2.out _) hk (fun k_ hk_ hn_ => by omega)); clear hs hb hk HS HN2 HB1) | (go_at_call 18; have FST_ := FS2_.out; clear FS2_ FST_; (with_reducible refine (held_n k _ _ _ M 1 q _ (Kd.S_reads' HS3.out).1.symm (Kd.S_reads' HS3.out).2.2 (Kd.S_reads' HS3.out).2.1 HQ.out).mono ?_); rintro e w' ⟨rfl, ⟨nd2, rfl⟩⟩) | (go_at_call 15; (with_reducible refine (impl_IntervalClass.calls k a0 R1 R2 _ HG.out).mono ?_); rintro e w4 ⟨vh, rfl, hs, hb⟩; have HS4 := Aside0.mk hs; have HB4 := Aside0.mk hb; have HS5 := Aside0.mk (Kd.S_below (Kd.S_drewN HS3.out _) hb); have HN4 := Aside0.mk (Kd.N_below (Kd.N_drewN HN3.out _) hb); obtain ⟨Ah, chh, rfl⟩ := Kd.S_slice hs; clear hs hb) | (go_at_call 16; (with_reducible refine (laws_eqIntSS.calls k _ _ R1 _ _ R1 true _ (Kd.S_reads' HS4.out).2.2 (Kd.S_reads' HS4.out).2.1 (Kd.N_reads' HN4.out).2.2 (Kd.N_reads' HN4.out).2.1 HE.out).mono ?_); rintro e w' ⟨rfl, ⟨nd3, rfl⟩⟩) | (go_at_call 18; (with_reducible refine (held_n k _ _ _ M 1 q _ (Kd.S_reads' HS5.out).1.symm (Kd.S_reads' (Kd.S_drewN HS5.out _)).2.2 (Kd.S_reads' HS5.out).2.1 HQ.out).mono ?_); rintro e w' ⟨rfl, ⟨nd4, rfl⟩⟩))
        go_ret
        exact ⟨rfl, below_step HB.out (pw_below_drewN (below_step (pw_below_drewN HB3.out _) HB4.out) _)⟩
      · rw [if_neg e3] at h; cases h
    · rw [if_neg e2] at h; cases h
  · rw [if_neg e1] at h; cases h

end Go.Proofs.Ytddpdeoflaigeaa.PFnExactIntervalClass
