-- Laid for this claim by a program of the session's own (wip/tool/myprint.py).
import Derived.Test.YtgidnmpppbkamaaMFnExactIsWeightedx0
import Derived.Test.YtgidnmpppbkamaaMFnExactIsWeightedx1
namespace Go.Proofs.Ytgidnmpppbkamaa.PFnExactIsWeighted
open Go.RowKit Go.Proofs.YtgidnmpppbkamaaW.PrintWords Go.Proofs.YtgidnmpppbkamaaW.PrintLast Go.Proofs.YtgidnmpppbkamaaW.PrintMore
attribute [local go_sem] max2_int min2_int max_two min_two max_three min_three max_four min_four
set_option linter.unusedVariables false
set_option linter.unusedSimpArgs false
mutual
def spec_l4Choose.j0 : Nat → Int → Int → List Int → List (List Int) → Int → Option ((List (List Int)))
 | 0, _, _, _, _, _ => none
 | k + 1, x0, x1, x2, x7, x8 => spec_l4Choose.l0 k x0 x1 x2 x7 x8
def spec_l4Choose.l0 : Nat → Int → Int → List Int → List (List Int) → Int → Option ((List (List Int)))
 | 0, _, _, _, _, _ => none
 | k + 1, x0, x1, x2, x7, x9 => if x9 < x0 then ((spec_l1Own.f x2).bind fun t123 => (if t123.length < 17592186044416 then ((spec_l4Choose.f k x0 x1 (t123 ++ [x9])).bind fun t129 => (if x7.length + t129.length < 5864062014805 then (spec_l4Choose.l0 k x0 x1 x2 (x7 ++ t129) (wrap64 (x9 + 1))) else (none))) else (none))) else (some x7)
def spec_l4Choose.f : Nat → Int → Int → List Int → Option ((List (List Int)))
 | 0, _, _, _ => none
 | k + 1, a0, a1, l2 => if (l2.length : Int) = a1 then (some (([l2] : List (List Int)))) else ((some (([] : List (List Int)) : List (List Int))).bind fun y119 => (if (l2.length : Int) > 0 then (if 0 ≤ (wrap64 ((l2.length : Int) - 1)) then (if (wrap64 ((l2.length : Int) - 1)) < (l2.length : Int) then (spec_l4Choose.j0 k a0 a1 l2 y119 (wrap64 ((rd l2 (wrap64 ((l2.length : Int) - 1))) + 1))) else (none)) else (none)) else (spec_l4Choose.j0 k a0 a1 l2 y119 0)))
end
set_option maxHeartbeats 8000000 in
set_option maxRecDepth 100000 in
theorem spec_l4Choose.calls (k : Nat) : ∀ (a0 : Int) (a1 : Int) (P2_ : Nat → Prop) (A2 : Option Addr) (c2 : Nat) (l2 : List Int) (r : List (List Int)) (w : World) (hs2 : Kd.V (Kd.int .i64) 3 w w.heap.size (fun k_ => P2_ k_) (.slice A2 l2.length c2) l2) (h : spec_l4Choose.f k a0 a1 l2 = some r),
  Calls Try.prog 71 #[.int .i64 a0, .int .i64 a1, .slice A2 l2.length c2] w fun e w' => ∃ v0_ : Value, e = .returned (v0_) ∧ Kd.N (Kd.slice 3 (Kd.int .i64)) 22 w' w.heap.size (fun k_ => (P2_ k_ ∨ w.heap.size ≤ k_)) v0_ r ∧ Below w.heap.size w w' := by
 induction k using Nat.strongRecOn with
 | _ k ih =>
 intro a0 a1 P2_ A2 c2 l2 r w hs2 h
 cases k with
 | zero => exact absurd h (by simp [spec_l4Choose.f])
 | succ k =>
 simp only [spec_l4Choose.f] at h
 have HO2 := aM (show Kd.V (Kd.int .i64) 3 w w.heap.size (fun k_ => (P2_ k_ ∨ w.heap.size ≤ k_)) (.slice A2 l2.length c2) l2 from Kd.V_mono hs2 (fun k_ hk => .inl hk))
 have HB := aM (Below.refl w.heap.size w)
 have H : (if (l2.length : Int) = a1 then (some (([l2] : List (List Int)))) else ((some (([] : List (List Int)) : List (List Int))).bind fun y119 => (if (l2.length : Int) > 0 then (if 0 ≤ (wrap64 ((l2.length : Int) - 1)) then (if (wrap64 ((l2.length : Int) - 1)) < (l2.length : Int) then (spec_l4Choose.j0 k a0 a1 l2 y119 (wrap64 ((rd l2 (wrap64 ((l2.length : Int) - 1))) + 1))) else (none)) else (none)) else (spec_l4Choose.j0 k a0 a1 l2 y119 0)))) = some r := h
 clear h
 by_cases c4 : (l2.length : Int) = a1
 ·
  rw [if_pos c4] at H
  have c4b0 : ((l2.length : Int) == a1) = true := beq_iff_eq.mpr c4
  have c4b1 : ((l2.length : Int) != a1) = false := bne_eq_false_iff_eq.mpr c4
  clear c4
  obtain ⟨y116, hy116⟩ : ∃ y_ : List (List Int), y_ = (([l2] : List (List Int))) := ⟨_, rfl⟩
  replace H : (some y116) = some r := by first | (rw [hy116]; with_reducible exact H) | (have H2_ := (Option.bind_some _ _).symm.trans H; rw [hy116]; with_reducible exact H2_) | (have H2_ := (Option.bind_some _ _).symm.trans H; with_reducible exact H2_) | with_reducible exact H | (rw [hy116]; exact H) | exact H
  have Ny116 := aM hy116
  clear hy116
  obtain rfl := Option.some.inj H
  go_enter Try.func71, Try.ntmps71
  go_wp2_with (first | ((with_reducible refine gate_dst (N := 15) rfl ?_); refine Kd.N_lit (Kd.slice 3 (Kd.int .i64)) _ 22 ?hg (N' := 15) ?hd (xs := ([l2] : List (List Int))) (inner := [.slice A2 l2.length c2]) (ok := (fun k_ => (P2_ k_ ∨ w.heap.size ≤ k_))) (okp := (fun k_ => (P2_ k_ ∨ w.heap.size ≤ k_))) ?hr ?hp (fun _ hk => hk) ((show ∀ k_, w.heap.size ≤ k_ → (fun k_ => (P2_ k_ ∨ w.heap.size ≤ k_)) k_ from fun k_ hk => (.inr (Nat.le_trans (below_size (xH HB.out)) hk))) _ (Nat.le_refl _)) (Below.refl _ _) (Nat.le_refl _) (by simp) ?_; (case hd => rfl); (case hg => rfl); (case hr => first | (go_simp; done) | (go_simp; rfl)); (case hp => exact (Reps.one (show Kd.FK (Kd.slice 3 (Kd.int .i64)) _ _ l2 [.slice A2 l2.length c2] from (Kd.FK_slice_mk (Kd.V_reads' (Kd.V_mono (ok' := (fun k_ => (P2_ k_ ∨ w.heap.size ≤ k_))) (HO2.out) (fun k_ hk => hk))).2.1 (Kd.V_F (Kd.V_mono (ok' := (fun k_ => (P2_ k_ ∨ w.heap.size ≤ k_))) (HO2.out) (fun k_ hk => hk))))) (Reps.none _ _))); intro v117 w5 ho6 hb hg_ hnew_; clear hg_ hnew_; (first | rw [← Ny116.out] at ho6 | (simp only [Int.reduceToNat] at ho6; rw [← Ny116.out] at ho6)); replace HO2 := aM (Kd.V_elder' (xV HO2.out) (by first | exact Kd.N_base ho6 | exact Kd.S_base ho6 | exact Kd.R_base ho6) hb); have HO118 := aM (Kd.N_lower ho6 (below_size (xH HB.out))); replace HB := aM (below_step (xH HB.out) hb); clear hb ho6))
  go_ret
  exact ⟨_, by first | rfl | (simp [errW_none, errW_some] <;> rfl) | (simp [*, errW_none, errW_some] <;> rfl), by (with_reducible repeat (first | apply Kd.N_alloc | apply Kd.N_drewN | apply Kd.N_drew)); exact HO118.out, by repeat (first | (with_reducible first | exact HB.out | apply eA | apply eN | apply eD) | exact HB.out)⟩
 ·
  rw [if_neg c4] at H
  have c4b0 : ((l2.length : Int) == a1) = false := beq_eq_false_iff_ne.mpr c4
  have c4b1 : ((l2.length : Int) != a1) = true := bne_iff_ne.mpr c4
  obtain ⟨y119, hy119⟩ : ∃ y_ : List (List Int), y_ = (([] : List (List Int))) := ⟨_, rfl⟩
  replace H : (if (l2.length : Int) > 0 then (if 0 ≤ (wrap64 ((l2.length : Int) - 1)) then (if (wrap64 ((l2.length : Int) - 1)) < (l2.length : Int) then (spec_l4Choose.j0 k a0 a1 l2 y119 (wrap64 ((rd l2 (wrap64 ((l2.length : Int) - 1))) + 1))) else (none)) else (none)) else (spec_l4Choose.j0 k a0 a1 l2 y119 0)) = some r := by first | (rw [hy119]; with_reducible exact H) | (have H2_ := (Option.bind_some _ _).symm.trans H; rw [hy119]; with_reducible exact H2_) | (have H2_ := (Option.bind_some _ _).symm.trans H; with_reducible exact H2_) | with_reducible exact H | (rw [hy119]; exact H) | exact H
  have Ny119 := aM hy119
  clear hy119
  have HC7 := aM H
  clear H
  go_enter Try.func71, Try.ntmps71
  go_upto_if 19 with (first | ((with_reducible refine gate_dst (N := 16) rfl ?_); refine Kd.N_lit (Kd.slice 3 (Kd.int .i64)) _ 22 ?hg (N' := 16) ?hd (xs := ([] : List (List Int))) (inner := []) (ok := (fun k_ => (P2_ k_ ∨ w.heap.size ≤ k_))) (okp := (fun k_ => (P2_ k_ ∨ w.heap.size ≤ k_))) ?hr ?hp (fun _ hk => hk) ((show ∀ k_, w.heap.size ≤ k_ → (fun k_ => (P2_ k_ ∨ w.heap.size ≤ k_)) k_ from fun k_ hk => (.inr (Nat.le_trans (below_size (xH HB.out)) hk))) _ (Nat.le_refl _)) (Below.refl _ _) (Nat.le_refl _) (by simp) ?_; (case hd => rfl); (case hg => rfl); (case hr => first | (go_simp; done) | (go_simp; rfl)); (case hp => exact (Reps.none _ _)); intro v120 w8 ho9 hb hg_ hnew_; clear hg_ hnew_; (first | rw [← Ny119.out] at ho9 | (simp only [Int.reduceToNat] at ho9; rw [← Ny119.out] at ho9)); replace HO2 := aM (Kd.V_elder' (xV HO2.out) (by first | exact Kd.N_base ho9 | exact Kd.S_base ho9 | exact Kd.R_base ho9) hb); have HO121 := aM (Kd.N_lower ho9 (below_size (xH HB.out))); replace HB := aM (below_step (xH HB.out) hb); clear hb ho9))
  (try simp only [Act.put, sA, sZ, sU])
  go_cut [8] (fun v8 wc => ∃ (kq : Nat) (x8_6 : Int), v8 = .int .i64 x8_6 ∧ Aside0 (spec_l4Choose.j0 kq a0 a1 l2 y119 x8_6 = some r) ∧ Aside0 (kq ≤ k) ∧ Aside0 (Kd.V (Kd.int .i64) 3 wc w.heap.size (fun k_ => (P2_ k_ ∨ w.heap.size ≤ k_) ∧ some k_ ≠ (v120 : Value).ownBlock) (.slice A2 l2.length c2) l2) ∧ Aside0 (Kd.N (Kd.slice 3 (Kd.int .i64)) 22 wc w.heap.size (fun k_ => (P2_ k_ ∨ w.heap.size ≤ k_)) v120 y119) ∧ Aside0 (Below w.heap.size w wc))
  case first =>
   have H := HC7.out
   clear HC7
   by_cases c10 : (l2.length : Int) > 0
   ·
    rw [if_pos c10] at H
    have c10b0 : decide (0 < (l2.length : Int)) = true := decide_eq_true c10
    have c10b1 : decide (0 < l2.length) = true := decide_eq_true (by omega)
    clear c10
    (first | rw [c10b0] | (simp only [i64_w, i32_w]; rw [c10b0]) | rw [c10b1] | skip)
    obtain ⟨ji11, hji11⟩ : ∃ j_ : Int, (wrap64 ((l2.length : Int) - 1)) = j_ := ⟨_, rfl⟩
    replace H : (if 0 ≤ (ji11) then (if (ji11) < (l2.length : Int) then (spec_l4Choose.j0 k a0 a1 l2 y119 (wrap64 ((rd l2 (ji11)) + 1))) else (none)) else (none)) = some r := by first | (rw [hji11] at H; exact H) | (simp only [hji11] at H ⊢; exact H)
    have hji11w : (IntKind.i64.wrap ((l2.length : Int) - 1)) = ji11 := (i64_w _).trans hji11
    by_cases c12 : 0 ≤ (ji11)
    ·
     rw [if_pos c12] at H
     have c12b0 : decide (0 ≤ (ji11)) = true := decide_eq_true c12
     clear c12
     by_cases c13 : (ji11) < (l2.length : Int)
     ·
      rw [if_pos c13] at H
      have c13b0 : decide ((ji11) < (l2.length : Int)) = true := decide_eq_true c13
      clear c13
      have H' := aM H
      clear H
      have p122 : 0 ≤ ((ji11) : Int) := of_decide_eq_true (by first | (with_reducible assumption) | assumption)
      have q122 : (ji11) < (l2.length : Int) := of_decide_eq_true (by first | (with_reducible assumption) | assumption)
      obtain ⟨ad122, e122, hx122_0⟩ := Kd.at_int (Kd.V_reads' HO2.out).2.2 (ji11) p122 q122
      cases e122
      replace p122 := eq_true p122
      replace q122 := eq_true q122
      go_wp2
      (try subst hji11)
      go_meet
      case rel => exact ⟨_, (wrap64 ((rd l2 ((wrap64 ((l2.length : Int) - 1)))) + 1)), (by first | rfl | (simp; done) | (simp only [← hji11] <;> (first | rfl | simp)) | (simp [*]; done)), H', ⟨by first | omega | exact Nat.le_refl _⟩, ⟨xV HO2.out⟩, ⟨by (with_reducible repeat (first | apply Kd.N_alloc | apply Kd.N_drewN | apply Kd.N_drew)); exact HO121.out⟩, ⟨xH HB.out⟩⟩
     ·
      rw [if_neg c13] at H
      exact absurd H (by simp)
    ·
     rw [if_neg c12] at H
     exact absurd H (by simp)
   ·
    rw [if_neg c10] at H
    have c10b0 : decide (0 < (l2.length : Int)) = false := decide_eq_false c10
    have c10b1 : decide (0 < l2.length) = false := decide_eq_false (by omega)
    clear c10
    (first | rw [c10b0] | (simp only [i64_w, i32_w]; rw [c10b0]) | rw [c10b1] | skip)
    have H' := aM H
    clear H
    go_wp2
    go_meet
    case rel => exact ⟨_, (0), (by first | rfl | (simp; done) | (simp [*]; done)), H', ⟨by first | omega | exact Nat.le_refl _⟩, ⟨xV HO2.out⟩, ⟨by (with_reducible repeat (first | apply Kd.N_alloc | apply Kd.N_drewN | apply Kd.N_drew)); exact HO121.out⟩, ⟨xH HB.out⟩⟩
  case rest =>
   clear HC7
   try clear c2; try clear c4; try clear c4b0; try clear c4b1; try clear c10; try clear c10b0; try clear c10b1; try clear c12; try clear c12b0; try clear c13; try clear c13b0; try clear hx122_0; try clear p122; try clear q122
   obtain ⟨kq, x8_6, rfl, HA, HJ6, HO_2, HO_7, HB⟩ := hcut
   cases kq with
   | zero => exact absurd HA.out (by simp [spec_l4Choose.j0])
   | succ kj6 =>
    have H := HA.out
    clear HA
    simp only [spec_l4Choose.j0] at H
    have H' := aM H
    clear H
    go_wp2
    go_loopg [7, 9] kj6 (fun kq v7 v9 w' => ∃ (x7_2 : List (List Int)) (x9_2 : Int), v9 = .int .i64 x9_2 ∧ Aside0 (spec_l4Choose.l0 kq a0 a1 l2 x7_2 x9_2 = some r) ∧ Aside0 (kq ≤ kj6) ∧ Aside0 (Kd.V (Kd.int .i64) 3 w' w.heap.size (fun k_ => (P2_ k_ ∨ w.heap.size ≤ k_) ∧ some k_ ≠ (v7 : Value).ownBlock) (.slice A2 l2.length c2) l2) ∧ Aside0 (Kd.N (Kd.slice 3 (Kd.int .i64)) 22 w' w.heap.size (fun k_ => (P2_ k_ ∨ w.heap.size ≤ k_)) v7 x7_2) ∧ Aside0 (Below w.heap.size w w'))
    case atStart => exact ⟨(y119), (x8_6), (by first | rfl | (simp; done) | (simp [*]; done)), H', ⟨Nat.le_refl _⟩, ⟨xV HO_2.out⟩, ⟨by (with_reducible repeat (first | apply Kd.N_alloc | apply Kd.N_drewN | apply Kd.N_drew)); exact HO_7.out⟩, ⟨xH HB.out⟩⟩
    case round =>
     clear H'
     try clear c2
     obtain ⟨x7_2, x9_2, rfl, HA, HK2, HO_2, HO_7, HB⟩ := hrel
     cases gk with
     | zero => exact absurd HA.out (by simp [spec_l4Choose.l0])
     | succ k2 =>
      have H := HA.out
      clear HA
      simp only [spec_l4Choose.l0] at H
      by_cases c14 : x9_2 < a0
      ·
       rw [if_pos c14] at H
       have c14b0 : decide (x9_2 < a0) = true := decide_eq_true c14
       clear c14
       replace H := oB.mp H
       obtain ⟨t123, A150, H⟩ := H
       replace H : (if t123.length < 17592186044416 then ((spec_l4Choose.f k2 a0 a1 (t123 ++ [x9_2])).bind fun t129 => (if x7_2.length + t129.length < 5864062014805 then (spec_l4Choose.l0 k2 a0 a1 l2 (x7_2 ++ t129) (wrap64 (x9_2 + 1))) else (none))) else (none)) = some r := H
       have A15 := aM A150
       clear A150
       by_cases c16 : t123.length < 17592186044416
       ·
        rw [if_pos c16] at H
        have LMc16 := aM c16
        clear c16
        obtain ⟨y126, hy126⟩ : ∃ y_ : List Int, y_ = (t123 ++ [x9_2]) := ⟨_, rfl⟩
        replace H : ((spec_l4Choose.f k2 a0 a1 y126).bind fun t129 => (if x7_2.length + t129.length < 5864062014805 then (spec_l4Choose.l0 k2 a0 a1 l2 (x7_2 ++ t129) (wrap64 (x9_2 + 1))) else (none))) = some r := by first | (rw [hy126]; with_reducible exact H) | (have H2_ := (Option.bind_some _ _).symm.trans H; rw [hy126]; with_reducible exact H2_) | (have H2_ := (Option.bind_some _ _).symm.trans H; with_reducible exact H2_) | with_reducible exact H | (rw [hy126]; exact H) | exact H
        have Ny126 := aM hy126
        clear hy126
        replace H := oB.mp H
        obtain ⟨t129, A170, H⟩ := H
        replace H : (if x7_2.length + t129.length < 5864062014805 then (spec_l4Choose.l0 k2 a0 a1 l2 (x7_2 ++ t129) (wrap64 (x9_2 + 1))) else (none)) = some r := H
        have A17 := aM A170
        clear A170
        by_cases c18 : x7_2.length + t129.length < 5864062014805
        ·
         rw [if_pos c18] at H
         have LMc18 := aM c18
         clear c18
         obtain ⟨y132, hy132⟩ : ∃ y_ : List (List Int), y_ = (x7_2 ++ t129) := ⟨_, rfl⟩
         replace H : (spec_l4Choose.l0 k2 a0 a1 l2 y132 (wrap64 (x9_2 + 1))) = some r := by first | (rw [hy132]; with_reducible exact H) | (have H2_ := (Option.bind_some _ _).symm.trans H; rw [hy132]; with_reducible exact H2_) | (have H2_ := (Option.bind_some _ _).symm.trans H; with_reducible exact H2_) | with_reducible exact H | (rw [hy132]; exact H) | exact H
         have Ny132 := aM hy132
         clear hy132
         have H' := aM H
         clear H
         go_wp2_with (first | ((with_reducible refine gate_callee (f := 95) rfl ?_); refine goesL_ (some 37) rfl rfl Try.func95 (by kernel_rfl) rfl #[.slice A2 l2.length c2] rfl xL ?_; (with_reducible refine (spec_l1Own.calls _ _ l2 t123 _ ?side1 ?side2 A15.out).mono ?_); (case side1 => repeat (first | exact (Kd.V_reads' HO_2.out).2.2 | (with_reducible refine Kd.C_alloc ?_ _) | (with_reducible refine Kd.C_drewN ?_ _) | (with_reducible refine Kd.C_drew ?_))); (case side2 => exact (Kd.V_reads' HO_2.out).2.1); rintro e w19 ⟨v124, rfl, ho0, hb⟩; refine ⟨_, rfl, ?_⟩; replace HO_2 := aM (Kd.V_elder' (xV HO_2.out) (Kd.R_base ho0) hb); replace HO_7 := aM (Kd.N_elder' (by (with_reducible repeat (first | apply Kd.N_alloc | apply Kd.N_drewN | apply Kd.N_drew)); exact HO_7.out) (Kd.R_base ho0) hb); have HO125 := aM (Kd.R_lower (Kd.R_newM (M := fun k_ => (w.heap.size ≤ k_)) ho0 (below_size (xH HB.out)) (fun k_ h_ => h_)) (below_size (xH HB.out))); replace HB := aM (below_step (xH HB.out) hb); (try clear hb; try clear hb2; try clear hk; try clear hi; try clear ho0)) | ((with_reducible refine gate_builtin (b := .append) (xs := #[.tmp 37, .tmp 39]) rfl ?_); at_builtin; refine Kd.R_append (Kd.int .i64) (w0 := w) w.heap.size rfl (.tmp 37) (.tmp 39) 22 3 (.int .i64 0) 8 rfl Try.underlying22 info3 rfl (by decide) (by omega) v124 t123 x9_2 [.int .i64 x9_2] (fun k_ => (w.heap.size ≤ k_)) (fun _ => False) rfl rfl ?aP (fun _ hk => hk.elim) ?aF ?aO ?aB ?aS ?aL ?_; (case aP => exact rfl); (case aB => exact (xH HB.out)); (case aF => exact (fun k_ hk => (Nat.le_trans (below_size (xH HB.out)) hk))); (case aO => exact (by (with_reducible repeat (first | apply rA | apply rN | apply rD)); exact rM HO125.out (fun _ hk => hk.1))); (case aS => exact (below_size (xH HB.out))); (case aL => have := LMc16.out; omega); intro v127 w20 ho hb hg hat; rw [← Ny126.out] at ho; replace HO_2 := aM (Kd.V_afterv (ok := (fun k_ => (P2_ k_ ∨ w.heap.size ≤ k_) ∧ some k_ ≠ (u7 : Value).ownBlock)) (xV HO_2.out) hg hat); replace HO_7 := aM (Kd.N_afterv (ok := (fun k_ => (P2_ k_ ∨ w.heap.size ≤ k_))) (by (with_reducible repeat (first | apply Kd.N_alloc | apply Kd.N_drewN | apply Kd.N_drew)); exact HO_7.out) hg hat); replace HB := aM (hb); have HO128 := aM (ho); clear HO125; clear ho hb hg hat; obtain ⟨Ao21, co21, eo21⟩ := Kd.R_slice HO128.out; subst eo21) | ((with_reducible refine gate_callee (f := 71) rfl ?_); refine goesL_ (some 41) rfl rfl Try.func71 (by kernel_rfl) rfl #[.int .i64 a0, .int .i64 a1, .slice Ao21 y126.length co21] rfl xL ?_; (with_reducible refine (ih k2 (by have := HJ6.out; have := HK2.out; omega) a0 a1 (fun k_ => some k_ = (.slice Ao21 y126.length co21 : Value).ownBlock) _ _ y126 t129 _ ?side1 A17.out).mono ?_); (case side1 => exact Kd.R_V (Kd.R_tight rfl (Kd.R_apart' (HO128.out) (Kd.N_typed HO_7.out) (by decide)))); rintro e w22 ⟨v130, rfl, ho0, hb⟩; refine ⟨_, rfl, ?_⟩; replace HO_2 := aM (Kd.V_elder' (xV HO_2.out) (by first | exact Kd.N_base ho0 | exact Kd.S_base ho0 | exact Kd.R_base ho0) hb); have HO131 := aM (Kd.N_lower (Kd.N_mono (ok' := fun k_ => (P2_ k_ ∨ w.heap.size ≤ k_) ∧ some k_ ≠ (u7 : Value).ownBlock) ho0 (fun k_ hk_ => ⟨Or.elim hk_ (fun hs_ => (.inr (((Kd.R_apart' (HO128.out) (Kd.N_typed HO_7.out) (by decide)).1 k_ hs_.symm).1))) (fun hn_ => (.inr (Nat.le_trans (below_size (xH HB.out)) hn_))), Or.elim hk_ (fun hs_ => ((Kd.R_apart' (HO128.out) (Kd.N_typed HO_7.out) (by decide)).1 k_ hs_.symm).2) (fun hn_ => (Kd.fresh' (Kd.N_lt (by (with_reducible repeat (first | apply Kd.N_alloc | apply Kd.N_drewN | apply Kd.N_drew)); exact HO_7.out)) k_ hn_))⟩)) (below_size (xH HB.out))); replace HO_7 := aM (Kd.N_elder' (by (with_reducible repeat (first | apply Kd.N_alloc | apply Kd.N_drewN | apply Kd.N_drew)); exact HO_7.out) (by first | exact Kd.N_base ho0 | exact Kd.S_base ho0 | exact Kd.R_base ho0) hb); replace HO128 := aM (Kd.R_below (xR HO128.out) hb); replace HB := aM (below_step (xH HB.out) hb); (try clear hb; try clear hb2; try clear hk; try clear hi; try clear ho0); obtain ⟨Ao24, co24, eo24⟩ := Kd.N_slice HO131.out; subst eo24) | ((with_reducible refine gate_builtin (b := .append) (xs := #[.tmp 33, .tmp 41]) rfl ?_); at_builtin; refine Kd.N_append_rows (Kd.slice 3 (Kd.int .i64)) (w0 := w) w.heap.size rfl (.tmp 33) (.tmp 41) 32 22 (.slice none 0 0) 24 rfl Try.underlying32 info22 rfl (by decide) (by omega) u7 x7_2 t129 _ _ _ (fun k_ => (P2_ k_ ∨ w.heap.size ≤ k_)) (fun k_ => ((fun k_ => (P2_ k_ ∨ w.heap.size ≤ k_))) k_ ∧ some k_ ≠ (u7 : Value).ownBlock) rfl rfl ?aO ?aR (fun _ hk => hk) ?aF ?aB ?aS ?aL ?_; (case aR => exact (by skip; exact Kd.N_F (Kd.N_mono (ok' := (fun k_ => ((fun k_ => (P2_ k_ ∨ w.heap.size ≤ k_))) k_ ∧ some k_ ≠ (u7 : Value).ownBlock)) (HO131.out) (fun k_ hk => ⟨hk.1, hk.2⟩)))); (case aB => exact (xH HB.out)); (case aF => exact (fun k_ hk => (.inr (Nat.le_trans (below_size (xH HB.out)) hk)))); (case aO => exact (by (with_reducible repeat (first | apply Kd.N_alloc | apply Kd.N_drewN | apply Kd.N_drew)); exact Kd.N_mono HO_7.out (fun _ hk => hk.1.1))); (case aS => exact (below_size (xH HB.out))); (case aL => have := LMc18.out; omega); intro v133 w23 ho hb hg hat; rw [← Ny132.out] at ho; replace HO_2 := aM (Kd.V_afterv (ok := (fun k_ => (P2_ k_ ∨ w.heap.size ≤ k_) ∧ some k_ ≠ (.slice Ao21 y126.length co21 : Value).ownBlock ∧ some k_ ≠ (.slice Ao24 t129.length co24 : Value).ownBlock)) (by (with_reducible repeat (first | apply Kd.V_alloc | apply Kd.V_drewN | apply Kd.V_drew)); exact Kd.V_mono HO_2.out (fun _ hk => ⟨⟨hk.1.1.1, ⟨hk.1.2, hk.2⟩⟩, hk.1.1.2⟩)) hg hat); replace HO128 := aM (Kd.R_over' (xR HO128.out) (Kd.N_typed (by (with_reducible repeat (first | apply Kd.N_alloc | apply Kd.N_drewN | apply Kd.N_drew)); exact HO_7.out)) (by decide) hg); replace HO131 := aM (Kd.N_afterv (ok := (fun k_ => (P2_ k_ ∨ w.heap.size ≤ k_))) (by (with_reducible repeat (first | apply Kd.N_alloc | apply Kd.N_drewN | apply Kd.N_drew)); exact HO131.out) hg hat); replace HB := aM (hb); have HO134 := aM (ho); clear HO_7; clear ho hb hg hat))
         go_roundg k2
         case measure => have := HJ6.out; have := HK2.out; omega
         case rel => exact ⟨(y132), (wrap64 (x9_2 + 1)), (by first | rfl | (simp; done) | (simp [*]; done)), H', ⟨by have := HJ6.out; have := HK2.out; omega⟩, ⟨by (with_reducible repeat (first | apply Kd.V_alloc | apply Kd.V_drewN | apply Kd.V_drew)); exact Kd.V_mono HO_2.out (fun _ hk => ⟨hk.1.1, hk.2⟩)⟩, ⟨by (with_reducible repeat (first | apply Kd.N_alloc | apply Kd.N_drewN | apply Kd.N_drew)); exact HO134.out⟩, ⟨xH HB.out⟩⟩
        ·
         rw [if_neg c18] at H
         exact absurd H (by simp)
       ·
        rw [if_neg c16] at H
        exact absurd H (by simp)
      ·
       rw [if_neg c14] at H
       have c14b0 : decide (x9_2 < a0) = false := decide_eq_false c14
       clear c14
       obtain rfl := Option.some.inj H
       go_wp2
       go_ret
       exact ⟨_, by first | rfl | (simp [errW_none, errW_some] <;> rfl) | (simp [*, errW_none, errW_some] <;> rfl), by (with_reducible repeat (first | apply Kd.N_alloc | apply Kd.N_drewN | apply Kd.N_drew)); exact HO_7.out, by repeat (first | (with_reducible first | exact HB.out | apply eA | apply eN | apply eD) | exact HB.out)⟩
end Go.Proofs.Ytgidnmpppbkamaa.PFnExactIsWeighted
