-- Laid for this claim by a program of the session's own (wip/tool/myprint.py).
import Derived.Test.YtgidnmpppbkamaaMFnExactIsWeightedx0
import Derived.Test.YtgidnmpppbkamaaMFnExactIsWeightedx10
import Derived.Test.YtgidnmpppbkamaaMFnExactIsWeightedx17
namespace Go.Proofs.Ytgidnmpppbkamaa.PFnExactIsWeighted
open Go.RowKit Go.Proofs.YtgidnmpppbkamaaW.PrintWords Go.Proofs.YtgidnmpppbkamaaW.PrintLast Go.Proofs.YtgidnmpppbkamaaW.PrintMore
attribute [local go_sem] max2_int min2_int max_two min_two max_three min_three max_four min_four
set_option linter.unusedVariables false
set_option linter.unusedSimpArgs false
def laws_FnExactIsWeighted.j0 : Nat → List Int → List Int → Bool → Option (Bool)
 | 0, _, _, _ => none
 | k + 1, x1, x7, x35 => if x35 = true then (some false) else ((laws_toIntS.f k x1).bind fun t460 => ((laws_eqIntS.f k x7 t460).bind fun t463 => (if t463 = true then (some true) else (some false))))
def laws_FnExactIsWeighted.f (k : Nat) (a0 : Int) (l1 : List Int) : Option (Bool) := if (l1.length : Int) > 1048576 then (some true) else ((laws_toIntS.f k l1).bind fun t450 => ((spec_IsWeighted.f k a0 t450).bind fun bt453 => ((laws_toIntS.f k l1).bind fun t455 => ((impl_IsWeighted.f k a0 t455).bind fun bt458 => (if (bt458.1 != bt453.1) = true then (laws_FnExactIsWeighted.j0 k l1 t455 true) else (laws_FnExactIsWeighted.j0 k l1 t455 (bt458.2 != bt453.2)))))))
set_option maxHeartbeats 8000000 in
set_option maxRecDepth 100000 in
theorem laws_FnExactIsWeighted.calls (k : Nat) (a0 : Int) (A1 : Option Addr) (c1 : Nat) (l1 : List Int) (r : Bool) (w : World) (hr1 : Kd.C (Kd.int .i64) w A1 l1.length l1) (hc1 : l1.length ≤ c1) (h : laws_FnExactIsWeighted.f k a0 l1 = some r) :
  Calls Try.prog 3 #[.int .i64 a0, .slice A1 l1.length c1] w fun e w' => e = .returned (.bool r) ∧ Below w.heap.size w w' := by
 have HR1 := aM hr1
 have HC1 := aM hc1
 clear hr1 hc1
 have HB := aM (Below.refl w.heap.size w)
 have H : (if (l1.length : Int) > 1048576 then (some true) else ((laws_toIntS.f k l1).bind fun t450 => ((spec_IsWeighted.f k a0 t450).bind fun bt453 => ((laws_toIntS.f k l1).bind fun t455 => ((impl_IsWeighted.f k a0 t455).bind fun bt458 => (if (bt458.1 != bt453.1) = true then (laws_FnExactIsWeighted.j0 k l1 t455 true) else (laws_FnExactIsWeighted.j0 k l1 t455 (bt458.2 != bt453.2)))))))) = some r := h
 clear h
 by_cases c3 : (l1.length : Int) > 1048576
 ·
  rw [if_pos c3] at H
  have c3b0 : decide (1048576 < (l1.length : Int)) = true := decide_eq_true c3
  have c3b1 : decide (1048576 < l1.length) = true := decide_eq_true (by omega)
  clear c3
  obtain rfl := Option.some.inj H
  go_enter Try.func3, Try.ntmps3
  go_wp2
  go_ret
  exact ⟨by first | rfl | (simp [errW_none, errW_some] <;> rfl) | (simp [*, errW_none, errW_some] <;> rfl), by repeat (first | (with_reducible first | exact HB.out | apply eA | apply eN | apply eD) | exact HB.out)⟩
 ·
  rw [if_neg c3] at H
  have c3b0 : decide (1048576 < (l1.length : Int)) = false := decide_eq_false c3
  have c3b1 : decide (1048576 < l1.length) = false := decide_eq_false (by omega)
  clear c3
  replace H := oB.mp H
  obtain ⟨t450, A40, H⟩ := H
  replace H : ((spec_IsWeighted.f k a0 t450).bind fun bt453 => ((laws_toIntS.f k l1).bind fun t455 => ((impl_IsWeighted.f k a0 t455).bind fun bt458 => (if (bt458.1 != bt453.1) = true then (laws_FnExactIsWeighted.j0 k l1 t455 true) else (laws_FnExactIsWeighted.j0 k l1 t455 (bt458.2 != bt453.2)))))) = some r := H
  have A4 := aM A40
  clear A40
  replace H := oB.mp H
  obtain ⟨⟨t453, t454⟩, A50, H⟩ := H
  replace H : ((laws_toIntS.f k l1).bind fun t455 => ((impl_IsWeighted.f k a0 t455).bind fun bt458 => (if (bt458.1 != t453) = true then (laws_FnExactIsWeighted.j0 k l1 t455 true) else (laws_FnExactIsWeighted.j0 k l1 t455 (bt458.2 != t454))))) = some r := H
  have A5 := aM A50
  clear A50
  replace H := oB.mp H
  obtain ⟨t455, A60, H⟩ := H
  replace H : ((impl_IsWeighted.f k a0 t455).bind fun bt458 => (if (bt458.1 != t453) = true then (laws_FnExactIsWeighted.j0 k l1 t455 true) else (laws_FnExactIsWeighted.j0 k l1 t455 (bt458.2 != t454)))) = some r := H
  have A6 := aM A60
  clear A60
  replace H := oB.mp H
  obtain ⟨⟨t458, t459⟩, A70, H⟩ := H
  replace H : (if (t458 != t453) = true then (laws_FnExactIsWeighted.j0 k l1 t455 true) else (laws_FnExactIsWeighted.j0 k l1 t455 (t459 != t454))) = some r := H
  have A7 := aM A70
  clear A70
  have HC8 := aM H
  clear H
  go_enter Try.func3, Try.ntmps3
  go_upto_region 6 with (first | ((with_reducible refine gate_callee (f := 8) rfl ?_); refine goesL_ (some 16) rfl rfl Try.func8 (by kernel_rfl) rfl #[.slice A1 l1.length c1] rfl xL ?_; (with_reducible refine (laws_toIntS.calls k _ _ l1 t450 _ ?side1 ?side2 A4.out).mono ?_); (case side1 => exact xC HR1.out); (case side2 => exact HC1.out); rintro e w9 ⟨v451, rfl, ho0, hb⟩; refine ⟨_, rfl, ?_⟩; have HO452 := aM (Kd.R_lower ho0 (below_size (xH HB.out))); replace HB := aM (below_step (xH HB.out) hb); (try clear hb; try clear hb2; try clear hk; try clear hi; try clear ho0); obtain ⟨Ao10, co10, eo10⟩ := Kd.R_slice HO452.out; subst eo10) | ((with_reducible refine gate_callee (f := 7) rfl ?_); refine goesL_ (some 17) rfl rfl Try.func7 (by kernel_rfl) rfl #[.int .i64 a0, .slice Ao10 t450.length co10] rfl xL ?_; (with_reducible refine (spec_IsWeighted.calls k a0 _ _ t450 t453 t454 _ ?side1 ?side2 A5.out).mono ?_); (case side1 => exact xC (Kd.R_reads' HO452.out).2.2); (case side2 => exact (Kd.R_reads' HO452.out).2.1); rintro e w11 ⟨rfl, hb⟩; refine ⟨_, rfl, ?_⟩; replace HO452 := aM (Kd.R_below (xR HO452.out) hb); replace HB := aM (below_step (xH HB.out) hb); (try clear hb; try clear hb2; try clear hk; try clear hi)) | ((with_reducible refine gate_callee (f := 8) rfl ?_); refine goesL_ (some 21) rfl rfl Try.func8 (by kernel_rfl) rfl #[.slice A1 l1.length c1] rfl xL ?_; (with_reducible refine (laws_toIntS.calls k _ _ l1 t455 _ ?side1 ?side2 A6.out).mono ?_); (case side1 => repeat (first | exact (Kd.C_below HR1.out HB.out) | (with_reducible refine Kd.C_alloc ?_ _) | (with_reducible refine Kd.C_drewN ?_ _) | (with_reducible refine Kd.C_drew ?_))); (case side2 => exact HC1.out); rintro e w12 ⟨v456, rfl, ho0, hb⟩; refine ⟨_, rfl, ?_⟩; have HO457 := aM (Kd.R_lower (Kd.R_new' ho0 (Kd.R_lt (xR HO452.out))) (below_size (xH HB.out))); replace HO452 := aM (Kd.R_elder' (xR HO452.out) (Kd.R_base ho0) hb); replace HB := aM (below_step (xH HB.out) hb); (try clear hb; try clear hb2; try clear hk; try clear hi; try clear ho0); obtain ⟨Ao13, co13, eo13⟩ := Kd.R_slice HO457.out; subst eo13) | ((with_reducible refine gate_callee (f := 9) rfl ?_); refine goesL_ (some 25) rfl rfl Try.func9 (by kernel_rfl) rfl #[.int .i64 a0, .slice Ao13 t455.length co13] rfl xL ?_; (with_reducible refine (impl_IsWeighted.calls k a0 _ _ t455 t458 t459 _ ?side1 ?side2 A7.out).mono ?_); (case side1 => exact xC (Kd.R_reads' HO457.out).2.2); (case side2 => exact (Kd.R_reads' HO457.out).2.1); rintro e w14 ⟨rfl, hb⟩; refine ⟨_, rfl, ?_⟩; replace HO452 := aM (Kd.R_below (xR HO452.out) hb); replace HO457 := aM (Kd.R_below (xR HO457.out) hb); replace HB := aM (below_step (xH HB.out) hb); (try clear hb; try clear hb2; try clear hk; try clear hi)))
  (try simp only [Act.put, sA, sZ, sU])
  go_cut [35] (fun v35 wc => ∃ (kq : Nat) (x35_7 : Bool), v35 = .bool x35_7 ∧ Aside0 (laws_FnExactIsWeighted.j0 kq l1 t455 x35_7 = some r) ∧ Aside0 (kq ≤ k) ∧ Aside0 (Kd.R (Kd.int .i64) 3 wc w.heap.size (fun _ => True) (.slice Ao13 t455.length co13) t455) ∧ Aside0 (Below w.heap.size w wc))
  case first =>
   have H := HC8.out
   clear HC8
   by_cases c15 : (t458 != t453) = true
   ·
    rw [if_pos c15] at H
    have c15b0 : (t458 != t453) = true := c15
    (try (have c15b1 : decide (t458 = t453) = false := by simpa using c15))
    (try (have c15b2 : (t458 == t453) = false := by simpa using c15))
    (try (have c15b3 : ¬ (t458 = t453) := by simpa using c15))
    clear c15
    (first | rw [c15b0] | (simp only [i64_w, i32_w]; rw [c15b0]) | rw [c15b1] | skip)
    have H' := aM H
    clear H
    go_wp2
    go_meet
    case rel => exact ⟨_, (true), (by first | rfl | (simp; done) | (simp [*]; done)), H', ⟨by first | omega | exact Nat.le_refl _⟩, ⟨by (with_reducible repeat (first | apply rA | apply rN | apply rD)); exact rM HO457.out (fun _ hk => trivial)⟩, ⟨xH HB.out⟩⟩
   ·
    rw [if_neg c15] at H
    have c15b0 : (t458 != t453) = false := by simpa using c15
    (try (have c15b1 : decide (t458 = t453) = true := by simpa using c15))
    (try (have c15b2 : (t458 == t453) = true := by simpa using c15))
    clear c15
    (first | rw [c15b0] | (simp only [i64_w, i32_w]; rw [c15b0]) | rw [c15b1] | skip)
    have H' := aM H
    clear H
    go_wp2
    go_meet
    case rel => exact ⟨_, ((t459 != t454)), (by first | rfl | (simp; done) | (simp [*]; done)), H', ⟨by first | omega | exact Nat.le_refl _⟩, ⟨by (with_reducible repeat (first | apply rA | apply rN | apply rD)); exact rM HO457.out (fun _ hk => trivial)⟩, ⟨xH HB.out⟩⟩
  case rest =>
   clear HC8
   try clear c1; try clear c3; try clear c3b0; try clear c3b1; try clear c15; try clear c15b0; try clear c15b1; try clear c15b2
   obtain ⟨kq, x35_7, rfl, HA, HJ7, HO_7, HB⟩ := hcut
   cases kq with
   | zero => exact absurd HA.out (by simp [laws_FnExactIsWeighted.j0])
   | succ kj7 =>
    have H := HA.out
    clear HA
    simp only [laws_FnExactIsWeighted.j0] at H
    by_cases c16 : x35_7 = true
    ·
     subst c16
     have H1 : (some false) = some r := by rw [if_pos rfl] at H; exact H
     clear H
     have H := H1
     clear H1
     obtain rfl := Option.some.inj H
     go_wp2
     go_ret
     exact ⟨by first | rfl | (simp [errW_none, errW_some] <;> rfl) | (simp [*, errW_none, errW_some] <;> rfl), by repeat (first | (with_reducible first | exact HB.out | apply eA | apply eN | apply eD) | exact HB.out)⟩
    ·
     replace c16 := Bool.eq_false_iff.mpr c16
     subst c16
     have H1 : ((laws_toIntS.f kj7 l1).bind fun t460 => ((laws_eqIntS.f kj7 t455 t460).bind fun t463 => (if t463 = true then (some true) else (some false)))) = some r := by rw [if_neg (show ¬ (false = true) by decide)] at H; exact H
     clear H
     have H := H1
     clear H1
     replace H := oB.mp H
     obtain ⟨t460, A170, H⟩ := H
     replace H : ((laws_eqIntS.f kj7 t455 t460).bind fun t463 => (if t463 = true then (some true) else (some false))) = some r := H
     have A17 := aM A170
     clear A170
     replace H := oB.mp H
     obtain ⟨t463, A180, H⟩ := H
     replace H : (if t463 = true then (some true) else (some false)) = some r := H
     have A18 := aM A180
     clear A180
     by_cases c19 : t463 = true
     ·
      subst c19
      have H1 : (some true) = some r := by rw [if_pos rfl] at H; exact H
      clear H
      have H := H1
      clear H1
      obtain rfl := Option.some.inj H
      go_wp2_with (first | ((with_reducible refine gate_callee (f := 8) rfl ?_); refine goesL_ (some 38) rfl rfl Try.func8 (by kernel_rfl) rfl #[.slice A1 l1.length c1] rfl xL ?_; (with_reducible refine (laws_toIntS.calls kj7 _ _ l1 t460 _ ?side1 ?side2 A17.out).mono ?_); (case side1 => repeat (first | exact (Kd.C_below HR1.out HB.out) | (with_reducible refine Kd.C_alloc ?_ _) | (with_reducible refine Kd.C_drewN ?_ _) | (with_reducible refine Kd.C_drew ?_))); (case side2 => exact HC1.out); rintro e w20 ⟨v461, rfl, ho0, hb⟩; refine ⟨_, rfl, ?_⟩; have HO462 := aM (Kd.R_lower (Kd.R_new' ho0 (Kd.R_lt (xR HO_7.out))) (below_size (xH HB.out))); replace HO_7 := aM (Kd.R_elder' (xR HO_7.out) (Kd.R_base ho0) hb); replace HB := aM (below_step (xH HB.out) hb); (try clear hb; try clear hb2; try clear hk; try clear hi; try clear ho0); obtain ⟨Ao21, co21, eo21⟩ := Kd.R_slice HO462.out; subst eo21) | ((with_reducible refine gate_callee (f := 10) rfl ?_); refine goesL_ (some 39) rfl rfl Try.func10 (by kernel_rfl) rfl #[.slice Ao13 t455.length co13, .slice Ao21 t460.length co21] rfl xL ?_; (with_reducible refine (laws_eqIntS.calls kj7 _ _ t455 _ _ t460 true _ ?side1 ?side2 ?side3 ?side4 A18.out).mono ?_); (case side1 => exact xC (Kd.R_reads' HO_7.out).2.2); (case side2 => exact (Kd.R_reads' HO_7.out).2.1); (case side3 => exact xC (Kd.R_reads' HO462.out).2.2); (case side4 => exact (Kd.R_reads' HO462.out).2.1); rintro e w' ⟨rfl, ⟨nd, rfl⟩⟩; refine ⟨_, rfl, ?_⟩))
      go_ret
      exact ⟨by first | rfl | (simp [errW_none, errW_some] <;> rfl) | (simp [*, errW_none, errW_some] <;> rfl), by repeat (first | (with_reducible first | exact HB.out | apply eA | apply eN | apply eD) | exact HB.out)⟩
     ·
      replace c19 := Bool.eq_false_iff.mpr c19
      subst c19
      have H1 : (some false) = some r := by rw [if_neg (show ¬ (false = true) by decide)] at H; exact H
      clear H
      have H := H1
      clear H1
      obtain rfl := Option.some.inj H
      go_wp2_with (first | ((with_reducible refine gate_callee (f := 8) rfl ?_); refine goesL_ (some 38) rfl rfl Try.func8 (by kernel_rfl) rfl #[.slice A1 l1.length c1] rfl xL ?_; (with_reducible refine (laws_toIntS.calls kj7 _ _ l1 t460 _ ?side1 ?side2 A17.out).mono ?_); (case side1 => repeat (first | exact (Kd.C_below HR1.out HB.out) | (with_reducible refine Kd.C_alloc ?_ _) | (with_reducible refine Kd.C_drewN ?_ _) | (with_reducible refine Kd.C_drew ?_))); (case side2 => exact HC1.out); rintro e w22 ⟨v461, rfl, ho0, hb⟩; refine ⟨_, rfl, ?_⟩; have HO462 := aM (Kd.R_lower (Kd.R_new' ho0 (Kd.R_lt (xR HO_7.out))) (below_size (xH HB.out))); replace HO_7 := aM (Kd.R_elder' (xR HO_7.out) (Kd.R_base ho0) hb); replace HB := aM (below_step (xH HB.out) hb); (try clear hb; try clear hb2; try clear hk; try clear hi; try clear ho0); obtain ⟨Ao23, co23, eo23⟩ := Kd.R_slice HO462.out; subst eo23) | ((with_reducible refine gate_callee (f := 10) rfl ?_); refine goesL_ (some 39) rfl rfl Try.func10 (by kernel_rfl) rfl #[.slice Ao13 t455.length co13, .slice Ao23 t460.length co23] rfl xL ?_; (with_reducible refine (laws_eqIntS.calls kj7 _ _ t455 _ _ t460 false _ ?side1 ?side2 ?side3 ?side4 A18.out).mono ?_); (case side1 => exact xC (Kd.R_reads' HO_7.out).2.2); (case side2 => exact (Kd.R_reads' HO_7.out).2.1); (case side3 => exact xC (Kd.R_reads' HO462.out).2.2); (case side4 => exact (Kd.R_reads' HO462.out).2.1); rintro e w' ⟨rfl, ⟨nd, rfl⟩⟩; refine ⟨_, rfl, ?_⟩))
      go_ret
      exact ⟨by first | rfl | (simp [errW_none, errW_some] <;> rfl) | (simp [*, errW_none, errW_some] <;> rfl), by repeat (first | (with_reducible first | exact HB.out | apply eA | apply eN | apply eD) | exact HB.out)⟩
def laws_FnExactIsWeighted.Pure : Prop := ∀ (a0 : Int) (l1 : List Int), (Lit.int .i64 a0).wf = true → l1.length ≤ maxLen → l1.length * 8 ≤ 140737488351232 → (∀ x ∈ l1, (Lit.int .i64 x).wf = true) → ∃ k, laws_FnExactIsWeighted.f k a0 l1 = some true
theorem laws_FnExactIsWeighted.walk (P : laws_FnExactIsWeighted.Pure) (a0 : Int) (a1 : Option Addr) (len1 cap1 : Nat) (z1 : List Int) (w : World) (w0 : (Lit.int .i64 a0).wf = true) (w1 : (a1 = none ∧ len1 = 0 ∧ cap1 = 0 ∧ z1 = []) ∨ ∃ x, a1 = some x ∧ len1 ≤ cap1 ∧ cap1 ≤ maxLen ∧ z1.length = cap1 ∧ (∀ i, i < z1.length → w.cell? (x.add i) = some (.int .i64 (z1.getD i 0))) ∧ ∀ n ∈ z1, (Lit.int .i64 n).wf = true) (y1 : len1 * 8 ≤ 140737488351232) :
  Calls Try.prog 3 #[.int .i64 a0, .slice a1 len1 cap1] w fun e w' => e = .returned (.bool true) ∧ Below w.heap.size w w' := by
 obtain ⟨l1, rfl, hr1, hm1, hw1, hc1⟩ := ReadsInt.ofRowC w1
 obtain ⟨k, h⟩ := P a0 l1 w0 hm1 y1 hw1
 refine (laws_FnExactIsWeighted.calls k a0 _ _ l1 true w (Kd.C_of_reads (d := (0 : Int)) (h1 := fun _ => rfl) hr1) hc1 h).mono ?_
 rintro e w' ⟨rfl, hd⟩
 exact ⟨rfl, hd⟩
end Go.Proofs.Ytgidnmpppbkamaa.PFnExactIsWeighted
