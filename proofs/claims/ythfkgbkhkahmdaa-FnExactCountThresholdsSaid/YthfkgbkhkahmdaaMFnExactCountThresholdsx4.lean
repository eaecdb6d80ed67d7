-- Laid for this claim by a program of the session's own (wip/tool/myprint.py).
import Derived.Test.YthfkgbkhkahmdaaMFnExactCountThresholdsx0
import Derived.Test.YthfkgbkhkahmdaaMFnExactCountThresholdsx2
import Derived.Test.YthfkgbkhkahmdaaMFnExactCountThresholdsx3
namespace Go.Proofs.Ythfkgbkhkahmdaa.PFnExactCountThresholds
open Go.RowKit Go.Proofs.YthfkgbkhkahmdaaW.PrintWords Go.Proofs.YthfkgbkhkahmdaaW.PrintLast Go.Proofs.YthfkgbkhkahmdaaW.PrintMore
attribute [local go_sem] max2_int min2_int max_two min_two max_three min_three max_four min_four   -- for this text's walks alone
set_option linter.unusedVariables false
set_option linter.unusedSimpArgs false

/-! ### impl_CountThresholds: function 35 -/
def impl_CountThresholds.f (k : Nat) (a0 : Int) : Option (Int × Bool) := (impl_within.f a0 0 4).bind fun b =>
  if b = true then (if a0 = 0 then some (2, true) else if 0 ≤ a0 ∧ a0 ≤ 8 then (impl_tablesOf.all k a0.toNat).bind fun codes => some ((Maps.size (tdat codes) : Int), true) else none) else some (0, false)
set_option maxHeartbeats 8000000 in
set_option maxRecDepth 100000 in
theorem impl_CountThresholds.calls (k : Nat) (a0 : Int) (r1 : Int) (r2 : Bool) (w : World) (h : impl_CountThresholds.f k a0 = some (r1, r2)) :
    Calls Try.prog 35 #[.int .i64 a0] w fun e w' => e = .returned (.tuple #[.int .i64 r1, .bool r2]) ∧ Below w.heap.size w w' := by
  unfold impl_CountThresholds.f at h
  obtain ⟨b, hb, h⟩ := Option.bind_eq_some_iff.mp h
  have HW := Aside0.mk hb
  clear hb
  cases b with
  | false =>
    rw [if_neg (by simp)] at h
    cases h
    go_enter Try.func35, Try.ntmps35
    go_wp2_with (first | (go_at_call 94; (with_reducible refine (impl_within.calls a0 0 4 false _ HW.out).mono ?_); rintro e w2 ⟨rfl, ⟨nd, rfl⟩⟩))
    go_ret2
    exact ⟨rfl, pw_below_drewN (Below.refl _ _) _⟩
  | true =>
    rw [if_pos rfl] at h
    by_cases c0 : a0 = 0
    · rw [if_pos c0] at h
      cases h
      have d0 : (a0 == 0) = true := beq_iff_eq.2 c0
      clear c0
      go_enter Try.func35, Try.ntmps35
      go_wp2_with (first | (go_at_call 94; (with_reducible refine (impl_within.calls a0 0 4 true _ HW.out).mono ?_); rintro e w2 ⟨rfl, ⟨nd, rfl⟩⟩))
      go_ret2
      exact ⟨rfl, pw_below_drewN (Below.refl _ _) _⟩
    · rw [if_neg c0] at h
      have d0 : (a0 == 0) = false := beq_eq_false_iff_ne.2 c0
      by_cases c1 : 0 ≤ a0 ∧ a0 ≤ 8
      · rw [if_pos c1] at h
        obtain ⟨codes, hq, h⟩ := Option.bind_eq_some_iff.mp h
        cases h
        obtain ⟨n, rfl⟩ := Int.eq_ofNat_of_zero_le c1.1
        rw [Int.toNat_natCast] at hq
        have HQ := Aside0.mk hq
        have hn8 : n ≤ 8 := by omega
        clear hq c0 c1
        go_enter Try.func35, Try.ntmps35
        go_wp2_with (first | (go_at_call 94; (with_reducible refine (impl_within.calls (n : Int) 0 4 true _ HW.out).mono ?_); rintro e w2 ⟨rfl, ⟨nd, rfl⟩⟩) | (go_at_call 95; (with_reducible refine (impl_tablesOf.calls k n codes _ hn8 HQ.out).mono ?_); rintro e w3 ⟨rfl, hm, hb⟩; have HM := Aside0.mk hm; have HB := Aside0.mk hb; clear hm hb) | (at_len; refine wpList_len_own _ rfl _ 96 rfl 3 4 Try.underlying96 (plainElem Try.prog 4) _ codes.length (tdat codes) rfl HM.out ?_))
        go_ret2
        exact ⟨rfl, below_step (pw_below_drewN (Below.refl w.heap.size w) nd) HB.out⟩
      · rw [if_neg c1] at h; cases h
theorem impl_CountThresholds.mono : ∀ a0 k, LeO (impl_CountThresholds.f k a0) (impl_CountThresholds.f (k + 1) a0) := by
  intro a0 k
  unfold impl_CountThresholds.f
  exact LeO.bind (LeO.refl _) fun _ => LeO.ite (LeO.ite (LeO.refl _) (LeO.ite (LeO.bind (impl_tablesOf.all_mono _ k) fun _ => LeO.refl _) (LeO.refl _))) (LeO.refl _)

/-! ### laws_FnExactCountThresholds: function 4 -/
def laws_FnExactCountThresholds.f (k : Nat) (a0 : Int) : Option (Bool) := (spec_CountThresholds.f k a0).bind fun bt184 => ((impl_CountThresholds.f k a0).bind fun bt186 => (if bt186.1 = bt184.1 then (if (bt186.2 != bt184.2) = true then (some false) else (some true)) else (some false)))
theorem laws_FnExactCountThresholds.mono : ∀ a0 k, LeO (laws_FnExactCountThresholds.f k a0) (laws_FnExactCountThresholds.f (k + 1) a0) := by
  intro a0 k
  unfold laws_FnExactCountThresholds.f
  repeat' first
      | (with_reducible exact impl_CountThresholds.mono _ _)
      | (with_reducible exact spec_CountThresholds.mono _ _)
      | (with_reducible exact LeO.refl _)
      | (with_reducible exact LeO.none _)
      | (with_reducible refine LeO.ite ?_ ?_)
      | (with_reducible refine LeO.bind ?_ (fun _ => ?_))
      | exact impl_CountThresholds.mono _ _
      | exact spec_CountThresholds.mono _ _
      | exact LeO.none _
      | refine LeO.ite ?_ ?_
      | refine LeO.bind ?_ (fun _ => ?_)
set_option maxHeartbeats 8000000 in
set_option maxRecDepth 100000 in
theorem laws_FnExactCountThresholds.calls (k : Nat) (a0 : Int) (r : Bool) (w : World) (h : laws_FnExactCountThresholds.f k a0 = some r) :
    Calls Try.prog 4 #[.int .i64 a0] w fun e w' => e = .returned (.bool r) ∧ Below w.heap.size w w' := by
  have HB := Aside0.mk (Below.refl w.heap.size w)
  have H : ((spec_CountThresholds.f k a0).bind fun bt184 => ((impl_CountThresholds.f k a0).bind fun bt186 => (if bt186.1 = bt184.1 then (if (bt186.2 != bt184.2) = true then (some false) else (some true)) else (some false)))) = some r := h
  clear h
  replace H := Option.bind_eq_some_iff.mp H
  obtain ⟨⟨t184, t185⟩, A20, H⟩ := H
  replace H : ((impl_CountThresholds.f k a0).bind fun bt186 => (if bt186.1 = t184 then (if (bt186.2 != t185) = true then (some false) else (some true)) else (some false))) = some r := H
  have A2 := Aside0.mk A20
  clear A20
  replace H := Option.bind_eq_some_iff.mp H
  obtain ⟨⟨t186, t187⟩, A30, H⟩ := H
  replace H : (if t186 = t184 then (if (t187 != t185) = true then (some false) else (some true)) else (some false)) = some r := H
  have A3 := Aside0.mk A30
  clear A30
  by_cases c4 : t186 = t184
  · rw [if_pos c4] at H
    have c4b0 : (t186 == t184) = true := beq_iff_eq.mpr c4
    have c4b1 : (t186 != t184) = false := bne_eq_false_iff_eq.mpr c4
    clear c4
    by_cases c5 : (t187 != t185) = true
    · rw [if_pos c5] at H
      have c5b0 : (t187 != t185) = true := c5
      (try (have c5b1 : decide (t187 = t185) = false := by simpa using c5))
      (try (have c5b2 : (t187 == t185) = false := by simpa using c5))
      (try (have c5b3 : ¬ (t187 = t185) := by simpa using c5))
      clear c5
      obtain rfl := Option.some.inj H
      go_enter Try.func4, Try.ntmps4
      go_wp2_with (first | ((with_reducible refine gate_callee (f := 34) rfl ?_); refine goesL_ (some 9) rfl rfl Try.func34 (by kernel_rfl) rfl #[.int .i64 a0] rfl (by (try simp only [List.map_toArray, List.map_cons, List.map_nil]); first | done | rfl | (simp only [List.length_drop, List.length_take]; rfl)) ?_; (with_reducible refine (spec_CountThresholds.calls k a0 t184 t185 _ A2.out).mono ?_); rintro e w6 ⟨rfl, hb⟩; refine ⟨_, rfl, ?_⟩; have n0_ := Aside0.mk (below_step (by repeat (first | (with_reducible first | exact HB.out | apply below_alloc | apply pw_below_drewN | apply below_drew1) | exact HB.out)) hb); clear HB; have HB := n0_; clear n0_; (try clear hb); (try clear hb2); (try clear hk); (try clear hi)) | ((with_reducible refine gate_callee (f := 35) rfl ?_); refine goesL_ (some 14) rfl rfl Try.func35 (by kernel_rfl) rfl #[.int .i64 a0] rfl (by (try simp only [List.map_toArray, List.map_cons, List.map_nil]); first | done | rfl | (simp only [List.length_drop, List.length_take]; rfl)) ?_; (with_reducible refine (impl_CountThresholds.calls k a0 t186 t187 _ A3.out).mono ?_); rintro e w7 ⟨rfl, hb⟩; refine ⟨_, rfl, ?_⟩; have n0_ := Aside0.mk (below_step (by repeat (first | (with_reducible first | exact HB.out | apply below_alloc | apply pw_below_drewN | apply below_drew1) | exact HB.out)) hb); clear HB; have HB := n0_; clear n0_; (try clear hb); (try clear hb2); (try clear hk); (try clear hi)))
      go_ret
      exact ⟨by first | rfl | (simp [errW_none, errW_some] <;> rfl) | (simp [*, errW_none, errW_some] <;> rfl), by repeat (first | (with_reducible first | exact HB.out | apply below_alloc | apply pw_below_drewN | apply below_drew1) | exact HB.out)⟩
    · rw [if_neg c5] at H
      have c5b0 : (t187 != t185) = false := by simpa using c5
      (try (have c5b1 : decide (t187 = t185) = true := by simpa using c5))
      (try (have c5b2 : (t187 == t185) = true := by simpa using c5))
      clear c5
      obtain rfl := Option.some.inj H
      go_enter Try.func4, Try.ntmps4
      go_wp2_with (first | ((with_reducible refine gate_callee (f := 34) rfl ?_); refine goesL_ (some 9) rfl rfl Try.func34 (by kernel_rfl) rfl #[.int .i64 a0] rfl (by (try simp only [List.map_toArray, List.map_cons, List.map_nil]); first | done | rfl | (simp only [List.length_drop, List.length_take]; rfl)) ?_; (with_reducible refine (spec_CountThresholds.calls k a0 t184 t185 _ A2.out).mono ?_); rintro e w8 ⟨rfl, hb⟩; refine ⟨_, rfl, ?_⟩; have n0_ := Aside0.mk (below_step (by repeat (first | (with_reducible first | exact HB.out | apply below_alloc | apply pw_below_drewN | apply below_drew1) | exact HB.out)) hb); clear HB; have HB := n0_; clear n0_; (try clear hb); (try clear hb2); (try clear hk); (try clear hi)) | ((with_reducible refine gate_callee (f := 35) rfl ?_); refine goesL_ (some 14) rfl rfl Try.func35 (by kernel_rfl) rfl #[.int .i64 a0] rfl (by (try simp only [List.map_toArray, List.map_cons, List.map_nil]); first | done | rfl | (simp only [List.length_drop, List.length_take]; rfl)) ?_; (with_reducible refine (impl_CountThresholds.calls k a0 t186 t187 _ A3.out).mono ?_); rintro e w9 ⟨rfl, hb⟩; refine ⟨_, rfl, ?_⟩; have n0_ := Aside0.mk (below_step (by repeat (first | (with_reducible first | exact HB.out | apply below_alloc | apply pw_below_drewN | apply below_drew1) | exact HB.out)) hb); clear HB; have HB := n0_; clear n0_; (try clear hb); (try clear hb2); (try clear hk); (try clear hi)))
      go_ret
      exact ⟨by first | rfl | (simp [errW_none, errW_some] <;> rfl) | (simp [*, errW_none, errW_some] <;> rfl), by repeat (first | (with_reducible first | exact HB.out | apply below_alloc | apply pw_below_drewN | apply below_drew1) | exact HB.out)⟩
  · rw [if_neg c4] at H
    have c4b0 : (t186 == t184) = false := beq_eq_false_iff_ne.mpr c4
    have c4b1 : (t186 != t184) = true := bne_iff_ne.mpr c4
    obtain rfl := Option.some.inj H
    go_enter Try.func4, Try.ntmps4
    go_wp2_with (first | ((with_reducible refine gate_callee (f := 34) rfl ?_); refine goesL_ (some 9) rfl rfl Try.func34 (by kernel_rfl) rfl #[.int .i64 a0] rfl (by (try simp only [List.map_toArray, List.map_cons, List.map_nil]); first | done | rfl | (simp only [List.length_drop, List.length_take]; rfl)) ?_; (with_reducible refine (spec_CountThresholds.calls k a0 t184 t185 _ A2.out).mono ?_); rintro e w10 ⟨rfl, hb⟩; refine ⟨_, rfl, ?_⟩; have n0_ := Aside0.mk (below_step (by repeat (first | (with_reducible first | exact HB.out | apply below_alloc | apply pw_below_drewN | apply below_drew1) | exact HB.out)) hb); clear HB; have HB := n0_; clear n0_; (try clear hb); (try clear hb2); (try clear hk); (try clear hi)) | ((with_reducible refine gate_callee (f := 35) rfl ?_); refine goesL_ (some 14) rfl rfl Try.func35 (by kernel_rfl) rfl #[.int .i64 a0] rfl (by (try simp only [List.map_toArray, List.map_cons, List.map_nil]); first | done | rfl | (simp only [List.length_drop, List.length_take]; rfl)) ?_; (with_reducible refine (impl_CountThresholds.calls k a0 t186 t187 _ A3.out).mono ?_); rintro e w11 ⟨rfl, hb⟩; refine ⟨_, rfl, ?_⟩; have n0_ := Aside0.mk (below_step (by repeat (first | (with_reducible first | exact HB.out | apply below_alloc | apply pw_below_drewN | apply below_drew1) | exact HB.out)) hb); clear HB; have HB := n0_; clear n0_; (try clear hb); (try clear hb2); (try clear hk); (try clear hi)))
    go_ret
    exact ⟨by first | rfl | (simp [errW_none, errW_some] <;> rfl) | (simp [*, errW_none, errW_some] <;> rfl), by repeat (first | (with_reducible first | exact HB.out | apply below_alloc | apply pw_below_drewN | apply below_drew1) | exact HB.out)⟩

/-- THE ONE PURE STATEMENT of laws_FnExactCountThresholds: yours. -/
def laws_FnExactCountThresholds.Pure : Prop := ∀ (a0 : Int), (Lit.int .i64 a0).wf = true → ∃ k, laws_FnExactCountThresholds.f k a0 = some true
theorem laws_FnExactCountThresholds.walk (P : laws_FnExactCountThresholds.Pure) (a0 : Int) (w : World) (w0 : (Lit.int .i64 a0).wf = true) :
    Calls Try.prog 4 #[.int .i64 a0] w fun e w' => e = .returned (.bool true) ∧ Below w.heap.size w w' := by
  obtain ⟨k, h⟩ := P a0 w0
  refine (laws_FnExactCountThresholds.calls k a0 true w h).mono ?_
  rintro e w' ⟨rfl, hd⟩
  exact ⟨rfl, hd⟩

end Go.Proofs.Ythfkgbkhkahmdaa.PFnExactCountThresholds
