-- Laid for this claim by a program of the session's own (wip/tool/myprint.py).
import Derived.Test.YthfkgbkhkahmdaaMFnExactBothTablex0
import Derived.Test.YthfkgbkhkahmdaaMFnExactBothTablex3
namespace Go.Proofs.Ythfkgbkhkahmdaa.PFnExactBothTable
open Go.RowKit Go.Proofs.YthfkgbkhkahmdaaW.PrintWords Go.Proofs.YthfkgbkhkahmdaaW.PrintLast Go.Proofs.YthfkgbkhkahmdaaW.PrintMore
attribute [local go_sem] max2_int min2_int max_two min_two max_three min_three max_four min_four   -- for this text's walks alone
set_option linter.unusedVariables false
set_option linter.unusedSimpArgs false

/-! ### impl_BothTable: function 39 -/
def impl_BothTable.prod (x y : List Int) : List Int := (List.range x.length).map fun j => wrap64 (x.getD j 0 * y.getD j 0)
def impl_BothTable.f (k : Nat) (l0 : List Int) (a0 : Int) (l1 : List Int) (a1 : Int) : Option (List Int × Bool) :=
  (impl_IsVote.f k l0 a0).bind fun t => if t = true then (impl_IsVote.f k l1 a1).bind fun u => if u = true then (if l0.length = l1.length then (if l0.length ≤ 4 then ((impl_Vote_table.f k l0 a0).bind fun x => (impl_Vote_table.f k l1 a1).bind fun y => if x.length ≤ 1048576 ∧ x.length ≤ y.length then some (impl_BothTable.prod x y, true) else none) else some ([], false)) else some ([], false)) else some ([], false) else some ([], false)
theorem impl_BothTable.mono : ∀ a0 a1 a2 a3 k, LeO (impl_BothTable.f k a0 a1 a2 a3) (impl_BothTable.f (k + 1) a0 a1 a2 a3) := by
  intro a0 a1 a2 a3 k
  unfold impl_BothTable.f
  refine LeO.bind (impl_IsVote.mono _ _ _) fun t => LeO.ite ?_ (LeO.refl _)
  refine LeO.bind (impl_IsVote.mono _ _ _) fun u => LeO.ite ?_ (LeO.refl _)
  refine LeO.ite (LeO.ite ?_ (LeO.refl _)) (LeO.refl _)
  exact LeO.bind (impl_Vote_table.mono _ _ _) fun x => LeO.bind (impl_Vote_table.mono _ _ _) fun y => LeO.refl _
set_option maxHeartbeats 8000000 in
set_option maxRecDepth 100000 in
theorem impl_BothTable.one (x y : List Int) (j : Nat) (hj : j < x.length) (hl : x.length ≤ 1048576 ∧ x.length ≤ y.length) (g1 g2 : Nat) (Aa : Option Addr) (na : Nat) (Ab : Option Addr) (nb : Nat) (W : World) (h1 : W.heap[g1]? = some (.cells #[.slice Aa x.length na] 24 (0, 0))) (h2 : W.heap[g2]? = some (.cells #[.slice Ab y.length nb] 24 (0, 0)))
    (hx : Kd.C (Kd.int .i64) W Aa x.length x) (hy : Kd.C (Kd.int .i64) W Ab y.length y) : Calls Try.prog 102 (#[.int .i64 (j : Int)] ++ #[.pointer (some ⟨g1, 0, none⟩), .pointer (some ⟨g2, 0, none⟩)]) W fun e W' => e = .returned (.int .i64 (wrap64 (x.getD j 0 * y.getD j 0))) ∧ Below W.heap.size W W' := by
  have hc1 := (blk_cell h1 0).trans (show _ = some (Value.slice Aa x.length na) from rfl)
  have hc2 := (blk_cell h2 0).trans (show _ = some (Value.slice Ab y.length nb) from rfl)
  obtain ⟨ad, e1, hcx⟩ := Kd.at_int hx (j : Int) (by omega) (by omega)
  cases e1
  obtain ⟨ad2, e2, hcy⟩ := Kd.at_int hy (j : Int) (by omega) (by omega)
  cases e2
  have h0j : (0 : Int) ≤ (j : Int) := by omega
  have hjx : j < x.length := hj
  have hjy : j < y.length := by omega
  have hjx' : (j : Int) < (x.length : Int) := by omega
  have hjy' : (j : Int) < (y.length : Int) := by omega
  have hB := below_drew1 (Below.refl W.heap.size W)
  have HB := Aside0.mk hB
  clear h1 h2 hx hy hj hl hB
  rw [Int.toNat_natCast] at hcx hcy
  rw [show rd x (j : Int) = x.getD j 0 by simp [rd]] at hcx
  rw [show rd y (j : Int) = y.getD j 0 by simp [rd]] at hcy
  generalize x.getD j 0 = u at hcx ⊢
  generalize y.getD j 0 = v at hcy ⊢
  go_enter Try.func102, Try.ntmps102
  go_wp2
  refine start_ (n := 10) (S := fun w' => w'.cell? ⟨g1, 0, none⟩ = some (.slice (some ad) x.length na) ∧ w'.cell? ⟨g2, 0, none⟩ = some (.slice (some ad2) y.length nb) ∧ w'.cell? (ad.add j) = some (.int .i64 u) ∧ w'.cell? (ad2.add j) = some (.int .i64 v)) (ds := []) #[false, false, false, false, false, false, false, false, false, false] (by kernel_rfl) rfl rfl ⟨hc1, hc2, hcx, hcy⟩ (fun hHeld => ?_)
  refine pure_ (i := 1) (N := some 6) (v := ?_) (a' := ?_) #[false, true, false, false, false, false, false, false, false, false] rfl rfl (by kernel_rfl) (fun _ _ _ h => h) (Or.inl ⟨by rfl, ?_⟩) ?_ ?_
  rotate_left
  · intro w'
    go_simp
    with_reducible rfl
  rotate_left
  · simp only [Act.put, List.setIfInBounds_toArray, List.set_cons_zero, List.set_cons_succ, i64_w, i32_w]
    rfl
  refine pure_ (i := 5) (N := some 10) (v := ?_) (a' := ?_) #[false, true, false, false, false, true, false, false, false, false] rfl rfl (by kernel_rfl) (fun _ _ _ h => h) (Or.inl ⟨by rfl, ?_⟩) ?_ ?_
  rotate_left
  · intro w'
    go_simp
    with_reducible rfl
  rotate_left
  · simp only [Act.put, List.setIfInBounds_toArray, List.set_cons_zero, List.set_cons_succ, i64_w, i32_w]
    rfl
  refine take_ (i := 0) (N := some 5) (v := ?_) (a' := ?_) #[true, true, false, false, false, true, false, false, false, false] rfl rfl (by kernel_rfl) (fun _ _ _ h => h) (Or.inl ⟨by rfl, ?_⟩) hHeld ?_ ?_
  rotate_left
  · rintro w' ⟨s0, s1, s2, s3⟩
    go_simp
    with_reducible rfl
  rotate_left
  · simp only [Act.put, List.setIfInBounds_toArray, List.set_cons_zero, List.set_cons_succ, i64_w, i32_w]
    rfl
  refine pure_ (i := 2) (N := some 7) (v := ?_) (a' := ?_) #[true, true, true, false, false, true, false, false, false, false] rfl rfl (by kernel_rfl) (fun _ _ _ h => h) (Or.inl ⟨by rfl, ?_⟩) ?_ ?_
  rotate_left
  · intro w'
    go_simp
    with_reducible rfl
  rotate_left
  · simp only [Act.put, List.setIfInBounds_toArray, List.set_cons_zero, List.set_cons_succ, i64_w, i32_w]
    rfl
  refine take_ (i := 3) (N := some 8) (v := ?_) (a' := ?_) #[true, true, true, true, false, true, false, false, false, false] rfl rfl (by kernel_rfl) (fun _ _ _ h => h) (Or.inl ⟨by rfl, ?_⟩) hHeld ?_ ?_
  rotate_left
  · rintro w' ⟨s0, s1, s2, s3⟩
    go_simp
    with_reducible rfl
  rotate_left
  · simp only [Act.put, List.setIfInBounds_toArray, List.set_cons_zero, List.set_cons_succ, i64_w, i32_w]
    rfl
  refine take_ (i := 4) (N := some 9) (v := ?_) (a' := ?_) #[true, true, true, true, true, true, false, false, false, false] rfl rfl (by kernel_rfl) (fun _ _ _ h => h) (Or.inl ⟨by rfl, ?_⟩) hHeld ?_ ?_
  rotate_left
  · rintro w' ⟨s0, s1, s2, s3⟩
    go_simp
    with_reducible rfl
  rotate_left
  · simp only [Act.put, List.setIfInBounds_toArray, List.set_cons_zero, List.set_cons_succ, i64_w, i32_w]
    rfl
  refine pure_ (i := 6) (N := some 11) (v := ?_) (a' := ?_) #[true, true, true, true, true, true, true, false, false, false] rfl rfl (by kernel_rfl) (fun _ _ _ h => h) (Or.inl ⟨by rfl, ?_⟩) ?_ ?_
  rotate_left
  · intro w'
    go_simp
    with_reducible rfl
  rotate_left
  · simp only [Act.put, List.setIfInBounds_toArray, List.set_cons_zero, List.set_cons_succ, i64_w, i32_w]
    rfl
  refine take_ (i := 7) (N := some 12) (v := ?_) (a' := ?_) #[true, true, true, true, true, true, true, true, false, false] rfl rfl (by kernel_rfl) (fun _ _ _ h => h) (Or.inl ⟨by rfl, ?_⟩) hHeld ?_ ?_
  rotate_left
  · rintro w' ⟨s0, s1, s2, s3⟩
    go_simp
    with_reducible rfl
  rotate_left
  · simp only [Act.put, List.setIfInBounds_toArray, List.set_cons_zero, List.set_cons_succ, i64_w, i32_w]
    rfl
  refine pure_ (i := 8) (N := some 13) (v := ?_) (a' := ?_) #[true, true, true, true, true, true, true, true, true, false] rfl rfl (by kernel_rfl) (fun _ _ _ h => h) (Or.inl ⟨by rfl, ?_⟩) ?_ ?_
  rotate_left
  · intro w'
    go_simp
    with_reducible rfl
  rotate_left
  · simp only [Act.put, List.setIfInBounds_toArray, List.set_cons_zero, List.set_cons_succ, i64_w, i32_w]
    rfl
  refine pure_ (i := 9) (N := some 4) (v := ?_) (a' := ?_) #[true, true, true, true, true, true, true, true, true, true] rfl rfl (by kernel_rfl) (fun _ _ _ h => h) (Or.inl ⟨by rfl, ?_⟩) ?_ ?_
  rotate_left
  · intro w'
    go_simp
    with_reducible rfl
  rotate_left
  · simp only [Act.put, List.setIfInBounds_toArray, List.set_cons_zero, List.set_cons_succ, i64_w, i32_w]
    rfl
  refine done_ (by kernel_rfl) ?_
  go_wp2
  go_ret
  exact ⟨rfl, by first | exact HB.out | exact Below.refl _ _⟩
set_option maxHeartbeats 8000000 in
set_option maxRecDepth 100000 in
theorem impl_BothTable.calls (k : Nat) (A0 : Option Addr) (c0 : Nat) (l0 : List Int) (a0 : Int) (A1 : Option Addr) (c1 : Nat) (l1 : List Int) (a1 : Int) (r1 : List Int) (r2 : Bool) (w : World) (hr0 : Kd.C (Kd.int .i64) w A0 l0.length l0) (hc0 : l0.length ≤ c0) (hr1 : Kd.C (Kd.int .i64) w A1 l1.length l1) (hc1 : l1.length ≤ c1) (h : impl_BothTable.f k l0 a0 l1 a1 = some (r1, r2)) :
    Calls Try.prog 39 #[.agg #[.slice A0 l0.length c0, .int .i64 a0], .agg #[.slice A1 l1.length c1, .int .i64 a1]] w fun e w' => ∃ v0_ : Value, e = .returned (.tuple #[v0_, .bool r2]) ∧ Kd.R (Kd.int .i64) 3 w' w.heap.size (fun _ => True) v0_ r1 ∧ Below w.heap.size w w' := by
  have HR0 := Aside0.mk hr0
  have HC0 := Aside0.mk hc0
  have HR1 := Aside0.mk hr1
  have HC1 := Aside0.mk hc1
  clear hr0 hc0 hr1 hc1
  have BK0 := Aside0.mk (blk_alloc (blk_new w (.cells #[.slice A0 l0.length c0, .int .i64 a0] 57)) (.cells #[.slice A1 l1.length c1, .int .i64 a1] 57))
  have BK1 := Aside0.mk (show ((w.alloc (.cells #[.slice A0 l0.length c0, .int .i64 a0] 57)).alloc (.cells #[.slice A1 l1.length c1, .int .i64 a1] 57)).heap[w.heap.size + 1]? = some (.cells #[.slice A1 l1.length c1, .int .i64 a1] 57 (0, 0)) by simpa using blk_new (w.alloc (.cells #[.slice A0 l0.length c0, .int .i64 a0] 57)) (.cells #[.slice A1 l1.length c1, .int .i64 a1] 57))
  have HB := Aside0.mk (below_alloc (below_alloc (Below.refl w.heap.size w) (.cells #[.slice A0 l0.length c0, .int .i64 a0] 57)) (.cells #[.slice A1 l1.length c1, .int .i64 a1] 57))
  have hz0 := (blk_cell BK0.out 0).trans (show _ = some (Value.slice A0 l0.length c0) from rfl); have hz1 := (blk_cell BK0.out 1).trans (show _ = some (Value.int .i64 a0) from rfl); have hz2 := (blk_cell BK1.out 0).trans (show _ = some (Value.slice A1 l1.length c1) from rfl); have hz3 := (blk_cell BK1.out 1).trans (show _ = some (Value.int .i64 a1) from rfl)
  unfold impl_BothTable.f at h
  obtain ⟨t, hv0, h⟩ := Option.bind_eq_some_iff.mp h
  have HV0 := Aside0.mk hv0
  clear hv0
  go_enter Try.func39, Try.ntmps39
  cases t with
  | false =>
    rw [if_neg (by decide)] at h
    cases h
    go_wp2_with (first | (go_at_call 99; (with_reducible refine (impl_IsVote.calls k _ _ l0 a0 false _ ?side1 ?side2 HV0.out).mono ?_); (case side1 => exact Kd.C_below HR0.out (by repeat (first | (with_reducible first | exact HB.out | apply below_drew1) | exact HB.out))); (case side2 => exact HC0.out); rintro e w4 ⟨rfl, hb⟩; have n0_ := Aside0.mk ((hb.block w.heap.size (blk_lt BK0.out)).trans BK0.out); have n1_ := Aside0.mk ((hb.block (w.heap.size + 1) (blk_lt BK1.out)).trans BK1.out); have n2_ := Aside0.mk (below_step HB.out hb); clear BK0 BK1 HB hb; have BK0 := n0_; have BK1 := n1_; have HB := n2_; clear n0_ n1_ n2_; have hz0 := (blk_cell BK0.out 0).trans (show _ = some (Value.slice A0 l0.length c0) from rfl); have hz1 := (blk_cell BK0.out 1).trans (show _ = some (Value.int .i64 a0) from rfl); have hz2 := (blk_cell BK1.out 0).trans (show _ = some (Value.slice A1 l1.length c1) from rfl); have hz3 := (blk_cell BK1.out 1).trans (show _ = some (Value.int .i64 a1) from rfl)))
    go_ret2
    exact ⟨_, rfl, Kd.R_nil _ _ _ _ _, by first | exact HB.out | exact below_drew1 HB.out⟩
  | true =>
    rw [if_pos rfl] at h
    obtain ⟨u, hv1, h⟩ := Option.bind_eq_some_iff.mp h
    have HV1 := Aside0.mk hv1
    clear hv1
    cases u with
    | false =>
      rw [if_neg (by decide)] at h
      cases h
      go_wp2_with (first | (go_at_call 99; (with_reducible refine (impl_IsVote.calls k _ _ l0 a0 true _ ?side1 ?side2 HV0.out).mono ?_); (case side1 => exact Kd.C_below HR0.out (by repeat (first | (with_reducible first | exact HB.out | apply below_drew1) | exact HB.out))); (case side2 => exact HC0.out); rintro e w4 ⟨rfl, hb⟩; have n0_ := Aside0.mk ((hb.block w.heap.size (blk_lt BK0.out)).trans BK0.out); have n1_ := Aside0.mk ((hb.block (w.heap.size + 1) (blk_lt BK1.out)).trans BK1.out); have n2_ := Aside0.mk (below_step HB.out hb); clear BK0 BK1 HB hb; have BK0 := n0_; have BK1 := n1_; have HB := n2_; clear n0_ n1_ n2_; have hz0 := (blk_cell BK0.out 0).trans (show _ = some (Value.slice A0 l0.length c0) from rfl); have hz1 := (blk_cell BK0.out 1).trans (show _ = some (Value.int .i64 a0) from rfl); have hz2 := (blk_cell BK1.out 0).trans (show _ = some (Value.slice A1 l1.length c1) from rfl); have hz3 := (blk_cell BK1.out 1).trans (show _ = some (Value.int .i64 a1) from rfl)) | (go_at_call 99; (with_reducible refine (impl_IsVote.calls k _ _ l1 a1 false _ ?side1 ?side2 HV1.out).mono ?_); (case side1 => exact Kd.C_below HR1.out (by repeat (first | (with_reducible first | exact HB.out | apply below_drew1) | exact HB.out))); (case side2 => exact HC1.out); rintro e w5 ⟨rfl, hb⟩; have n0_ := Aside0.mk ((hb.block w.heap.size (blk_lt BK0.out)).trans BK0.out); have n1_ := Aside0.mk ((hb.block (w.heap.size + 1) (blk_lt BK1.out)).trans BK1.out); have n2_ := Aside0.mk (below_step HB.out hb); clear BK0 BK1 HB hb; have BK0 := n0_; have BK1 := n1_; have HB := n2_; clear n0_ n1_ n2_; have hz0 := (blk_cell BK0.out 0).trans (show _ = some (Value.slice A0 l0.length c0) from rfl); have hz1 := (blk_cell BK0.out 1).trans (show _ = some (Value.int .i64 a0) from rfl); have hz2 := (blk_cell BK1.out 0).trans (show _ = some (Value.slice A1 l1.length c1) from rfl); have hz3 := (blk_cell BK1.out 1).trans (show _ = some (Value.int .i64 a1) from rfl)))
      go_ret2
      exact ⟨_, rfl, Kd.R_nil _ _ _ _ _, by first | exact HB.out | exact below_drew1 HB.out⟩
    | true =>
      rw [if_pos rfl] at h
      by_cases cl : l0.length = l1.length
      · rw [if_pos cl] at h
        have d0 : ((l0.length : Int) == (l1.length : Int)) = true := beq_iff_eq.mpr (by omega)
        have d1 : ((l0.length : Int) != (l1.length : Int)) = false := bne_eq_false_iff_eq.mpr (by omega)
        have d2 : (l0.length == l1.length) = true := beq_iff_eq.mpr cl
        by_cases cg : l0.length ≤ 4
        · rw [if_pos cg] at h
          have d3 : decide ((4 : Int) < (l0.length : Int)) = false := decide_eq_false (by omega)
          have d4 : decide ((l0.length : Int) > 4) = false := decide_eq_false (by omega)
          have d5 : decide (4 < l0.length) = false := decide_eq_false (by omega)
          clear cg cl
          obtain ⟨x, hx, h⟩ := Option.bind_eq_some_iff.mp h
          obtain ⟨y, hy, h⟩ := Option.bind_eq_some_iff.mp h
          have HX := Aside0.mk hx
          have HY := Aside0.mk hy
          by_cases cm : x.length ≤ 1048576 ∧ x.length ≤ y.length
          · rw [if_pos cm] at h
            cases h
            have HM := Aside0.mk cm
            clear cm hx hy
            go_wp2_with (first | (go_at_call 99; (with_reducible refine (impl_IsVote.calls k _ _ l0 a0 true _ ?side1 ?side2 HV0.out).mono ?_); (case side1 => exact Kd.C_below HR0.out (by repeat (first | (with_reducible first | exact HB.out | apply below_drew1) | exact HB.out))); (case side2 => exact HC0.out); rintro e w4 ⟨rfl, hb⟩; have n0_ := Aside0.mk ((hb.block w.heap.size (blk_lt BK0.out)).trans BK0.out); have n1_ := Aside0.mk ((hb.block (w.heap.size + 1) (blk_lt BK1.out)).trans BK1.out); have n2_ := Aside0.mk (below_step HB.out hb); clear BK0 BK1 HB hb; have BK0 := n0_; have BK1 := n1_; have HB := n2_; clear n0_ n1_ n2_; have hz0 := (blk_cell BK0.out 0).trans (show _ = some (Value.slice A0 l0.length c0) from rfl); have hz1 := (blk_cell BK0.out 1).trans (show _ = some (Value.int .i64 a0) from rfl); have hz2 := (blk_cell BK1.out 0).trans (show _ = some (Value.slice A1 l1.length c1) from rfl); have hz3 := (blk_cell BK1.out 1).trans (show _ = some (Value.int .i64 a1) from rfl)) | (go_at_call 99; (with_reducible refine (impl_IsVote.calls k _ _ l1 a1 true _ ?side1 ?side2 HV1.out).mono ?_); (case side1 => exact Kd.C_below HR1.out (by repeat (first | (with_reducible first | exact HB.out | apply below_drew1) | exact HB.out))); (case side2 => exact HC1.out); rintro e w5 ⟨rfl, hb⟩; have n0_ := Aside0.mk ((hb.block w.heap.size (blk_lt BK0.out)).trans BK0.out); have n1_ := Aside0.mk ((hb.block (w.heap.size + 1) (blk_lt BK1.out)).trans BK1.out); have n2_ := Aside0.mk (below_step HB.out hb); clear BK0 BK1 HB hb; have BK0 := n0_; have BK1 := n1_; have HB := n2_; clear n0_ n1_ n2_; have hz0 := (blk_cell BK0.out 0).trans (show _ = some (Value.slice A0 l0.length c0) from rfl); have hz1 := (blk_cell BK0.out 1).trans (show _ = some (Value.int .i64 a0) from rfl); have hz2 := (blk_cell BK1.out 0).trans (show _ = some (Value.slice A1 l1.length c1) from rfl); have hz3 := (blk_cell BK1.out 1).trans (show _ = some (Value.int .i64 a1) from rfl)))
            have n0_ := Aside0.mk (blk_drew BK0.out)
            have n1_ := Aside0.mk (blk_drew BK1.out)
            have n2_ := Aside0.mk (below_drew1 HB.out)
            clear BK0 BK1 HB hz0 hz1 hz2 hz3
            have BK0 := n0_
            have BK1 := n1_
            have HB := n2_
            clear n0_ n1_ n2_
            refine start_ (n := 8) (S := fun w' => w'.cell? ⟨w.heap.size, 0, none⟩ = some (.slice A0 l0.length c0) ∧ w'.cell? ⟨w.heap.size, 1, none⟩ = some (.int .i64 a0) ∧ w'.cell? ⟨w.heap.size + 1, 0, none⟩ = some (.slice A1 l1.length c1) ∧ w'.cell? ⟨w.heap.size + 1, 1, none⟩ = some (.int .i64 a1)) (ds := []) #[false, false, false, false, false, false, false, false] (by kernel_rfl) rfl rfl ⟨(blk_cell BK0.out 0).trans rfl, (blk_cell BK0.out 1).trans rfl, (blk_cell BK1.out 0).trans rfl, (blk_cell BK1.out 1).trans rfl⟩ (fun hHeld => ?_)
            generalize w5.drew = w6 at BK0 BK1 HB hHeld ⊢
            have HB6 := Aside0.mk (Below.refl w6.heap.size w6)
            refine take_ (i := 0) (N := some 31) (v := ?_) (a' := ?_) #[true, false, false, false, false, false, false, false] rfl rfl (by kernel_rfl) (fun _ _ _ h => h) (Or.inl ⟨by rfl, ?_⟩) hHeld ?_ ?_
            rotate_left
            · rintro w' ⟨s0, s1, s2, s3⟩
              go_simp
              with_reducible rfl
            rotate_left
            · simp only [Act.put, List.setIfInBounds_toArray, List.set_cons_zero, List.set_cons_succ, i64_w, i32_w]
              rfl
            refine take_ (i := 2) (N := some 33) (v := ?_) (a' := ?_) #[true, false, true, false, false, false, false, false] rfl rfl (by kernel_rfl) (fun _ _ _ h => h) (Or.inl ⟨by rfl, ?_⟩) hHeld ?_ ?_
            rotate_left
            · rintro w' ⟨s0, s1, s2, s3⟩
              go_simp
              with_reducible rfl
            rotate_left
            · simp only [Act.put, List.setIfInBounds_toArray, List.set_cons_zero, List.set_cons_succ, i64_w, i32_w]
              rfl
            refine join_ (σ := Value × Value × Nat × Nat) 2 #[true, true, true, true, true, true, false, false] (fun s => [(32, s.1), (34, s.2.1), (6, .pointer (some ⟨s.2.2.1, 0, none⟩)), (7, .pointer (some ⟨s.2.2.2, 0, none⟩))]) (fun s w' => Kd.R (Kd.int .i64) 3 w' w6.heap.size (fun z => z ≠ s.2.2.1 ∧ z ≠ s.2.2.2) s.1 x ∧ Kd.R (Kd.int .i64) 3 w' w6.heap.size (fun z => z ≠ s.2.2.1 ∧ z ≠ s.2.2.2) s.2.1 y ∧ w'.heap[s.2.2.1]? = some (.cells #[.slice none 0 0] 24 (0, 0)) ∧ w'.heap[s.2.2.2]? = some (.cells #[.slice none 0 0] 24 (0, 0)) ∧ s.2.2.1 ≠ s.2.2.2 ∧ w6.heap.size ≤ s.2.2.1 ∧ w6.heap.size ≤ s.2.2.2 ∧ Below w6.heap.size w6 w') ?_ ?_
            rotate_left
            · intro hCont
              refine three_ (i := 1) (j := 4) (k := 5) (Ni := some 32) (Nj := some 6) (Nk := some 7) #[true, true, true, false, false, false, false, false] #[true, false, true, false, true, false, false, false] #[true, false, true, false, false, true, false, false] rfl rfl rfl rfl rfl rfl (by kernel_rfl) (by decide) (by decide) (by decide) (fun K hK => ?_) (fun K hK => ?_) (fun K hK => ?_)
              · skip
                refine goes_ Try.func100 (by kernel_rfl) rfl #[.agg #[.slice A0 l0.length c0, .int .i64 a0]] (by rfl) rfl rfl (by simp only [List.map_toArray, List.map_cons, List.map_nil]; rfl) ?_
                with_reducible refine (impl_Vote_table.calls k _ _ l0 a0 x _ ?side1 ?side2 HX.out).mono ?_
                (case side1 => exact Kd.C_below HR0.out HB.out)
                (case side2 => exact HC0.out)
                rintro e wa ⟨va, rfl, hr, hb⟩
                refine ⟨_, rfl, ?_⟩
                have hs1 := below_size hb
                have n0_ := Aside0.mk (Kd.R_lower (Kd.R_mono (ok' := fun z => w6.heap.size ≤ z ∧ z < wa.heap.size) (Kd.R_bound hr) (fun z hz => ⟨hz.2.1, hz.2.2.1⟩)) (below_size HB6.out))
                have n1_ := Aside0.mk ((hb.block w.heap.size (blk_lt BK0.out)).trans BK0.out)
                have n2_ := Aside0.mk ((hb.block (w.heap.size + 1) (blk_lt BK1.out)).trans BK1.out)
                have n3_ := Aside0.mk (below_step HB.out hb)
                have n4_ := Aside0.mk (below_step HB6.out hb)
                clear BK0 BK1 HB HB6 hb hr
                have HRa := n0_
                have BK0 := n1_
                have BK1 := n2_
                have HB := n3_
                have HB6 := n4_
                clear n0_ n1_ n2_ n3_ n4_
                refine hK.out _ _ ⟨(blk_cell BK0.out 0).trans rfl, (blk_cell BK0.out 1).trans rfl, (blk_cell BK1.out 0).trans rfl, (blk_cell BK1.out 1).trans rfl⟩ (fun hHeld => ?_)
                clear hK K
                refine norm_ (a' := ?_) ?_ ?_
                rotate_left
                · show Act.put _ (some 32) _ = _
                  simp only [Act.put, List.setIfInBounds_toArray, List.set_cons_zero, List.set_cons_succ, i64_w, i32_w]
                  rfl
                refine three_ (i := 3) (j := 4) (k := 5) (Ni := some 34) (Nj := some 6) (Nk := some 7) #[true, true, true, true, false, false, false, false] #[true, true, true, false, true, false, false, false] #[true, true, true, false, false, true, false, false] rfl rfl rfl rfl rfl rfl (by kernel_rfl) (by decide) (by decide) (by decide) (fun K hK => ?_) (fun K hK => ?_) (fun K hK => ?_)
                · skip
                  refine goes_ Try.func100 (by kernel_rfl) rfl #[.agg #[.slice A1 l1.length c1, .int .i64 a1]] (by rfl) rfl rfl (by simp only [List.map_toArray, List.map_cons, List.map_nil]; rfl) ?_
                  with_reducible refine (impl_Vote_table.calls k _ _ l1 a1 y _ ?side1 ?side2 HY.out).mono ?_
                  (case side1 => exact Kd.C_below HR1.out HB.out)
                  (case side2 => exact HC1.out)
                  rintro e wb ⟨vb, rfl, hr, hb⟩
                  refine ⟨_, rfl, ?_⟩
                  have hs3 := below_size hb
                  have n0_ := Aside0.mk (Kd.R_lower (Kd.R_mono (ok' := fun z => wa.heap.size ≤ z ∧ z < wb.heap.size) (Kd.R_bound hr) (fun z hz => ⟨hz.2.1, hz.2.2.1⟩)) (below_size HB6.out))
                  have n1_ := Aside0.mk ((hb.block w.heap.size (blk_lt BK0.out)).trans BK0.out)
                  have n2_ := Aside0.mk ((hb.block (w.heap.size + 1) (blk_lt BK1.out)).trans BK1.out)
                  have n3_ := Aside0.mk (below_step HB.out hb)
                  have n4_ := Aside0.mk (below_step HB6.out hb)
                  have n5_ := Aside0.mk (Kd.R_below HRa.out hb)
                  clear BK0 BK1 HB HB6 HRa hb hr
                  have HRb := n0_
                  have BK0 := n1_
                  have BK1 := n2_
                  have HB := n3_
                  have HB6 := n4_
                  have HRa := n5_
                  clear n0_ n1_ n2_ n3_ n4_ n5_
                  refine hK.out _ _ ⟨(blk_cell BK0.out 0).trans rfl, (blk_cell BK0.out 1).trans rfl, (blk_cell BK1.out 0).trans rfl, (blk_cell BK1.out 1).trans rfl⟩ (fun hHeld => ?_)
                  clear hK K
                  refine norm_ (a' := ?_) ?_ ?_
                  rotate_left
                  · show Act.put _ (some 34) _ = _
                    simp only [Act.put, List.setIfInBounds_toArray, List.set_cons_zero, List.set_cons_succ, i64_w, i32_w]
                    rfl
                  refine two_ (i := 4) (j := 5) (Ni := some 6) (Nj := some 7) #[true, true, true, true, true, false, false, false] #[true, true, true, true, false, true, false, false] rfl rfl rfl rfl (by kernel_rfl) (by decide) (by decide) (fun K hK => ?_) (fun K hK => ?_)
                  · skip
                    refine value_ (w1 := ?_) (v := ?_) (by rfl) rfl ?_ ?_
                    rotate_left 2
                    · go_simp
                      constructor
                      · rfl
                      · rfl
                    have hb := below_alloc (Below.refl wb.heap.size wb) (.cells #[.slice none 0 0] 24)
                    have hs4 : (wb.alloc (.cells #[.slice none 0 0] 24)).heap.size = wb.heap.size + 1 := by simp
                    have n0_ := Aside0.mk (show (wb.alloc (.cells #[.slice none 0 0] 24)).heap[wb.heap.size]? = some (.cells #[.slice none 0 0] 24 (0, 0)) by simpa using blk_new wb (.cells #[.slice none 0 0] 24))
                    have n1_ := Aside0.mk ((hb.block w.heap.size (blk_lt BK0.out)).trans BK0.out)
                    have n2_ := Aside0.mk ((hb.block (w.heap.size + 1) (blk_lt BK1.out)).trans BK1.out)
                    have n3_ := Aside0.mk (below_step HB.out hb)
                    have n4_ := Aside0.mk (below_step HB6.out hb)
                    have n5_ := Aside0.mk (Kd.R_below HRa.out hb)
                    have n6_ := Aside0.mk (Kd.R_below HRb.out hb)
                    clear BK0 BK1 HB HB6 HRa HRb hb
                    have HG4 := n0_
                    have BK0 := n1_
                    have BK1 := n2_
                    have HB := n3_
                    have HB6 := n4_
                    have HRa := n5_
                    have HRb := n6_
                    clear n0_ n1_ n2_ n3_ n4_ n5_ n6_
                    refine hK.out _ _ ⟨(blk_cell BK0.out 0).trans rfl, (blk_cell BK0.out 1).trans rfl, (blk_cell BK1.out 0).trans rfl, (blk_cell BK1.out 1).trans rfl⟩ (fun hHeld => ?_)
                    clear hK K
                    refine norm_ (a' := ?_) ?_ ?_
                    rotate_left
                    · show Act.put _ (some 6) _ = _
                      simp only [Act.put, List.setIfInBounds_toArray, List.set_cons_zero, List.set_cons_succ, i64_w, i32_w]
                      rfl
                    refine one_ (i := 5) (N := some 7) #[true, true, true, true, true, true, false, false] rfl rfl (by kernel_rfl) (by decide) (fun K hK => ?_)
                    refine value_ (w1 := ?_) (v := ?_) (by rfl) rfl ?_ ?_
                    rotate_left 2
                    · go_simp
                      constructor
                      · rfl
                      · rfl
                    have hb := below_alloc (Below.refl (wb.alloc (.cells #[.slice none 0 0] 24)).heap.size (wb.alloc (.cells #[.slice none 0 0] 24))) (.cells #[.slice none 0 0] 24)
                    have hs5 : ((wb.alloc (.cells #[.slice none 0 0] 24)).alloc (.cells #[.slice none 0 0] 24)).heap.size = (wb.alloc (.cells #[.slice none 0 0] 24)).heap.size + 1 := by simp
                    have n0_ := Aside0.mk (show ((wb.alloc (.cells #[.slice none 0 0] 24)).alloc (.cells #[.slice none 0 0] 24)).heap[wb.heap.size + 1]? = some (.cells #[.slice none 0 0] 24 (0, 0)) by simpa using blk_new (wb.alloc (.cells #[.slice none 0 0] 24)) (.cells #[.slice none 0 0] 24))
                    have n1_ := Aside0.mk ((hb.block w.heap.size (blk_lt BK0.out)).trans BK0.out)
                    have n2_ := Aside0.mk ((hb.block (w.heap.size + 1) (blk_lt BK1.out)).trans BK1.out)
                    have n3_ := Aside0.mk (below_step HB.out hb)
                    have n4_ := Aside0.mk (below_step HB6.out hb)
                    have n5_ := Aside0.mk (Kd.R_below HRa.out hb)
                    have n6_ := Aside0.mk (Kd.R_below HRb.out hb)
                    have n7_ := Aside0.mk ((hb.block _ (blk_lt HG4.out)).trans HG4.out)
                    clear BK0 BK1 HB HB6 HRa HRb HG4 hb
                    have HG5 := n0_
                    have BK0 := n1_
                    have BK1 := n2_
                    have HB := n3_
                    have HB6 := n4_
                    have HRa := n5_
                    have HRb := n6_
                    have HG4 := n7_
                    clear n0_ n1_ n2_ n3_ n4_ n5_ n6_ n7_
                    refine hK.out _ _ ⟨(blk_cell BK0.out 0).trans rfl, (blk_cell BK0.out 1).trans rfl, (blk_cell BK1.out 0).trans rfl, (blk_cell BK1.out 1).trans rfl⟩ (fun hHeld => ?_)
                    clear hK K
                    refine norm_ (a' := ?_) ?_ ?_
                    rotate_left
                    · show Act.put _ (some 7) _ = _
                      simp only [Act.put, List.setIfInBounds_toArray, List.set_cons_zero, List.set_cons_succ, i64_w, i32_w]
                      rfl
                    exact norm_ (by simp only [putAll, Act.put, List.setIfInBounds_toArray, List.set_cons_zero, List.set_cons_succ]) (hCont (va, vb, wb.heap.size, wb.heap.size + 1) _ ⟨Kd.R_mono HRa.out (fun z hz => by have h1_ := hz.1; have h2_ := hz.2; (try dsimp only); omega), Kd.R_mono HRb.out (fun z hz => by have h1_ := hz.1; have h2_ := hz.2; (try dsimp only); omega), HG4.out, HG5.out, by (try dsimp only); omega, by (try dsimp only); omega, by (try dsimp only); omega, HB6.out⟩)
                  · skip
                    refine value_ (w1 := ?_) (v := ?_) (by rfl) rfl ?_ ?_
                    rotate_left 2
                    · go_simp
                      constructor
                      · rfl
                      · rfl
                    have hb := below_alloc (Below.refl wb.heap.size wb) (.cells #[.slice none 0 0] 24)
                    have hs5 : (wb.alloc (.cells #[.slice none 0 0] 24)).heap.size = wb.heap.size + 1 := by simp
                    have n0_ := Aside0.mk (show (wb.alloc (.cells #[.slice none 0 0] 24)).heap[wb.heap.size]? = some (.cells #[.slice none 0 0] 24 (0, 0)) by simpa using blk_new wb (.cells #[.slice none 0 0] 24))
                    have n1_ := Aside0.mk ((hb.block w.heap.size (blk_lt BK0.out)).trans BK0.out)
                    have n2_ := Aside0.mk ((hb.block (w.heap.size + 1) (blk_lt BK1.out)).trans BK1.out)
                    have n3_ := Aside0.mk (below_step HB.out hb)
                    have n4_ := Aside0.mk (below_step HB6.out hb)
                    have n5_ := Aside0.mk (Kd.R_below HRa.out hb)
                    have n6_ := Aside0.mk (Kd.R_below HRb.out hb)
                    clear BK0 BK1 HB HB6 HRa HRb hb
                    have HG5 := n0_
                    have BK0 := n1_
                    have BK1 := n2_
                    have HB := n3_
                    have HB6 := n4_
                    have HRa := n5_
                    have HRb := n6_
                    clear n0_ n1_ n2_ n3_ n4_ n5_ n6_
                    refine hK.out _ _ ⟨(blk_cell BK0.out 0).trans rfl, (blk_cell BK0.out 1).trans rfl, (blk_cell BK1.out 0).trans rfl, (blk_cell BK1.out 1).trans rfl⟩ (fun hHeld => ?_)
                    clear hK K
                    refine norm_ (a' := ?_) ?_ ?_
                    rotate_left
                    · show Act.put _ (some 7) _ = _
                      simp only [Act.put, List.setIfInBounds_toArray, List.set_cons_zero, List.set_cons_succ, i64_w, i32_w]
                      rfl
                    refine one_ (i := 4) (N := some 6) #[true, true, true, true, true, true, false, false] rfl rfl (by kernel_rfl) (by decide) (fun K hK => ?_)
                    refine value_ (w1 := ?_) (v := ?_) (by rfl) rfl ?_ ?_
                    rotate_left 2
                    · go_simp
                      constructor
                      · rfl
                      · rfl
                    have hb := below_alloc (Below.refl (wb.alloc (.cells #[.slice none 0 0] 24)).heap.size (wb.alloc (.cells #[.slice none 0 0] 24))) (.cells #[.slice none 0 0] 24)
                    have hs4 : ((wb.alloc (.cells #[.slice none 0 0] 24)).alloc (.cells #[.slice none 0 0] 24)).heap.size = (wb.alloc (.cells #[.slice none 0 0] 24)).heap.size + 1 := by simp
                    have n0_ := Aside0.mk (show ((wb.alloc (.cells #[.slice none 0 0] 24)).alloc (.cells #[.slice none 0 0] 24)).heap[wb.heap.size + 1]? = some (.cells #[.slice none 0 0] 24 (0, 0)) by simpa using blk_new (wb.alloc (.cells #[.slice none 0 0] 24)) (.cells #[.slice none 0 0] 24))
                    have n1_ := Aside0.mk ((hb.block w.heap.size (blk_lt BK0.out)).trans BK0.out)
                    have n2_ := Aside0.mk ((hb.block (w.heap.size + 1) (blk_lt BK1.out)).trans BK1.out)
                    have n3_ := Aside0.mk (below_step HB.out hb)
                    have n4_ := Aside0.mk (below_step HB6.out hb)
                    have n5_ := Aside0.mk (Kd.R_below HRa.out hb)
                    have n6_ := Aside0.mk (Kd.R_below HRb.out hb)
                    have n7_ := Aside0.mk ((hb.block _ (blk_lt HG5.out)).trans HG5.out)
                    clear BK0 BK1 HB HB6 HRa HRb HG5 hb
                    have HG4 := n0_
                    have BK0 := n1_
                    have BK1 := n2_
                    have HB := n3_
                    have HB6 := n4_
                    have HRa := n5_
                    have HRb := n6_
                    have HG5 := n7_
                    clear n0_ n1_ n2_ n3_ n4_ n5_ n6_ n7_
                    refine hK.out _ _ ⟨(blk_cell BK0.out 0).trans rfl, (blk_cell BK0.out 1).trans rfl, (blk_cell BK1.out 0).trans rfl, (blk_cell BK1.out 1).trans rfl⟩ (fun hHeld => ?_)
                    clear hK K
                    refine norm_ (a' := ?_) ?_ ?_
                    rotate_left
                    · show Act.put _ (some 6) _ = _
                      simp only [Act.put, List.setIfInBounds_toArray, List.set_cons_zero, List.set_cons_succ, i64_w, i32_w]
                      rfl
                    exact norm_ (by simp only [putAll, Act.put, List.setIfInBounds_toArray, List.set_cons_zero, List.set_cons_succ]) (hCont (va, vb, wb.heap.size + 1, wb.heap.size) _ ⟨Kd.R_mono HRa.out (fun z hz => by have h1_ := hz.1; have h2_ := hz.2; (try dsimp only); omega), Kd.R_mono HRb.out (fun z hz => by have h1_ := hz.1; have h2_ := hz.2; (try dsimp only); omega), HG4.out, HG5.out, by (try dsimp only); omega, by (try dsimp only); omega, by (try dsimp only); omega, HB6.out⟩)
                · skip
                  refine value_ (w1 := ?_) (v := ?_) (by rfl) rfl ?_ ?_
                  rotate_left 2
                  · go_simp
                    constructor
                    · rfl
                    · rfl
                  have hb := below_alloc (Below.refl wa.heap.size wa) (.cells #[.slice none 0 0] 24)
                  have hs4 : (wa.alloc (.cells #[.slice none 0 0] 24)).heap.size = wa.heap.size + 1 := by simp
                  have n0_ := Aside0.mk (show (wa.alloc (.cells #[.slice none 0 0] 24)).heap[wa.heap.size]? = some (.cells #[.slice none 0 0] 24 (0, 0)) by simpa using blk_new wa (.cells #[.slice none 0 0] 24))
                  have n1_ := Aside0.mk ((hb.block w.heap.size (blk_lt BK0.out)).trans BK0.out)
                  have n2_ := Aside0.mk ((hb.block (w.heap.size + 1) (blk_lt BK1.out)).trans BK1.out)
                  have n3_ := Aside0.mk (below_step HB.out hb)
                  have n4_ := Aside0.mk (below_step HB6.out hb)
                  have n5_ := Aside0.mk (Kd.R_below HRa.out hb)
                  clear BK0 BK1 HB HB6 HRa hb
                  have HG4 := n0_
                  have BK0 := n1_
                  have BK1 := n2_
                  have HB := n3_
                  have HB6 := n4_
                  have HRa := n5_
                  clear n0_ n1_ n2_ n3_ n4_ n5_
                  refine hK.out _ _ ⟨(blk_cell BK0.out 0).trans rfl, (blk_cell BK0.out 1).trans rfl, (blk_cell BK1.out 0).trans rfl, (blk_cell BK1.out 1).trans rfl⟩ (fun hHeld => ?_)
                  clear hK K
                  refine norm_ (a' := ?_) ?_ ?_
                  rotate_left
                  · show Act.put _ (some 6) _ = _
                    simp only [Act.put, List.setIfInBounds_toArray, List.set_cons_zero, List.set_cons_succ, i64_w, i32_w]
                    rfl
                  refine two_ (i := 3) (j := 5) (Ni := some 34) (Nj := some 7) #[true, true, true, true, true, false, false, false] #[true, true, true, false, true, true, false, false] rfl rfl rfl rfl (by kernel_rfl) (by decide) (by decide) (fun K hK => ?_) (fun K hK => ?_)
                  · skip
                    refine goes_ Try.func100 (by kernel_rfl) rfl #[.agg #[.slice A1 l1.length c1, .int .i64 a1]] (by rfl) rfl rfl (by simp only [List.map_toArray, List.map_cons, List.map_nil]; rfl) ?_
                    with_reducible refine (impl_Vote_table.calls k _ _ l1 a1 y _ ?side1 ?side2 HY.out).mono ?_
                    (case side1 => exact Kd.C_below HR1.out HB.out)
                    (case side2 => exact HC1.out)
                    rintro e wb ⟨vb, rfl, hr, hb⟩
                    refine ⟨_, rfl, ?_⟩
                    have hs3 := below_size hb
                    have n0_ := Aside0.mk (Kd.R_lower (Kd.R_mono (ok' := fun z => (wa.alloc (.cells #[.slice none 0 0] 24)).heap.size ≤ z ∧ z < wb.heap.size) (Kd.R_bound hr) (fun z hz => ⟨hz.2.1, hz.2.2.1⟩)) (below_size HB6.out))
                    have n1_ := Aside0.mk ((hb.block w.heap.size (blk_lt BK0.out)).trans BK0.out)
                    have n2_ := Aside0.mk ((hb.block (w.heap.size + 1) (blk_lt BK1.out)).trans BK1.out)
                    have n3_ := Aside0.mk (below_step HB.out hb)
                    have n4_ := Aside0.mk (below_step HB6.out hb)
                    have n5_ := Aside0.mk (Kd.R_below HRa.out hb)
                    have n6_ := Aside0.mk ((hb.block _ (blk_lt HG4.out)).trans HG4.out)
                    clear BK0 BK1 HB HB6 HRa HG4 hb hr
                    have HRb := n0_
                    have BK0 := n1_
                    have BK1 := n2_
                    have HB := n3_
                    have HB6 := n4_
                    have HRa := n5_
                    have HG4 := n6_
                    clear n0_ n1_ n2_ n3_ n4_ n5_ n6_
                    refine hK.out _ _ ⟨(blk_cell BK0.out 0).trans rfl, (blk_cell BK0.out 1).trans rfl, (blk_cell BK1.out 0).trans rfl, (blk_cell BK1.out 1).trans rfl⟩ (fun hHeld => ?_)
                    clear hK K
                    refine norm_ (a' := ?_) ?_ ?_
                    rotate_left
                    · show Act.put _ (some 34) _ = _
                      simp only [Act.put, List.setIfInBounds_toArray, List.set_cons_zero, List.set_cons_succ, i64_w, i32_w]
                      rfl
                    refine one_ (i := 5) (N := some 7) #[true, true, true, true, true, true, false, false] rfl rfl (by kernel_rfl) (by decide) (fun K hK => ?_)
                    refine value_ (w1 := ?_) (v := ?_) (by rfl) rfl ?_ ?_
                    rotate_left 2
                    · go_simp
                      constructor
                      · rfl
                      · rfl
                    have hb := below_alloc (Below.refl wb.heap.size wb) (.cells #[.slice none 0 0] 24)
                    have hs5 : (wb.alloc (.cells #[.slice none 0 0] 24)).heap.size = wb.heap.size + 1 := by simp
                    have n0_ := Aside0.mk (show (wb.alloc (.cells #[.slice none 0 0] 24)).heap[wb.heap.size]? = some (.cells #[.slice none 0 0] 24 (0, 0)) by simpa using blk_new wb (.cells #[.slice none 0 0] 24))
                    have n1_ := Aside0.mk ((hb.block w.heap.size (blk_lt BK0.out)).trans BK0.out)
                    have n2_ := Aside0.mk ((hb.block (w.heap.size + 1) (blk_lt BK1.out)).trans BK1.out)
                    have n3_ := Aside0.mk (below_step HB.out hb)
                    have n4_ := Aside0.mk (below_step HB6.out hb)
                    have n5_ := Aside0.mk (Kd.R_below HRa.out hb)
                    have n6_ := Aside0.mk ((hb.block _ (blk_lt HG4.out)).trans HG4.out)
                    have n7_ := Aside0.mk (Kd.R_below HRb.out hb)
                    clear BK0 BK1 HB HB6 HRa HG4 HRb hb
                    have HG5 := n0_
                    have BK0 := n1_
                    have BK1 := n2_
                    have HB := n3_
                    have HB6 := n4_
                    have HRa := n5_
                    have HG4 := n6_
                    have HRb := n7_
                    clear n0_ n1_ n2_ n3_ n4_ n5_ n6_ n7_
                    refine hK.out _ _ ⟨(blk_cell BK0.out 0).trans rfl, (blk_cell BK0.out 1).trans rfl, (blk_cell BK1.out 0).trans rfl, (blk_cell BK1.out 1).trans rfl⟩ (fun hHeld => ?_)
                    clear hK K
                    refine norm_ (a' := ?_) ?_ ?_
                    rotate_left
                    · show Act.put _ (some 7) _ = _
                      simp only [Act.put, List.setIfInBounds_toArray, List.set_cons_zero, List.set_cons_succ, i64_w, i32_w]
                      rfl
                    exact norm_ (by simp only [putAll, Act.put, List.setIfInBounds_toArray, List.set_cons_zero, List.set_cons_succ]) (hCont (va, vb, wa.heap.size, wb.heap.size) _ ⟨Kd.R_mono HRa.out (fun z hz => by have h1_ := hz.1; have h2_ := hz.2; (try dsimp only); omega), Kd.R_mono HRb.out (fun z hz => by have h1_ := hz.1; have h2_ := hz.2; (try dsimp only); omega), HG4.out, HG5.out, by (try dsimp only); omega, by (try dsimp only); omega, by (try dsimp only); omega, HB6.out⟩)
                  · skip
                    refine value_ (w1 := ?_) (v := ?_) (by rfl) rfl ?_ ?_
                    rotate_left 2
                    · go_simp
                      constructor
                      · rfl
                      · rfl
                    have hb := below_alloc (Below.refl (wa.alloc (.cells #[.slice none 0 0] 24)).heap.size (wa.alloc (.cells #[.slice none 0 0] 24))) (.cells #[.slice none 0 0] 24)
                    have hs5 : ((wa.alloc (.cells #[.slice none 0 0] 24)).alloc (.cells #[.slice none 0 0] 24)).heap.size = (wa.alloc (.cells #[.slice none 0 0] 24)).heap.size + 1 := by simp
                    have n0_ := Aside0.mk (show ((wa.alloc (.cells #[.slice none 0 0] 24)).alloc (.cells #[.slice none 0 0] 24)).heap[wa.heap.size + 1]? = some (.cells #[.slice none 0 0] 24 (0, 0)) by simpa using blk_new (wa.alloc (.cells #[.slice none 0 0] 24)) (.cells #[.slice none 0 0] 24))
                    have n1_ := Aside0.mk ((hb.block w.heap.size (blk_lt BK0.out)).trans BK0.out)
                    have n2_ := Aside0.mk ((hb.block (w.heap.size + 1) (blk_lt BK1.out)).trans BK1.out)
                    have n3_ := Aside0.mk (below_step HB.out hb)
                    have n4_ := Aside0.mk (below_step HB6.out hb)
                    have n5_ := Aside0.mk (Kd.R_below HRa.out hb)
                    have n6_ := Aside0.mk ((hb.block _ (blk_lt HG4.out)).trans HG4.out)
                    clear BK0 BK1 HB HB6 HRa HG4 hb
                    have HG5 := n0_
                    have BK0 := n1_
                    have BK1 := n2_
                    have HB := n3_
                    have HB6 := n4_
                    have HRa := n5_
                    have HG4 := n6_
                    clear n0_ n1_ n2_ n3_ n4_ n5_ n6_
                    refine hK.out _ _ ⟨(blk_cell BK0.out 0).trans rfl, (blk_cell BK0.out 1).trans rfl, (blk_cell BK1.out 0).trans rfl, (blk_cell BK1.out 1).trans rfl⟩ (fun hHeld => ?_)
                    clear hK K
                    refine norm_ (a' := ?_) ?_ ?_
                    rotate_left
                    · show Act.put _ (some 7) _ = _
                      simp only [Act.put, List.setIfInBounds_toArray, List.set_cons_zero, List.set_cons_succ, i64_w, i32_w]
                      rfl
                    refine one_ (i := 3) (N := some 34) #[true, true, true, true, true, true, false, false] rfl rfl (by kernel_rfl) (by decide) (fun K hK => ?_)
                    refine goes_ Try.func100 (by kernel_rfl) rfl #[.agg #[.slice A1 l1.length c1, .int .i64 a1]] (by rfl) rfl rfl (by simp only [List.map_toArray, List.map_cons, List.map_nil]; rfl) ?_
                    with_reducible refine (impl_Vote_table.calls k _ _ l1 a1 y _ ?side1 ?side2 HY.out).mono ?_
                    (case side1 => exact Kd.C_below HR1.out HB.out)
                    (case side2 => exact HC1.out)
                    rintro e wb ⟨vb, rfl, hr, hb⟩
                    refine ⟨_, rfl, ?_⟩
                    have hs3 := below_size hb
                    have n0_ := Aside0.mk (Kd.R_lower (Kd.R_mono (ok' := fun z => ((wa.alloc (.cells #[.slice none 0 0] 24)).alloc (.cells #[.slice none 0 0] 24)).heap.size ≤ z ∧ z < wb.heap.size) (Kd.R_bound hr) (fun z hz => ⟨hz.2.1, hz.2.2.1⟩)) (below_size HB6.out))
                    have n1_ := Aside0.mk ((hb.block w.heap.size (blk_lt BK0.out)).trans BK0.out)
                    have n2_ := Aside0.mk ((hb.block (w.heap.size + 1) (blk_lt BK1.out)).trans BK1.out)
                    have n3_ := Aside0.mk (below_step HB.out hb)
                    have n4_ := Aside0.mk (below_step HB6.out hb)
                    have n5_ := Aside0.mk (Kd.R_below HRa.out hb)
                    have n6_ := Aside0.mk ((hb.block _ (blk_lt HG4.out)).trans HG4.out)
                    have n7_ := Aside0.mk ((hb.block _ (blk_lt HG5.out)).trans HG5.out)
                    clear BK0 BK1 HB HB6 HRa HG4 HG5 hb hr
                    have HRb := n0_
                    have BK0 := n1_
                    have BK1 := n2_
                    have HB := n3_
                    have HB6 := n4_
                    have HRa := n5_
                    have HG4 := n6_
                    have HG5 := n7_
                    clear n0_ n1_ n2_ n3_ n4_ n5_ n6_ n7_
                    refine hK.out _ _ ⟨(blk_cell BK0.out 0).trans rfl, (blk_cell BK0.out 1).trans rfl, (blk_cell BK1.out 0).trans rfl, (blk_cell BK1.out 1).trans rfl⟩ (fun hHeld => ?_)
                    clear hK K
                    refine norm_ (a' := ?_) ?_ ?_
                    rotate_left
                    · show Act.put _ (some 34) _ = _
                      simp only [Act.put, List.setIfInBounds_toArray, List.set_cons_zero, List.set_cons_succ, i64_w, i32_w]
                      rfl
                    exact norm_ (by simp only [putAll, Act.put, List.setIfInBounds_toArray, List.set_cons_zero, List.set_cons_succ]) (hCont (va, vb, wa.heap.size, wa.heap.size + 1) _ ⟨Kd.R_mono HRa.out (fun z hz => by have h1_ := hz.1; have h2_ := hz.2; (try dsimp only); omega), Kd.R_mono HRb.out (fun z hz => by have h1_ := hz.1; have h2_ := hz.2; (try dsimp only); omega), HG4.out, HG5.out, by (try dsimp only); omega, by (try dsimp only); omega, by (try dsimp only); omega, HB6.out⟩)
                · skip
                  refine value_ (w1 := ?_) (v := ?_) (by rfl) rfl ?_ ?_
                  rotate_left 2
                  · go_simp
                    constructor
                    · rfl
                    · rfl
                  have hb := below_alloc (Below.refl wa.heap.size wa) (.cells #[.slice none 0 0] 24)
                  have hs5 : (wa.alloc (.cells #[.slice none 0 0] 24)).heap.size = wa.heap.size + 1 := by simp
                  have n0_ := Aside0.mk (show (wa.alloc (.cells #[.slice none 0 0] 24)).heap[wa.heap.size]? = some (.cells #[.slice none 0 0] 24 (0, 0)) by simpa using blk_new wa (.cells #[.slice none 0 0] 24))
                  have n1_ := Aside0.mk ((hb.block w.heap.size (blk_lt BK0.out)).trans BK0.out)
                  have n2_ := Aside0.mk ((hb.block (w.heap.size + 1) (blk_lt BK1.out)).trans BK1.out)
                  have n3_ := Aside0.mk (below_step HB.out hb)
                  have n4_ := Aside0.mk (below_step HB6.out hb)
                  have n5_ := Aside0.mk (Kd.R_below HRa.out hb)
                  clear BK0 BK1 HB HB6 HRa hb
                  have HG5 := n0_
                  have BK0 := n1_
                  have BK1 := n2_
                  have HB := n3_
                  have HB6 := n4_
                  have HRa := n5_
                  clear n0_ n1_ n2_ n3_ n4_ n5_
                  refine hK.out _ _ ⟨(blk_cell BK0.out 0).trans rfl, (blk_cell BK0.out 1).trans rfl, (blk_cell BK1.out 0).trans rfl, (blk_cell BK1.out 1).trans rfl⟩ (fun hHeld => ?_)
                  clear hK K
                  refine norm_ (a' := ?_) ?_ ?_
                  rotate_left
                  · show Act.put _ (some 7) _ = _
                    simp only [Act.put, List.setIfInBounds_toArray, List.set_cons_zero, List.set_cons_succ, i64_w, i32_w]
                    rfl
                  refine two_ (i := 3) (j := 4) (Ni := some 34) (Nj := some 6) #[true, true, true, true, false, true, false, false] #[true, true, true, false, true, true, false, false] rfl rfl rfl rfl (by kernel_rfl) (by decide) (by decide) (fun K hK => ?_) (fun K hK => ?_)
                  · skip
                    refine goes_ Try.func100 (by kernel_rfl) rfl #[.agg #[.slice A1 l1.length c1, .int .i64 a1]] (by rfl) rfl rfl (by simp only [List.map_toArray, List.map_cons, List.map_nil]; rfl) ?_
                    with_reducible refine (impl_Vote_table.calls k _ _ l1 a1 y _ ?side1 ?side2 HY.out).mono ?_
                    (case side1 => exact Kd.C_below HR1.out HB.out)
                    (case side2 => exact HC1.out)
                    rintro e wb ⟨vb, rfl, hr, hb⟩
                    refine ⟨_, rfl, ?_⟩
                    have hs3 := below_size hb
                    have n0_ := Aside0.mk (Kd.R_lower (Kd.R_mono (ok' := fun z => (wa.alloc (.cells #[.slice none 0 0] 24)).heap.size ≤ z ∧ z < wb.heap.size) (Kd.R_bound hr) (fun z hz => ⟨hz.2.1, hz.2.2.1⟩)) (below_size HB6.out))
                    have n1_ := Aside0.mk ((hb.block w.heap.size (blk_lt BK0.out)).trans BK0.out)
                    have n2_ := Aside0.mk ((hb.block (w.heap.size + 1) (blk_lt BK1.out)).trans BK1.out)
                    have n3_ := Aside0.mk (below_step HB.out hb)
                    have n4_ := Aside0.mk (below_step HB6.out hb)
                    have n5_ := Aside0.mk (Kd.R_below HRa.out hb)
                    have n6_ := Aside0.mk ((hb.block _ (blk_lt HG5.out)).trans HG5.out)
                    clear BK0 BK1 HB HB6 HRa HG5 hb hr
                    have HRb := n0_
                    have BK0 := n1_
                    have BK1 := n2_
                    have HB := n3_
                    have HB6 := n4_
                    have HRa := n5_
                    have HG5 := n6_
                    clear n0_ n1_ n2_ n3_ n4_ n5_ n6_
                    refine hK.out _ _ ⟨(blk_cell BK0.out 0).trans rfl, (blk_cell BK0.out 1).trans rfl, (blk_cell BK1.out 0).trans rfl, (blk_cell BK1.out 1).trans rfl⟩ (fun hHeld => ?_)
                    clear hK K
                    refine norm_ (a' := ?_) ?_ ?_
                    rotate_left
                    · show Act.put _ (some 34) _ = _
                      simp only [Act.put, List.setIfInBounds_toArray, List.set_cons_zero, List.set_cons_succ, i64_w, i32_w]
                      rfl
                    refine one_ (i := 4) (N := some 6) #[true, true, true, true, true, true, false, false] rfl rfl (by kernel_rfl) (by decide) (fun K hK => ?_)
                    refine value_ (w1 := ?_) (v := ?_) (by rfl) rfl ?_ ?_
                    rotate_left 2
                    · go_simp
                      constructor
                      · rfl
                      · rfl
                    have hb := below_alloc (Below.refl wb.heap.size wb) (.cells #[.slice none 0 0] 24)
                    have hs4 : (wb.alloc (.cells #[.slice none 0 0] 24)).heap.size = wb.heap.size + 1 := by simp
                    have n0_ := Aside0.mk (show (wb.alloc (.cells #[.slice none 0 0] 24)).heap[wb.heap.size]? = some (.cells #[.slice none 0 0] 24 (0, 0)) by simpa using blk_new wb (.cells #[.slice none 0 0] 24))
                    have n1_ := Aside0.mk ((hb.block w.heap.size (blk_lt BK0.out)).trans BK0.out)
                    have n2_ := Aside0.mk ((hb.block (w.heap.size + 1) (blk_lt BK1.out)).trans BK1.out)
                    have n3_ := Aside0.mk (below_step HB.out hb)
                    have n4_ := Aside0.mk (below_step HB6.out hb)
                    have n5_ := Aside0.mk (Kd.R_below HRa.out hb)
                    have n6_ := Aside0.mk ((hb.block _ (blk_lt HG5.out)).trans HG5.out)
                    have n7_ := Aside0.mk (Kd.R_below HRb.out hb)
                    clear BK0 BK1 HB HB6 HRa HG5 HRb hb
                    have HG4 := n0_
                    have BK0 := n1_
                    have BK1 := n2_
                    have HB := n3_
                    have HB6 := n4_
                    have HRa := n5_
                    have HG5 := n6_
                    have HRb := n7_
                    clear n0_ n1_ n2_ n3_ n4_ n5_ n6_ n7_
                    refine hK.out _ _ ⟨(blk_cell BK0.out 0).trans rfl, (blk_cell BK0.out 1).trans rfl, (blk_cell BK1.out 0).trans rfl, (blk_cell BK1.out 1).trans rfl⟩ (fun hHeld => ?_)
                    clear hK K
                    refine norm_ (a' := ?_) ?_ ?_
                    rotate_left
                    · show Act.put _ (some 6) _ = _
                      simp only [Act.put, List.setIfInBounds_toArray, List.set_cons_zero, List.set_cons_succ, i64_w, i32_w]
                      rfl
                    exact norm_ (by simp only [putAll, Act.put, List.setIfInBounds_toArray, List.set_cons_zero, List.set_cons_succ]) (hCont (va, vb, wb.heap.size, wa.heap.size) _ ⟨Kd.R_mono HRa.out (fun z hz => by have h1_ := hz.1; have h2_ := hz.2; (try dsimp only); omega), Kd.R_mono HRb.out (fun z hz => by have h1_ := hz.1; have h2_ := hz.2; (try dsimp only); omega), HG4.out, HG5.out, by (try dsimp only); omega, by (try dsimp only); omega, by (try dsimp only); omega, HB6.out⟩)
                  · skip
                    refine value_ (w1 := ?_) (v := ?_) (by rfl) rfl ?_ ?_
                    rotate_left 2
                    · go_simp
                      constructor
                      · rfl
                      · rfl
                    have hb := below_alloc (Below.refl (wa.alloc (.cells #[.slice none 0 0] 24)).heap.size (wa.alloc (.cells #[.slice none 0 0] 24))) (.cells #[.slice none 0 0] 24)
                    have hs4 : ((wa.alloc (.cells #[.slice none 0 0] 24)).alloc (.cells #[.slice none 0 0] 24)).heap.size = (wa.alloc (.cells #[.slice none 0 0] 24)).heap.size + 1 := by simp
                    have n0_ := Aside0.mk (show ((wa.alloc (.cells #[.slice none 0 0] 24)).alloc (.cells #[.slice none 0 0] 24)).heap[wa.heap.size + 1]? = some (.cells #[.slice none 0 0] 24 (0, 0)) by simpa using blk_new (wa.alloc (.cells #[.slice none 0 0] 24)) (.cells #[.slice none 0 0] 24))
                    have n1_ := Aside0.mk ((hb.block w.heap.size (blk_lt BK0.out)).trans BK0.out)
                    have n2_ := Aside0.mk ((hb.block (w.heap.size + 1) (blk_lt BK1.out)).trans BK1.out)
                    have n3_ := Aside0.mk (below_step HB.out hb)
                    have n4_ := Aside0.mk (below_step HB6.out hb)
                    have n5_ := Aside0.mk (Kd.R_below HRa.out hb)
                    have n6_ := Aside0.mk ((hb.block _ (blk_lt HG5.out)).trans HG5.out)
                    clear BK0 BK1 HB HB6 HRa HG5 hb
                    have HG4 := n0_
                    have BK0 := n1_
                    have BK1 := n2_
                    have HB := n3_
                    have HB6 := n4_
                    have HRa := n5_
                    have HG5 := n6_
                    clear n0_ n1_ n2_ n3_ n4_ n5_ n6_
                    refine hK.out _ _ ⟨(blk_cell BK0.out 0).trans rfl, (blk_cell BK0.out 1).trans rfl, (blk_cell BK1.out 0).trans rfl, (blk_cell BK1.out 1).trans rfl⟩ (fun hHeld => ?_)
                    clear hK K
                    refine norm_ (a' := ?_) ?_ ?_
                    rotate_left
                    · show Act.put _ (some 6) _ = _
                      simp only [Act.put, List.setIfInBounds_toArray, List.set_cons_zero, List.set_cons_succ, i64_w, i32_w]
                      rfl
                    refine one_ (i := 3) (N := some 34) #[true, true, true, true, true, true, false, false] rfl rfl (by kernel_rfl) (by decide) (fun K hK => ?_)
                    refine goes_ Try.func100 (by kernel_rfl) rfl #[.agg #[.slice A1 l1.length c1, .int .i64 a1]] (by rfl) rfl rfl (by simp only [List.map_toArray, List.map_cons, List.map_nil]; rfl) ?_
                    with_reducible refine (impl_Vote_table.calls k _ _ l1 a1 y _ ?side1 ?side2 HY.out).mono ?_
                    (case side1 => exact Kd.C_below HR1.out HB.out)
                    (case side2 => exact HC1.out)
                    rintro e wb ⟨vb, rfl, hr, hb⟩
                    refine ⟨_, rfl, ?_⟩
                    have hs3 := below_size hb
                    have n0_ := Aside0.mk (Kd.R_lower (Kd.R_mono (ok' := fun z => ((wa.alloc (.cells #[.slice none 0 0] 24)).alloc (.cells #[.slice none 0 0] 24)).heap.size ≤ z ∧ z < wb.heap.size) (Kd.R_bound hr) (fun z hz => ⟨hz.2.1, hz.2.2.1⟩)) (below_size HB6.out))
                    have n1_ := Aside0.mk ((hb.block w.heap.size (blk_lt BK0.out)).trans BK0.out)
                    have n2_ := Aside0.mk ((hb.block (w.heap.size + 1) (blk_lt BK1.out)).trans BK1.out)
                    have n3_ := Aside0.mk (below_step HB.out hb)
                    have n4_ := Aside0.mk (below_step HB6.out hb)
                    have n5_ := Aside0.mk (Kd.R_below HRa.out hb)
                    have n6_ := Aside0.mk ((hb.block _ (blk_lt HG5.out)).trans HG5.out)
                    have n7_ := Aside0.mk ((hb.block _ (blk_lt HG4.out)).trans HG4.out)
                    clear BK0 BK1 HB HB6 HRa HG5 HG4 hb hr
                    have HRb := n0_
                    have BK0 := n1_
                    have BK1 := n2_
                    have HB := n3_
                    have HB6 := n4_
                    have HRa := n5_
                    have HG5 := n6_
                    have HG4 := n7_
                    clear n0_ n1_ n2_ n3_ n4_ n5_ n6_ n7_
                    refine hK.out _ _ ⟨(blk_cell BK0.out 0).trans rfl, (blk_cell BK0.out 1).trans rfl, (blk_cell BK1.out 0).trans rfl, (blk_cell BK1.out 1).trans rfl⟩ (fun hHeld => ?_)
                    clear hK K
                    refine norm_ (a' := ?_) ?_ ?_
                    rotate_left
                    · show Act.put _ (some 34) _ = _
                      simp only [Act.put, List.setIfInBounds_toArray, List.set_cons_zero, List.set_cons_succ, i64_w, i32_w]
                      rfl
                    exact norm_ (by simp only [putAll, Act.put, List.setIfInBounds_toArray, List.set_cons_zero, List.set_cons_succ]) (hCont (va, vb, wa.heap.size + 1, wa.heap.size) _ ⟨Kd.R_mono HRa.out (fun z hz => by have h1_ := hz.1; have h2_ := hz.2; (try dsimp only); omega), Kd.R_mono HRb.out (fun z hz => by have h1_ := hz.1; have h2_ := hz.2; (try dsimp only); omega), HG4.out, HG5.out, by (try dsimp only); omega, by (try dsimp only); omega, by (try dsimp only); omega, HB6.out⟩)
              · skip
                refine value_ (w1 := ?_) (v := ?_) (by rfl) rfl ?_ ?_
                rotate_left 2
                · go_simp
                  constructor
                  · rfl
                  · rfl
                have hb := below_alloc (Below.refl w6.heap.size w6) (.cells #[.slice none 0 0] 24)
                have hs4 : (w6.alloc (.cells #[.slice none 0 0] 24)).heap.size = w6.heap.size + 1 := by simp
                have n0_ := Aside0.mk (show (w6.alloc (.cells #[.slice none 0 0] 24)).heap[w6.heap.size]? = some (.cells #[.slice none 0 0] 24 (0, 0)) by simpa using blk_new w6 (.cells #[.slice none 0 0] 24))
                have n1_ := Aside0.mk ((hb.block w.heap.size (blk_lt BK0.out)).trans BK0.out)
                have n2_ := Aside0.mk ((hb.block (w.heap.size + 1) (blk_lt BK1.out)).trans BK1.out)
                have n3_ := Aside0.mk (below_step HB.out hb)
                have n4_ := Aside0.mk (below_step HB6.out hb)
                clear BK0 BK1 HB HB6 hb
                have HG4 := n0_
                have BK0 := n1_
                have BK1 := n2_
                have HB := n3_
                have HB6 := n4_
                clear n0_ n1_ n2_ n3_ n4_
                refine hK.out _ _ ⟨(blk_cell BK0.out 0).trans rfl, (blk_cell BK0.out 1).trans rfl, (blk_cell BK1.out 0).trans rfl, (blk_cell BK1.out 1).trans rfl⟩ (fun hHeld => ?_)
                clear hK K
                refine norm_ (a' := ?_) ?_ ?_
                rotate_left
                · show Act.put _ (some 6) _ = _
                  simp only [Act.put, List.setIfInBounds_toArray, List.set_cons_zero, List.set_cons_succ, i64_w, i32_w]
                  rfl
                refine two_ (i := 1) (j := 5) (Ni := some 32) (Nj := some 7) #[true, true, true, false, true, false, false, false] #[true, false, true, false, true, true, false, false] rfl rfl rfl rfl (by kernel_rfl) (by decide) (by decide) (fun K hK => ?_) (fun K hK => ?_)
                · skip
                  refine goes_ Try.func100 (by kernel_rfl) rfl #[.agg #[.slice A0 l0.length c0, .int .i64 a0]] (by rfl) rfl rfl (by simp only [List.map_toArray, List.map_cons, List.map_nil]; rfl) ?_
                  with_reducible refine (impl_Vote_table.calls k _ _ l0 a0 x _ ?side1 ?side2 HX.out).mono ?_
                  (case side1 => exact Kd.C_below HR0.out HB.out)
                  (case side2 => exact HC0.out)
                  rintro e wa ⟨va, rfl, hr, hb⟩
                  refine ⟨_, rfl, ?_⟩
                  have hs1 := below_size hb
                  have n0_ := Aside0.mk (Kd.R_lower (Kd.R_mono (ok' := fun z => (w6.alloc (.cells #[.slice none 0 0] 24)).heap.size ≤ z ∧ z < wa.heap.size) (Kd.R_bound hr) (fun z hz => ⟨hz.2.1, hz.2.2.1⟩)) (below_size HB6.out))
                  have n1_ := Aside0.mk ((hb.block w.heap.size (blk_lt BK0.out)).trans BK0.out)
                  have n2_ := Aside0.mk ((hb.block (w.heap.size + 1) (blk_lt BK1.out)).trans BK1.out)
                  have n3_ := Aside0.mk (below_step HB.out hb)
                  have n4_ := Aside0.mk (below_step HB6.out hb)
                  have n5_ := Aside0.mk ((hb.block _ (blk_lt HG4.out)).trans HG4.out)
                  clear BK0 BK1 HB HB6 HG4 hb hr
                  have HRa := n0_
                  have BK0 := n1_
                  have BK1 := n2_
                  have HB := n3_
                  have HB6 := n4_
                  have HG4 := n5_
                  clear n0_ n1_ n2_ n3_ n4_ n5_
                  refine hK.out _ _ ⟨(blk_cell BK0.out 0).trans rfl, (blk_cell BK0.out 1).trans rfl, (blk_cell BK1.out 0).trans rfl, (blk_cell BK1.out 1).trans rfl⟩ (fun hHeld => ?_)
                  clear hK K
                  refine norm_ (a' := ?_) ?_ ?_
                  rotate_left
                  · show Act.put _ (some 32) _ = _
                    simp only [Act.put, List.setIfInBounds_toArray, List.set_cons_zero, List.set_cons_succ, i64_w, i32_w]
                    rfl
                  refine two_ (i := 3) (j := 5) (Ni := some 34) (Nj := some 7) #[true, true, true, true, true, false, false, false] #[true, true, true, false, true, true, false, false] rfl rfl rfl rfl (by kernel_rfl) (by decide) (by decide) (fun K hK => ?_) (fun K hK => ?_)
                  · skip
                    refine goes_ Try.func100 (by kernel_rfl) rfl #[.agg #[.slice A1 l1.length c1, .int .i64 a1]] (by rfl) rfl rfl (by simp only [List.map_toArray, List.map_cons, List.map_nil]; rfl) ?_
                    with_reducible refine (impl_Vote_table.calls k _ _ l1 a1 y _ ?side1 ?side2 HY.out).mono ?_
                    (case side1 => exact Kd.C_below HR1.out HB.out)
                    (case side2 => exact HC1.out)
                    rintro e wb ⟨vb, rfl, hr, hb⟩
                    refine ⟨_, rfl, ?_⟩
                    have hs3 := below_size hb
                    have n0_ := Aside0.mk (Kd.R_lower (Kd.R_mono (ok' := fun z => wa.heap.size ≤ z ∧ z < wb.heap.size) (Kd.R_bound hr) (fun z hz => ⟨hz.2.1, hz.2.2.1⟩)) (below_size HB6.out))
                    have n1_ := Aside0.mk ((hb.block w.heap.size (blk_lt BK0.out)).trans BK0.out)
                    have n2_ := Aside0.mk ((hb.block (w.heap.size + 1) (blk_lt BK1.out)).trans BK1.out)
                    have n3_ := Aside0.mk (below_step HB.out hb)
                    have n4_ := Aside0.mk (below_step HB6.out hb)
                    have n5_ := Aside0.mk ((hb.block _ (blk_lt HG4.out)).trans HG4.out)
                    have n6_ := Aside0.mk (Kd.R_below HRa.out hb)
                    clear BK0 BK1 HB HB6 HG4 HRa hb hr
                    have HRb := n0_
                    have BK0 := n1_
                    have BK1 := n2_
                    have HB := n3_
                    have HB6 := n4_
                    have HG4 := n5_
                    have HRa := n6_
                    clear n0_ n1_ n2_ n3_ n4_ n5_ n6_
                    refine hK.out _ _ ⟨(blk_cell BK0.out 0).trans rfl, (blk_cell BK0.out 1).trans rfl, (blk_cell BK1.out 0).trans rfl, (blk_cell BK1.out 1).trans rfl⟩ (fun hHeld => ?_)
                    clear hK K
                    refine norm_ (a' := ?_) ?_ ?_
                    rotate_left
                    · show Act.put _ (some 34) _ = _
                      simp only [Act.put, List.setIfInBounds_toArray, List.set_cons_zero, List.set_cons_succ, i64_w, i32_w]
                      rfl
                    refine one_ (i := 5) (N := some 7) #[true, true, true, true, true, true, false, false] rfl rfl (by kernel_rfl) (by decide) (fun K hK => ?_)
                    refine value_ (w1 := ?_) (v := ?_) (by rfl) rfl ?_ ?_
                    rotate_left 2
                    · go_simp
                      constructor
                      · rfl
                      · rfl
                    have hb := below_alloc (Below.refl wb.heap.size wb) (.cells #[.slice none 0 0] 24)
                    have hs5 : (wb.alloc (.cells #[.slice none 0 0] 24)).heap.size = wb.heap.size + 1 := by simp
                    have n0_ := Aside0.mk (show (wb.alloc (.cells #[.slice none 0 0] 24)).heap[wb.heap.size]? = some (.cells #[.slice none 0 0] 24 (0, 0)) by simpa using blk_new wb (.cells #[.slice none 0 0] 24))
                    have n1_ := Aside0.mk ((hb.block w.heap.size (blk_lt BK0.out)).trans BK0.out)
                    have n2_ := Aside0.mk ((hb.block (w.heap.size + 1) (blk_lt BK1.out)).trans BK1.out)
                    have n3_ := Aside0.mk (below_step HB.out hb)
                    have n4_ := Aside0.mk (below_step HB6.out hb)
                    have n5_ := Aside0.mk ((hb.block _ (blk_lt HG4.out)).trans HG4.out)
                    have n6_ := Aside0.mk (Kd.R_below HRa.out hb)
                    have n7_ := Aside0.mk (Kd.R_below HRb.out hb)
                    clear BK0 BK1 HB HB6 HG4 HRa HRb hb
                    have HG5 := n0_
                    have BK0 := n1_
                    have BK1 := n2_
                    have HB := n3_
                    have HB6 := n4_
                    have HG4 := n5_
                    have HRa := n6_
                    have HRb := n7_
                    clear n0_ n1_ n2_ n3_ n4_ n5_ n6_ n7_
                    refine hK.out _ _ ⟨(blk_cell BK0.out 0).trans rfl, (blk_cell BK0.out 1).trans rfl, (blk_cell BK1.out 0).trans rfl, (blk_cell BK1.out 1).trans rfl⟩ (fun hHeld => ?_)
                    clear hK K
                    refine norm_ (a' := ?_) ?_ ?_
                    rotate_left
                    · show Act.put _ (some 7) _ = _
                      simp only [Act.put, List.setIfInBounds_toArray, List.set_cons_zero, List.set_cons_succ, i64_w, i32_w]
                      rfl
                    exact norm_ (by simp only [putAll, Act.put, List.setIfInBounds_toArray, List.set_cons_zero, List.set_cons_succ]) (hCont (va, vb, w6.heap.size, wb.heap.size) _ ⟨Kd.R_mono HRa.out (fun z hz => by have h1_ := hz.1; have h2_ := hz.2; (try dsimp only); omega), Kd.R_mono HRb.out (fun z hz => by have h1_ := hz.1; have h2_ := hz.2; (try dsimp only); omega), HG4.out, HG5.out, by (try dsimp only); omega, by (try dsimp only); omega, by (try dsimp only); omega, HB6.out⟩)
                  · skip
                    refine value_ (w1 := ?_) (v := ?_) (by rfl) rfl ?_ ?_
                    rotate_left 2
                    · go_simp
                      constructor
                      · rfl
                      · rfl
                    have hb := below_alloc (Below.refl wa.heap.size wa) (.cells #[.slice none 0 0] 24)
                    have hs5 : (wa.alloc (.cells #[.slice none 0 0] 24)).heap.size = wa.heap.size + 1 := by simp
                    have n0_ := Aside0.mk (show (wa.alloc (.cells #[.slice none 0 0] 24)).heap[wa.heap.size]? = some (.cells #[.slice none 0 0] 24 (0, 0)) by simpa using blk_new wa (.cells #[.slice none 0 0] 24))
                    have n1_ := Aside0.mk ((hb.block w.heap.size (blk_lt BK0.out)).trans BK0.out)
                    have n2_ := Aside0.mk ((hb.block (w.heap.size + 1) (blk_lt BK1.out)).trans BK1.out)
                    have n3_ := Aside0.mk (below_step HB.out hb)
                    have n4_ := Aside0.mk (below_step HB6.out hb)
                    have n5_ := Aside0.mk ((hb.block _ (blk_lt HG4.out)).trans HG4.out)
                    have n6_ := Aside0.mk (Kd.R_below HRa.out hb)
                    clear BK0 BK1 HB HB6 HG4 HRa hb
                    have HG5 := n0_
                    have BK0 := n1_
                    have BK1 := n2_
                    have HB := n3_
                    have HB6 := n4_
                    have HG4 := n5_
                    have HRa := n6_
                    clear n0_ n1_ n2_ n3_ n4_ n5_ n6_
                    refine hK.out _ _ ⟨(blk_cell BK0.out 0).trans rfl, (blk_cell BK0.out 1).trans rfl, (blk_cell BK1.out 0).trans rfl, (blk_cell BK1.out 1).trans rfl⟩ (fun hHeld => ?_)
                    clear hK K
                    refine norm_ (a' := ?_) ?_ ?_
                    rotate_left
                    · show Act.put _ (some 7) _ = _
                      simp only [Act.put, List.setIfInBounds_toArray, List.set_cons_zero, List.set_cons_succ, i64_w, i32_w]
                      rfl
                    refine one_ (i := 3) (N := some 34) #[true, true, true, true, true, true, false, false] rfl rfl (by kernel_rfl) (by decide) (fun K hK => ?_)
                    refine goes_ Try.func100 (by kernel_rfl) rfl #[.agg #[.slice A1 l1.length c1, .int .i64 a1]] (by rfl) rfl rfl (by simp only [List.map_toArray, List.map_cons, List.map_nil]; rfl) ?_
                    with_reducible refine (impl_Vote_table.calls k _ _ l1 a1 y _ ?side1 ?side2 HY.out).mono ?_
                    (case side1 => exact Kd.C_below HR1.out HB.out)
                    (case side2 => exact HC1.out)
                    rintro e wb ⟨vb, rfl, hr, hb⟩
                    refine ⟨_, rfl, ?_⟩
                    have hs3 := below_size hb
                    have n0_ := Aside0.mk (Kd.R_lower (Kd.R_mono (ok' := fun z => (wa.alloc (.cells #[.slice none 0 0] 24)).heap.size ≤ z ∧ z < wb.heap.size) (Kd.R_bound hr) (fun z hz => ⟨hz.2.1, hz.2.2.1⟩)) (below_size HB6.out))
                    have n1_ := Aside0.mk ((hb.block w.heap.size (blk_lt BK0.out)).trans BK0.out)
                    have n2_ := Aside0.mk ((hb.block (w.heap.size + 1) (blk_lt BK1.out)).trans BK1.out)
                    have n3_ := Aside0.mk (below_step HB.out hb)
                    have n4_ := Aside0.mk (below_step HB6.out hb)
                    have n5_ := Aside0.mk ((hb.block _ (blk_lt HG4.out)).trans HG4.out)
                    have n6_ := Aside0.mk (Kd.R_below HRa.out hb)
                    have n7_ := Aside0.mk ((hb.block _ (blk_lt HG5.out)).trans HG5.out)
                    clear BK0 BK1 HB HB6 HG4 HRa HG5 hb hr
                    have HRb := n0_
                    have BK0 := n1_
                    have BK1 := n2_
                    have HB := n3_
                    have HB6 := n4_
                    have HG4 := n5_
                    have HRa := n6_
                    have HG5 := n7_
                    clear n0_ n1_ n2_ n3_ n4_ n5_ n6_ n7_
                    refine hK.out _ _ ⟨(blk_cell BK0.out 0).trans rfl, (blk_cell BK0.out 1).trans rfl, (blk_cell BK1.out 0).trans rfl, (blk_cell BK1.out 1).trans rfl⟩ (fun hHeld => ?_)
                    clear hK K
                    refine norm_ (a' := ?_) ?_ ?_
                    rotate_left
                    · show Act.put _ (some 34) _ = _
                      simp only [Act.put, List.setIfInBounds_toArray, List.set_cons_zero, List.set_cons_succ, i64_w, i32_w]
                      rfl
                    exact norm_ (by simp only [putAll, Act.put, List.setIfInBounds_toArray, List.set_cons_zero, List.set_cons_succ]) (hCont (va, vb, w6.heap.size, wa.heap.size) _ ⟨Kd.R_mono HRa.out (fun z hz => by have h1_ := hz.1; have h2_ := hz.2; (try dsimp only); omega), Kd.R_mono HRb.out (fun z hz => by have h1_ := hz.1; have h2_ := hz.2; (try dsimp only); omega), HG4.out, HG5.out, by (try dsimp only); omega, by (try dsimp only); omega, by (try dsimp only); omega, HB6.out⟩)
                · skip
                  refine value_ (w1 := ?_) (v := ?_) (by rfl) rfl ?_ ?_
                  rotate_left 2
                  · go_simp
                    constructor
                    · rfl
                    · rfl
                  have hb := below_alloc (Below.refl (w6.alloc (.cells #[.slice none 0 0] 24)).heap.size (w6.alloc (.cells #[.slice none 0 0] 24))) (.cells #[.slice none 0 0] 24)
                  have hs5 : ((w6.alloc (.cells #[.slice none 0 0] 24)).alloc (.cells #[.slice none 0 0] 24)).heap.size = (w6.alloc (.cells #[.slice none 0 0] 24)).heap.size + 1 := by simp
                  have n0_ := Aside0.mk (show ((w6.alloc (.cells #[.slice none 0 0] 24)).alloc (.cells #[.slice none 0 0] 24)).heap[w6.heap.size + 1]? = some (.cells #[.slice none 0 0] 24 (0, 0)) by simpa using blk_new (w6.alloc (.cells #[.slice none 0 0] 24)) (.cells #[.slice none 0 0] 24))
                  have n1_ := Aside0.mk ((hb.block w.heap.size (blk_lt BK0.out)).trans BK0.out)
                  have n2_ := Aside0.mk ((hb.block (w.heap.size + 1) (blk_lt BK1.out)).trans BK1.out)
                  have n3_ := Aside0.mk (below_step HB.out hb)
                  have n4_ := Aside0.mk (below_step HB6.out hb)
                  have n5_ := Aside0.mk ((hb.block _ (blk_lt HG4.out)).trans HG4.out)
                  clear BK0 BK1 HB HB6 HG4 hb
                  have HG5 := n0_
                  have BK0 := n1_
                  have BK1 := n2_
                  have HB := n3_
                  have HB6 := n4_
                  have HG4 := n5_
                  clear n0_ n1_ n2_ n3_ n4_ n5_
                  refine hK.out _ _ ⟨(blk_cell BK0.out 0).trans rfl, (blk_cell BK0.out 1).trans rfl, (blk_cell BK1.out 0).trans rfl, (blk_cell BK1.out 1).trans rfl⟩ (fun hHeld => ?_)
                  clear hK K
                  refine norm_ (a' := ?_) ?_ ?_
                  rotate_left
                  · show Act.put _ (some 7) _ = _
                    simp only [Act.put, List.setIfInBounds_toArray, List.set_cons_zero, List.set_cons_succ, i64_w, i32_w]
                    rfl
                  refine one_ (i := 1) (N := some 32) #[true, true, true, false, true, true, false, false] rfl rfl (by kernel_rfl) (by decide) (fun K hK => ?_)
                  refine goes_ Try.func100 (by kernel_rfl) rfl #[.agg #[.slice A0 l0.length c0, .int .i64 a0]] (by rfl) rfl rfl (by simp only [List.map_toArray, List.map_cons, List.map_nil]; rfl) ?_
                  with_reducible refine (impl_Vote_table.calls k _ _ l0 a0 x _ ?side1 ?side2 HX.out).mono ?_
                  (case side1 => exact Kd.C_below HR0.out HB.out)
                  (case side2 => exact HC0.out)
                  rintro e wa ⟨va, rfl, hr, hb⟩
                  refine ⟨_, rfl, ?_⟩
                  have hs1 := below_size hb
                  have n0_ := Aside0.mk (Kd.R_lower (Kd.R_mono (ok' := fun z => ((w6.alloc (.cells #[.slice none 0 0] 24)).alloc (.cells #[.slice none 0 0] 24)).heap.size ≤ z ∧ z < wa.heap.size) (Kd.R_bound hr) (fun z hz => ⟨hz.2.1, hz.2.2.1⟩)) (below_size HB6.out))
                  have n1_ := Aside0.mk ((hb.block w.heap.size (blk_lt BK0.out)).trans BK0.out)
                  have n2_ := Aside0.mk ((hb.block (w.heap.size + 1) (blk_lt BK1.out)).trans BK1.out)
                  have n3_ := Aside0.mk (below_step HB.out hb)
                  have n4_ := Aside0.mk (below_step HB6.out hb)
                  have n5_ := Aside0.mk ((hb.block _ (blk_lt HG4.out)).trans HG4.out)
                  have n6_ := Aside0.mk ((hb.block _ (blk_lt HG5.out)).trans HG5.out)
                  clear BK0 BK1 HB HB6 HG4 HG5 hb hr
                  have HRa := n0_
                  have BK0 := n1_
                  have BK1 := n2_
                  have HB := n3_
                  have HB6 := n4_
                  have HG4 := n5_
                  have HG5 := n6_
                  clear n0_ n1_ n2_ n3_ n4_ n5_ n6_
                  refine hK.out _ _ ⟨(blk_cell BK0.out 0).trans rfl, (blk_cell BK0.out 1).trans rfl, (blk_cell BK1.out 0).trans rfl, (blk_cell BK1.out 1).trans rfl⟩ (fun hHeld => ?_)
                  clear hK K
                  refine norm_ (a' := ?_) ?_ ?_
                  rotate_left
                  · show Act.put _ (some 32) _ = _
                    simp only [Act.put, List.setIfInBounds_toArray, List.set_cons_zero, List.set_cons_succ, i64_w, i32_w]
                    rfl
                  refine one_ (i := 3) (N := some 34) #[true, true, true, true, true, true, false, false] rfl rfl (by kernel_rfl) (by decide) (fun K hK => ?_)
                  refine goes_ Try.func100 (by kernel_rfl) rfl #[.agg #[.slice A1 l1.length c1, .int .i64 a1]] (by rfl) rfl rfl (by simp only [List.map_toArray, List.map_cons, List.map_nil]; rfl) ?_
                  with_reducible refine (impl_Vote_table.calls k _ _ l1 a1 y _ ?side1 ?side2 HY.out).mono ?_
                  (case side1 => exact Kd.C_below HR1.out HB.out)
                  (case side2 => exact HC1.out)
                  rintro e wb ⟨vb, rfl, hr, hb⟩
                  refine ⟨_, rfl, ?_⟩
                  have hs3 := below_size hb
                  have n0_ := Aside0.mk (Kd.R_lower (Kd.R_mono (ok' := fun z => wa.heap.size ≤ z ∧ z < wb.heap.size) (Kd.R_bound hr) (fun z hz => ⟨hz.2.1, hz.2.2.1⟩)) (below_size HB6.out))
                  have n1_ := Aside0.mk ((hb.block w.heap.size (blk_lt BK0.out)).trans BK0.out)
                  have n2_ := Aside0.mk ((hb.block (w.heap.size + 1) (blk_lt BK1.out)).trans BK1.out)
                  have n3_ := Aside0.mk (below_step HB.out hb)
                  have n4_ := Aside0.mk (below_step HB6.out hb)
                  have n5_ := Aside0.mk ((hb.block _ (blk_lt HG4.out)).trans HG4.out)
                  have n6_ := Aside0.mk ((hb.block _ (blk_lt HG5.out)).trans HG5.out)
                  have n7_ := Aside0.mk (Kd.R_below HRa.out hb)
                  clear BK0 BK1 HB HB6 HG4 HG5 HRa hb hr
                  have HRb := n0_
                  have BK0 := n1_
                  have BK1 := n2_
                  have HB := n3_
                  have HB6 := n4_
                  have HG4 := n5_
                  have HG5 := n6_
                  have HRa := n7_
                  clear n0_ n1_ n2_ n3_ n4_ n5_ n6_ n7_
                  refine hK.out _ _ ⟨(blk_cell BK0.out 0).trans rfl, (blk_cell BK0.out 1).trans rfl, (blk_cell BK1.out 0).trans rfl, (blk_cell BK1.out 1).trans rfl⟩ (fun hHeld => ?_)
                  clear hK K
                  refine norm_ (a' := ?_) ?_ ?_
                  rotate_left
                  · show Act.put _ (some 34) _ = _
                    simp only [Act.put, List.setIfInBounds_toArray, List.set_cons_zero, List.set_cons_succ, i64_w, i32_w]
                    rfl
                  exact norm_ (by simp only [putAll, Act.put, List.setIfInBounds_toArray, List.set_cons_zero, List.set_cons_succ]) (hCont (va, vb, w6.heap.size, w6.heap.size + 1) _ ⟨Kd.R_mono HRa.out (fun z hz => by have h1_ := hz.1; have h2_ := hz.2; (try dsimp only); omega), Kd.R_mono HRb.out (fun z hz => by have h1_ := hz.1; have h2_ := hz.2; (try dsimp only); omega), HG4.out, HG5.out, by (try dsimp only); omega, by (try dsimp only); omega, by (try dsimp only); omega, HB6.out⟩)
              · skip
                refine value_ (w1 := ?_) (v := ?_) (by rfl) rfl ?_ ?_
                rotate_left 2
                · go_simp
                  constructor
                  · rfl
                  · rfl
                have hb := below_alloc (Below.refl w6.heap.size w6) (.cells #[.slice none 0 0] 24)
                have hs5 : (w6.alloc (.cells #[.slice none 0 0] 24)).heap.size = w6.heap.size + 1 := by simp
                have n0_ := Aside0.mk (show (w6.alloc (.cells #[.slice none 0 0] 24)).heap[w6.heap.size]? = some (.cells #[.slice none 0 0] 24 (0, 0)) by simpa using blk_new w6 (.cells #[.slice none 0 0] 24))
                have n1_ := Aside0.mk ((hb.block w.heap.size (blk_lt BK0.out)).trans BK0.out)
                have n2_ := Aside0.mk ((hb.block (w.heap.size + 1) (blk_lt BK1.out)).trans BK1.out)
                have n3_ := Aside0.mk (below_step HB.out hb)
                have n4_ := Aside0.mk (below_step HB6.out hb)
                clear BK0 BK1 HB HB6 hb
                have HG5 := n0_
                have BK0 := n1_
                have BK1 := n2_
                have HB := n3_
                have HB6 := n4_
                clear n0_ n1_ n2_ n3_ n4_
                refine hK.out _ _ ⟨(blk_cell BK0.out 0).trans rfl, (blk_cell BK0.out 1).trans rfl, (blk_cell BK1.out 0).trans rfl, (blk_cell BK1.out 1).trans rfl⟩ (fun hHeld => ?_)
                clear hK K
                refine norm_ (a' := ?_) ?_ ?_
                rotate_left
                · show Act.put _ (some 7) _ = _
                  simp only [Act.put, List.setIfInBounds_toArray, List.set_cons_zero, List.set_cons_succ, i64_w, i32_w]
                  rfl
                refine two_ (i := 1) (j := 4) (Ni := some 32) (Nj := some 6) #[true, true, true, false, false, true, false, false] #[true, false, true, false, true, true, false, false] rfl rfl rfl rfl (by kernel_rfl) (by decide) (by decide) (fun K hK => ?_) (fun K hK => ?_)
                · skip
                  refine goes_ Try.func100 (by kernel_rfl) rfl #[.agg #[.slice A0 l0.length c0, .int .i64 a0]] (by rfl) rfl rfl (by simp only [List.map_toArray, List.map_cons, List.map_nil]; rfl) ?_
                  with_reducible refine (impl_Vote_table.calls k _ _ l0 a0 x _ ?side1 ?side2 HX.out).mono ?_
                  (case side1 => exact Kd.C_below HR0.out HB.out)
                  (case side2 => exact HC0.out)
                  rintro e wa ⟨va, rfl, hr, hb⟩
                  refine ⟨_, rfl, ?_⟩
                  have hs1 := below_size hb
                  have n0_ := Aside0.mk (Kd.R_lower (Kd.R_mono (ok' := fun z => (w6.alloc (.cells #[.slice none 0 0] 24)).heap.size ≤ z ∧ z < wa.heap.size) (Kd.R_bound hr) (fun z hz => ⟨hz.2.1, hz.2.2.1⟩)) (below_size HB6.out))
                  have n1_ := Aside0.mk ((hb.block w.heap.size (blk_lt BK0.out)).trans BK0.out)
                  have n2_ := Aside0.mk ((hb.block (w.heap.size + 1) (blk_lt BK1.out)).trans BK1.out)
                  have n3_ := Aside0.mk (below_step HB.out hb)
                  have n4_ := Aside0.mk (below_step HB6.out hb)
                  have n5_ := Aside0.mk ((hb.block _ (blk_lt HG5.out)).trans HG5.out)
                  clear BK0 BK1 HB HB6 HG5 hb hr
                  have HRa := n0_
                  have BK0 := n1_
                  have BK1 := n2_
                  have HB := n3_
                  have HB6 := n4_
                  have HG5 := n5_
                  clear n0_ n1_ n2_ n3_ n4_ n5_
                  refine hK.out _ _ ⟨(blk_cell BK0.out 0).trans rfl, (blk_cell BK0.out 1).trans rfl, (blk_cell BK1.out 0).trans rfl, (blk_cell BK1.out 1).trans rfl⟩ (fun hHeld => ?_)
                  clear hK K
                  refine norm_ (a' := ?_) ?_ ?_
                  rotate_left
                  · show Act.put _ (some 32) _ = _
                    simp only [Act.put, List.setIfInBounds_toArray, List.set_cons_zero, List.set_cons_succ, i64_w, i32_w]
                    rfl
                  refine two_ (i := 3) (j := 4) (Ni := some 34) (Nj := some 6) #[true, true, true, true, false, true, false, false] #[true, true, true, false, true, true, false, false] rfl rfl rfl rfl (by kernel_rfl) (by decide) (by decide) (fun K hK => ?_) (fun K hK => ?_)
                  · skip
                    refine goes_ Try.func100 (by kernel_rfl) rfl #[.agg #[.slice A1 l1.length c1, .int .i64 a1]] (by rfl) rfl rfl (by simp only [List.map_toArray, List.map_cons, List.map_nil]; rfl) ?_
                    with_reducible refine (impl_Vote_table.calls k _ _ l1 a1 y _ ?side1 ?side2 HY.out).mono ?_
                    (case side1 => exact Kd.C_below HR1.out HB.out)
                    (case side2 => exact HC1.out)
                    rintro e wb ⟨vb, rfl, hr, hb⟩
                    refine ⟨_, rfl, ?_⟩
                    have hs3 := below_size hb
                    have n0_ := Aside0.mk (Kd.R_lower (Kd.R_mono (ok' := fun z => wa.heap.size ≤ z ∧ z < wb.heap.size) (Kd.R_bound hr) (fun z hz => ⟨hz.2.1, hz.2.2.1⟩)) (below_size HB6.out))
                    have n1_ := Aside0.mk ((hb.block w.heap.size (blk_lt BK0.out)).trans BK0.out)
                    have n2_ := Aside0.mk ((hb.block (w.heap.size + 1) (blk_lt BK1.out)).trans BK1.out)
                    have n3_ := Aside0.mk (below_step HB.out hb)
                    have n4_ := Aside0.mk (below_step HB6.out hb)
                    have n5_ := Aside0.mk ((hb.block _ (blk_lt HG5.out)).trans HG5.out)
                    have n6_ := Aside0.mk (Kd.R_below HRa.out hb)
                    clear BK0 BK1 HB HB6 HG5 HRa hb hr
                    have HRb := n0_
                    have BK0 := n1_
                    have BK1 := n2_
                    have HB := n3_
                    have HB6 := n4_
                    have HG5 := n5_
                    have HRa := n6_
                    clear n0_ n1_ n2_ n3_ n4_ n5_ n6_
                    refine hK.out _ _ ⟨(blk_cell BK0.out 0).trans rfl, (blk_cell BK0.out 1).trans rfl, (blk_cell BK1.out 0).trans rfl, (blk_cell BK1.out 1).trans rfl⟩ (fun hHeld => ?_)
                    clear hK K
                    refine norm_ (a' := ?_) ?_ ?_
                    rotate_left
                    · show Act.put _ (some 34) _ = _
                      simp only [Act.put, List.setIfInBounds_toArray, List.set_cons_zero, List.set_cons_succ, i64_w, i32_w]
                      rfl
                    refine one_ (i := 4) (N := some 6) #[true, true, true, true, true, true, false, false] rfl rfl (by kernel_rfl) (by decide) (fun K hK => ?_)
                    refine value_ (w1 := ?_) (v := ?_) (by rfl) rfl ?_ ?_
                    rotate_left 2
                    · go_simp
                      constructor
                      · rfl
                      · rfl
                    have hb := below_alloc (Below.refl wb.heap.size wb) (.cells #[.slice none 0 0] 24)
                    have hs4 : (wb.alloc (.cells #[.slice none 0 0] 24)).heap.size = wb.heap.size + 1 := by simp
                    have n0_ := Aside0.mk (show (wb.alloc (.cells #[.slice none 0 0] 24)).heap[wb.heap.size]? = some (.cells #[.slice none 0 0] 24 (0, 0)) by simpa using blk_new wb (.cells #[.slice none 0 0] 24))
                    have n1_ := Aside0.mk ((hb.block w.heap.size (blk_lt BK0.out)).trans BK0.out)
                    have n2_ := Aside0.mk ((hb.block (w.heap.size + 1) (blk_lt BK1.out)).trans BK1.out)
                    have n3_ := Aside0.mk (below_step HB.out hb)
                    have n4_ := Aside0.mk (below_step HB6.out hb)
                    have n5_ := Aside0.mk ((hb.block _ (blk_lt HG5.out)).trans HG5.out)
                    have n6_ := Aside0.mk (Kd.R_below HRa.out hb)
                    have n7_ := Aside0.mk (Kd.R_below HRb.out hb)
                    clear BK0 BK1 HB HB6 HG5 HRa HRb hb
                    have HG4 := n0_
                    have BK0 := n1_
                    have BK1 := n2_
                    have HB := n3_
                    have HB6 := n4_
                    have HG5 := n5_
                    have HRa := n6_
                    have HRb := n7_
                    clear n0_ n1_ n2_ n3_ n4_ n5_ n6_ n7_
                    refine hK.out _ _ ⟨(blk_cell BK0.out 0).trans rfl, (blk_cell BK0.out 1).trans rfl, (blk_cell BK1.out 0).trans rfl, (blk_cell BK1.out 1).trans rfl⟩ (fun hHeld => ?_)
                    clear hK K
                    refine norm_ (a' := ?_) ?_ ?_
                    rotate_left
                    · show Act.put _ (some 6) _ = _
                      simp only [Act.put, List.setIfInBounds_toArray, List.set_cons_zero, List.set_cons_succ, i64_w, i32_w]
                      rfl
                    exact norm_ (by simp only [putAll, Act.put, List.setIfInBounds_toArray, List.set_cons_zero, List.set_cons_succ]) (hCont (va, vb, wb.heap.size, w6.heap.size) _ ⟨Kd.R_mono HRa.out (fun z hz => by have h1_ := hz.1; have h2_ := hz.2; (try dsimp only); omega), Kd.R_mono HRb.out (fun z hz => by have h1_ := hz.1; have h2_ := hz.2; (try dsimp only); omega), HG4.out, HG5.out, by (try dsimp only); omega, by (try dsimp only); omega, by (try dsimp only); omega, HB6.out⟩)
                  · skip
                    refine value_ (w1 := ?_) (v := ?_) (by rfl) rfl ?_ ?_
                    rotate_left 2
                    · go_simp
                      constructor
                      · rfl
                      · rfl
                    have hb := below_alloc (Below.refl wa.heap.size wa) (.cells #[.slice none 0 0] 24)
                    have hs4 : (wa.alloc (.cells #[.slice none 0 0] 24)).heap.size = wa.heap.size + 1 := by simp
                    have n0_ := Aside0.mk (show (wa.alloc (.cells #[.slice none 0 0] 24)).heap[wa.heap.size]? = some (.cells #[.slice none 0 0] 24 (0, 0)) by simpa using blk_new wa (.cells #[.slice none 0 0] 24))
                    have n1_ := Aside0.mk ((hb.block w.heap.size (blk_lt BK0.out)).trans BK0.out)
                    have n2_ := Aside0.mk ((hb.block (w.heap.size + 1) (blk_lt BK1.out)).trans BK1.out)
                    have n3_ := Aside0.mk (below_step HB.out hb)
                    have n4_ := Aside0.mk (below_step HB6.out hb)
                    have n5_ := Aside0.mk ((hb.block _ (blk_lt HG5.out)).trans HG5.out)
                    have n6_ := Aside0.mk (Kd.R_below HRa.out hb)
                    clear BK0 BK1 HB HB6 HG5 HRa hb
                    have HG4 := n0_
                    have BK0 := n1_
                    have BK1 := n2_
                    have HB := n3_
                    have HB6 := n4_
                    have HG5 := n5_
                    have HRa := n6_
                    clear n0_ n1_ n2_ n3_ n4_ n5_ n6_
                    refine hK.out _ _ ⟨(blk_cell BK0.out 0).trans rfl, (blk_cell BK0.out 1).trans rfl, (blk_cell BK1.out 0).trans rfl, (blk_cell BK1.out 1).trans rfl⟩ (fun hHeld => ?_)
                    clear hK K
                    refine norm_ (a' := ?_) ?_ ?_
                    rotate_left
                    · show Act.put _ (some 6) _ = _
                      simp only [Act.put, List.setIfInBounds_toArray, List.set_cons_zero, List.set_cons_succ, i64_w, i32_w]
                      rfl
                    refine one_ (i := 3) (N := some 34) #[true, true, true, true, true, true, false, false] rfl rfl (by kernel_rfl) (by decide) (fun K hK => ?_)
                    refine goes_ Try.func100 (by kernel_rfl) rfl #[.agg #[.slice A1 l1.length c1, .int .i64 a1]] (by rfl) rfl rfl (by simp only [List.map_toArray, List.map_cons, List.map_nil]; rfl) ?_
                    with_reducible refine (impl_Vote_table.calls k _ _ l1 a1 y _ ?side1 ?side2 HY.out).mono ?_
                    (case side1 => exact Kd.C_below HR1.out HB.out)
                    (case side2 => exact HC1.out)
                    rintro e wb ⟨vb, rfl, hr, hb⟩
                    refine ⟨_, rfl, ?_⟩
                    have hs3 := below_size hb
                    have n0_ := Aside0.mk (Kd.R_lower (Kd.R_mono (ok' := fun z => (wa.alloc (.cells #[.slice none 0 0] 24)).heap.size ≤ z ∧ z < wb.heap.size) (Kd.R_bound hr) (fun z hz => ⟨hz.2.1, hz.2.2.1⟩)) (below_size HB6.out))
                    have n1_ := Aside0.mk ((hb.block w.heap.size (blk_lt BK0.out)).trans BK0.out)
                    have n2_ := Aside0.mk ((hb.block (w.heap.size + 1) (blk_lt BK1.out)).trans BK1.out)
                    have n3_ := Aside0.mk (below_step HB.out hb)
                    have n4_ := Aside0.mk (below_step HB6.out hb)
                    have n5_ := Aside0.mk ((hb.block _ (blk_lt HG5.out)).trans HG5.out)
                    have n6_ := Aside0.mk (Kd.R_below HRa.out hb)
                    have n7_ := Aside0.mk ((hb.block _ (blk_lt HG4.out)).trans HG4.out)
                    clear BK0 BK1 HB HB6 HG5 HRa HG4 hb hr
                    have HRb := n0_
                    have BK0 := n1_
                    have BK1 := n2_
                    have HB := n3_
                    have HB6 := n4_
                    have HG5 := n5_
                    have HRa := n6_
                    have HG4 := n7_
                    clear n0_ n1_ n2_ n3_ n4_ n5_ n6_ n7_
                    refine hK.out _ _ ⟨(blk_cell BK0.out 0).trans rfl, (blk_cell BK0.out 1).trans rfl, (blk_cell BK1.out 0).trans rfl, (blk_cell BK1.out 1).trans rfl⟩ (fun hHeld => ?_)
                    clear hK K
                    refine norm_ (a' := ?_) ?_ ?_
                    rotate_left
                    · show Act.put _ (some 34) _ = _
                      simp only [Act.put, List.setIfInBounds_toArray, List.set_cons_zero, List.set_cons_succ, i64_w, i32_w]
                      rfl
                    exact norm_ (by simp only [putAll, Act.put, List.setIfInBounds_toArray, List.set_cons_zero, List.set_cons_succ]) (hCont (va, vb, wa.heap.size, w6.heap.size) _ ⟨Kd.R_mono HRa.out (fun z hz => by have h1_ := hz.1; have h2_ := hz.2; (try dsimp only); omega), Kd.R_mono HRb.out (fun z hz => by have h1_ := hz.1; have h2_ := hz.2; (try dsimp only); omega), HG4.out, HG5.out, by (try dsimp only); omega, by (try dsimp only); omega, by (try dsimp only); omega, HB6.out⟩)
                · skip
                  refine value_ (w1 := ?_) (v := ?_) (by rfl) rfl ?_ ?_
                  rotate_left 2
                  · go_simp
                    constructor
                    · rfl
                    · rfl
                  have hb := below_alloc (Below.refl (w6.alloc (.cells #[.slice none 0 0] 24)).heap.size (w6.alloc (.cells #[.slice none 0 0] 24))) (.cells #[.slice none 0 0] 24)
                  have hs4 : ((w6.alloc (.cells #[.slice none 0 0] 24)).alloc (.cells #[.slice none 0 0] 24)).heap.size = (w6.alloc (.cells #[.slice none 0 0] 24)).heap.size + 1 := by simp
                  have n0_ := Aside0.mk (show ((w6.alloc (.cells #[.slice none 0 0] 24)).alloc (.cells #[.slice none 0 0] 24)).heap[w6.heap.size + 1]? = some (.cells #[.slice none 0 0] 24 (0, 0)) by simpa using blk_new (w6.alloc (.cells #[.slice none 0 0] 24)) (.cells #[.slice none 0 0] 24))
                  have n1_ := Aside0.mk ((hb.block w.heap.size (blk_lt BK0.out)).trans BK0.out)
                  have n2_ := Aside0.mk ((hb.block (w.heap.size + 1) (blk_lt BK1.out)).trans BK1.out)
                  have n3_ := Aside0.mk (below_step HB.out hb)
                  have n4_ := Aside0.mk (below_step HB6.out hb)
                  have n5_ := Aside0.mk ((hb.block _ (blk_lt HG5.out)).trans HG5.out)
                  clear BK0 BK1 HB HB6 HG5 hb
                  have HG4 := n0_
                  have BK0 := n1_
                  have BK1 := n2_
                  have HB := n3_
                  have HB6 := n4_
                  have HG5 := n5_
                  clear n0_ n1_ n2_ n3_ n4_ n5_
                  refine hK.out _ _ ⟨(blk_cell BK0.out 0).trans rfl, (blk_cell BK0.out 1).trans rfl, (blk_cell BK1.out 0).trans rfl, (blk_cell BK1.out 1).trans rfl⟩ (fun hHeld => ?_)
                  clear hK K
                  refine norm_ (a' := ?_) ?_ ?_
                  rotate_left
                  · show Act.put _ (some 6) _ = _
                    simp only [Act.put, List.setIfInBounds_toArray, List.set_cons_zero, List.set_cons_succ, i64_w, i32_w]
                    rfl
                  refine one_ (i := 1) (N := some 32) #[true, true, true, false, true, true, false, false] rfl rfl (by kernel_rfl) (by decide) (fun K hK => ?_)
                  refine goes_ Try.func100 (by kernel_rfl) rfl #[.agg #[.slice A0 l0.length c0, .int .i64 a0]] (by rfl) rfl rfl (by simp only [List.map_toArray, List.map_cons, List.map_nil]; rfl) ?_
                  with_reducible refine (impl_Vote_table.calls k _ _ l0 a0 x _ ?side1 ?side2 HX.out).mono ?_
                  (case side1 => exact Kd.C_below HR0.out HB.out)
                  (case side2 => exact HC0.out)
                  rintro e wa ⟨va, rfl, hr, hb⟩
                  refine ⟨_, rfl, ?_⟩
                  have hs1 := below_size hb
                  have n0_ := Aside0.mk (Kd.R_lower (Kd.R_mono (ok' := fun z => ((w6.alloc (.cells #[.slice none 0 0] 24)).alloc (.cells #[.slice none 0 0] 24)).heap.size ≤ z ∧ z < wa.heap.size) (Kd.R_bound hr) (fun z hz => ⟨hz.2.1, hz.2.2.1⟩)) (below_size HB6.out))
                  have n1_ := Aside0.mk ((hb.block w.heap.size (blk_lt BK0.out)).trans BK0.out)
                  have n2_ := Aside0.mk ((hb.block (w.heap.size + 1) (blk_lt BK1.out)).trans BK1.out)
                  have n3_ := Aside0.mk (below_step HB.out hb)
                  have n4_ := Aside0.mk (below_step HB6.out hb)
                  have n5_ := Aside0.mk ((hb.block _ (blk_lt HG5.out)).trans HG5.out)
                  have n6_ := Aside0.mk ((hb.block _ (blk_lt HG4.out)).trans HG4.out)
                  clear BK0 BK1 HB HB6 HG5 HG4 hb hr
                  have HRa := n0_
                  have BK0 := n1_
                  have BK1 := n2_
                  have HB := n3_
                  have HB6 := n4_
                  have HG5 := n5_
                  have HG4 := n6_
                  clear n0_ n1_ n2_ n3_ n4_ n5_ n6_
                  refine hK.out _ _ ⟨(blk_cell BK0.out 0).trans rfl, (blk_cell BK0.out 1).trans rfl, (blk_cell BK1.out 0).trans rfl, (blk_cell BK1.out 1).trans rfl⟩ (fun hHeld => ?_)
                  clear hK K
                  refine norm_ (a' := ?_) ?_ ?_
                  rotate_left
                  · show Act.put _ (some 32) _ = _
                    simp only [Act.put, List.setIfInBounds_toArray, List.set_cons_zero, List.set_cons_succ, i64_w, i32_w]
                    rfl
                  refine one_ (i := 3) (N := some 34) #[true, true, true, true, true, true, false, false] rfl rfl (by kernel_rfl) (by decide) (fun K hK => ?_)
                  refine goes_ Try.func100 (by kernel_rfl) rfl #[.agg #[.slice A1 l1.length c1, .int .i64 a1]] (by rfl) rfl rfl (by simp only [List.map_toArray, List.map_cons, List.map_nil]; rfl) ?_
                  with_reducible refine (impl_Vote_table.calls k _ _ l1 a1 y _ ?side1 ?side2 HY.out).mono ?_
                  (case side1 => exact Kd.C_below HR1.out HB.out)
                  (case side2 => exact HC1.out)
                  rintro e wb ⟨vb, rfl, hr, hb⟩
                  refine ⟨_, rfl, ?_⟩
                  have hs3 := below_size hb
                  have n0_ := Aside0.mk (Kd.R_lower (Kd.R_mono (ok' := fun z => wa.heap.size ≤ z ∧ z < wb.heap.size) (Kd.R_bound hr) (fun z hz => ⟨hz.2.1, hz.2.2.1⟩)) (below_size HB6.out))
                  have n1_ := Aside0.mk ((hb.block w.heap.size (blk_lt BK0.out)).trans BK0.out)
                  have n2_ := Aside0.mk ((hb.block (w.heap.size + 1) (blk_lt BK1.out)).trans BK1.out)
                  have n3_ := Aside0.mk (below_step HB.out hb)
                  have n4_ := Aside0.mk (below_step HB6.out hb)
                  have n5_ := Aside0.mk ((hb.block _ (blk_lt HG5.out)).trans HG5.out)
                  have n6_ := Aside0.mk ((hb.block _ (blk_lt HG4.out)).trans HG4.out)
                  have n7_ := Aside0.mk (Kd.R_below HRa.out hb)
                  clear BK0 BK1 HB HB6 HG5 HG4 HRa hb hr
                  have HRb := n0_
                  have BK0 := n1_
                  have BK1 := n2_
                  have HB := n3_
                  have HB6 := n4_
                  have HG5 := n5_
                  have HG4 := n6_
                  have HRa := n7_
                  clear n0_ n1_ n2_ n3_ n4_ n5_ n6_ n7_
                  refine hK.out _ _ ⟨(blk_cell BK0.out 0).trans rfl, (blk_cell BK0.out 1).trans rfl, (blk_cell BK1.out 0).trans rfl, (blk_cell BK1.out 1).trans rfl⟩ (fun hHeld => ?_)
                  clear hK K
                  refine norm_ (a' := ?_) ?_ ?_
                  rotate_left
                  · show Act.put _ (some 34) _ = _
                    simp only [Act.put, List.setIfInBounds_toArray, List.set_cons_zero, List.set_cons_succ, i64_w, i32_w]
                    rfl
                  exact norm_ (by simp only [putAll, Act.put, List.setIfInBounds_toArray, List.set_cons_zero, List.set_cons_succ]) (hCont (va, vb, w6.heap.size + 1, w6.heap.size) _ ⟨Kd.R_mono HRa.out (fun z hz => by have h1_ := hz.1; have h2_ := hz.2; (try dsimp only); omega), Kd.R_mono HRb.out (fun z hz => by have h1_ := hz.1; have h2_ := hz.2; (try dsimp only); omega), HG4.out, HG5.out, by (try dsimp only); omega, by (try dsimp only); omega, by (try dsimp only); omega, HB6.out⟩)
            rintro ⟨va, vb, g1, g2⟩ w7 ⟨f1, f2, f3, f4, f5, f6, f7, f8⟩
            dsimp only at f1 f2 f3 f4 f5 f6 f7
            obtain ⟨Aa, na, rfl⟩ := Kd.R_slice f1
            obtain ⟨Ab, nb, rfl⟩ := Kd.R_slice f2
            have HRa := Aside0.mk f1
            have HRb := Aside0.mk f2
            have HG1 := Aside0.mk f3
            have HG2 := Aside0.mk f4
            have HNE := Aside0.mk f5
            have HB7 := Aside0.mk (below_step HB.out f8)
            have HG1B := Aside0.mk (Nat.le_trans (below_size HB.out) f6)
            have HG2B := Aside0.mk (Nat.le_trans (below_size HB.out) f7)
            have BK07 := Aside0.mk ((f8.block w.heap.size (blk_lt BK0.out)).trans BK0.out)
            have BK17 := Aside0.mk ((f8.block (w.heap.size + 1) (blk_lt BK1.out)).trans BK1.out)
            have HN := Aside0.mk (And.intro (blk_ne BK07.out HG1.out (by decide)) (And.intro (blk_ne BK07.out HG2.out (by decide)) (And.intro (blk_ne BK17.out HG1.out (by decide)) (blk_ne BK17.out HG2.out (by decide)))))
            have hHeld := (show w7.cell? ⟨w.heap.size, 0, none⟩ = some (.slice A0 l0.length c0) ∧ w7.cell? ⟨w.heap.size, 1, none⟩ = some (.int .i64 a0) ∧ w7.cell? ⟨w.heap.size + 1, 0, none⟩ = some (.slice A1 l1.length c1) ∧ w7.cell? ⟨w.heap.size + 1, 1, none⟩ = some (.int .i64 a1) from ⟨(blk_cell BK07.out 0).trans rfl, (blk_cell BK07.out 1).trans rfl, (blk_cell BK17.out 0).trans rfl, (blk_cell BK17.out 1).trans rfl⟩)
            have hne1 : ¬ g1 = g2 := f5
            have hne2 : ¬ g2 = g1 := fun e => f5 e.symm
            have hg1c := (blk_cell HG1.out 0).trans (show _ = some (Value.slice none 0 0) from rfl)
            have hg1f := blk_frozen HG1.out 0
            have hg2c := (blk_cell HG2.out 0).trans (show _ = some (Value.slice none 0 0) from rfl)
            have hg2f := blk_frozen HG2.out 0
            clear f1 f2 f3 f4 f5 f6 f7 f8
            refine norm_ (a' := ?_) ?_ ?_
            rotate_left
            · simp only [putAll, Act.put, List.setIfInBounds_toArray, List.set_cons_zero, List.set_cons_succ]
              rfl
            refine one_ (i := 6) (N := none) #[true, true, true, true, true, true, true, false] rfl rfl (by kernel_rfl) (by decide) (fun K hK => ?_)
            refine skip_ (w1 := ?_) (by rfl) rfl ?_ ?_
            rotate_left
            · go_simp
              rfl
            refine hK.out _ _ ⟨(blk_cell (blk_far BK07.out HN.out.1 (p := ⟨g1, 0, none⟩) _) 0).trans rfl, (blk_cell (blk_far BK07.out HN.out.1 (p := ⟨g1, 0, none⟩) _) 1).trans rfl, (blk_cell (blk_far BK17.out HN.out.2.2.1 (p := ⟨g1, 0, none⟩) _) 0).trans rfl, (blk_cell (blk_far BK17.out HN.out.2.2.1 (p := ⟨g1, 0, none⟩) _) 1).trans rfl⟩ (fun hHeld => ?_)
            clear hK K
            refine one_ (i := 7) (N := none) #[true, true, true, true, true, true, true, true] rfl rfl (by kernel_rfl) (by decide) (fun K hK => ?_)
            refine skip_ (w1 := ?_) (by rfl) rfl ?_ ?_
            rotate_left
            · go_simp
              rfl
            refine hK.out _ _ ⟨(blk_cell (blk_far (blk_far BK07.out HN.out.1 (p := ⟨g1, 0, none⟩) _) HN.out.2.1 (p := ⟨g2, 0, none⟩) _) 0).trans rfl, (blk_cell (blk_far (blk_far BK07.out HN.out.1 (p := ⟨g1, 0, none⟩) _) HN.out.2.1 (p := ⟨g2, 0, none⟩) _) 1).trans rfl, (blk_cell (blk_far (blk_far BK17.out HN.out.2.2.1 (p := ⟨g1, 0, none⟩) _) HN.out.2.2.2 (p := ⟨g2, 0, none⟩) _) 0).trans rfl, (blk_cell (blk_far (blk_far BK17.out HN.out.2.2.1 (p := ⟨g1, 0, none⟩) _) HN.out.2.2.2 (p := ⟨g2, 0, none⟩) _) 1).trans rfl⟩ (fun hHeld => ?_)
            clear hK K
            refine done_ (by kernel_rfl) ?_
            have n0_ := Aside0.mk (blk_far (blk_put HG1.out 0 (.slice Aa x.length na) rfl) HNE.out (p := ⟨g2, 0, none⟩) (.slice Ab y.length nb))
            have n1_ := Aside0.mk (blk_put (blk_far HG2.out (Ne.symm HNE.out) (p := ⟨g1, 0, none⟩) (.slice Aa x.length na)) 0 (.slice Ab y.length nb) rfl)
            have n2_ := Aside0.mk (Kd.R_far (p := ⟨g2, 0, none⟩) (Kd.R_far (p := ⟨g1, 0, none⟩) HRa.out (fun _ hk => hk.1) (.slice Aa x.length na)) (fun _ hk => hk.2) (.slice Ab y.length nb))
            have n3_ := Aside0.mk (Kd.R_far (p := ⟨g2, 0, none⟩) (Kd.R_far (p := ⟨g1, 0, none⟩) HRb.out (fun _ hk => hk.1) (.slice Aa x.length na)) (fun _ hk => hk.2) (.slice Ab y.length nb))
            have n4_ := Aside0.mk (below_set (v := .slice Ab y.length nb) (j := 0) (below_set (v := .slice Aa x.length na) (j := 0) HB7.out HG1B.out) HG2B.out)
            clear HG1 HG2 HRa HRb HB7 HG1B HG2B BK07 BK17 HN HNE hHeld hne1 hne2 hg1c hg1f hg2c hg2f BK0 BK1 HB HB6
            generalize (w7.setCell ⟨g1, 0, none⟩ (.slice Aa x.length na)).setCell ⟨g2, 0, none⟩ (.slice Ab y.length nb) = w8 at n0_ n1_ n2_ n3_ n4_ ⊢
            have hgc := (blk_cell n0_.out 0).trans (show _ = some (Value.slice Aa x.length na) from rfl)
            have hlk : Calls Try.prog 101 #[.int .i64 (x.length : Int), .func (.func 102) #[] #[.pointer (some ⟨g1, 0, none⟩), .pointer (some ⟨g2, 0, none⟩)]] w8 fun e w' => ∃ v0_ : Value, e = .returned v0_ ∧ Kd.R (Kd.int .i64) 3 w' w8.heap.size (fun _ => True) v0_ (impl_BothTable.prod x y) ∧ Below w8.heap.size w8 w' :=
              looked_calls x.length HM.out.1 102 Try.f102 Try.func102 (by kernel_rfl) rfl _ (fun j => wrap64 (x.getD j 0 * y.getD j 0)) w8 (fun j hj W hb =>
                impl_BothTable.one x y j hj HM.out g1 g2 Aa na Ab nb W ((hb.block g1 (blk_lt n0_.out)).trans n0_.out) ((hb.block g2 (blk_lt n1_.out)).trans n1_.out) (Kd.C_below (Kd.R_reads' n2_.out).2.2 hb) (Kd.C_below (Kd.R_reads' n3_.out).2.2 hb))
            have HLK := Aside0.mk hlk
            clear hlk
            go_wp2_with (first | (go_at_call 101; (with_reducible refine HLK.out.mono ?_); rintro e w9 ⟨v9, rfl, hr, hb⟩; have HO := Aside0.mk (Kd.R_lower hr (below_size n4_.out)); have HB9 := Aside0.mk (below_step n4_.out hb); clear hr hb))
            go_ret2
            exact ⟨_, rfl, HO.out, HB9.out⟩
          · rw [if_neg cm] at h; cases h
        · rw [if_neg cg] at h
          cases h
          have d3 : decide ((4 : Int) < (l0.length : Int)) = true := decide_eq_true (by omega)
          have d4 : decide ((l0.length : Int) > 4) = true := decide_eq_true (by omega)
          have d5 : decide (4 < l0.length) = true := decide_eq_true (by omega)
          clear cg cl
          go_wp2_with (first | (go_at_call 99; (with_reducible refine (impl_IsVote.calls k _ _ l0 a0 true _ ?side1 ?side2 HV0.out).mono ?_); (case side1 => exact Kd.C_below HR0.out (by repeat (first | (with_reducible first | exact HB.out | apply below_drew1) | exact HB.out))); (case side2 => exact HC0.out); rintro e w4 ⟨rfl, hb⟩; have n0_ := Aside0.mk ((hb.block w.heap.size (blk_lt BK0.out)).trans BK0.out); have n1_ := Aside0.mk ((hb.block (w.heap.size + 1) (blk_lt BK1.out)).trans BK1.out); have n2_ := Aside0.mk (below_step HB.out hb); clear BK0 BK1 HB hb; have BK0 := n0_; have BK1 := n1_; have HB := n2_; clear n0_ n1_ n2_; have hz0 := (blk_cell BK0.out 0).trans (show _ = some (Value.slice A0 l0.length c0) from rfl); have hz1 := (blk_cell BK0.out 1).trans (show _ = some (Value.int .i64 a0) from rfl); have hz2 := (blk_cell BK1.out 0).trans (show _ = some (Value.slice A1 l1.length c1) from rfl); have hz3 := (blk_cell BK1.out 1).trans (show _ = some (Value.int .i64 a1) from rfl)) | (go_at_call 99; (with_reducible refine (impl_IsVote.calls k _ _ l1 a1 true _ ?side1 ?side2 HV1.out).mono ?_); (case side1 => exact Kd.C_below HR1.out (by repeat (first | (with_reducible first | exact HB.out | apply below_drew1) | exact HB.out))); (case side2 => exact HC1.out); rintro e w5 ⟨rfl, hb⟩; have n0_ := Aside0.mk ((hb.block w.heap.size (blk_lt BK0.out)).trans BK0.out); have n1_ := Aside0.mk ((hb.block (w.heap.size + 1) (blk_lt BK1.out)).trans BK1.out); have n2_ := Aside0.mk (below_step HB.out hb); clear BK0 BK1 HB hb; have BK0 := n0_; have BK1 := n1_; have HB := n2_; clear n0_ n1_ n2_; have hz0 := (blk_cell BK0.out 0).trans (show _ = some (Value.slice A0 l0.length c0) from rfl); have hz1 := (blk_cell BK0.out 1).trans (show _ = some (Value.int .i64 a0) from rfl); have hz2 := (blk_cell BK1.out 0).trans (show _ = some (Value.slice A1 l1.length c1) from rfl); have hz3 := (blk_cell BK1.out 1).trans (show _ = some (Value.int .i64 a1) from rfl)))
          go_ret2
          exact ⟨_, rfl, Kd.R_nil _ _ _ _ _, by first | exact HB.out | exact below_drew1 HB.out⟩
      · rw [if_neg cl] at h
        cases h
        have d0 : ((l0.length : Int) == (l1.length : Int)) = false := beq_eq_false_iff_ne.mpr (by omega)
        have d1 : ((l0.length : Int) != (l1.length : Int)) = true := bne_iff_ne.mpr (by omega)
        have d2 : (l0.length == l1.length) = false := beq_eq_false_iff_ne.mpr cl
        clear cl
        go_wp2_with (first | (go_at_call 99; (with_reducible refine (impl_IsVote.calls k _ _ l0 a0 true _ ?side1 ?side2 HV0.out).mono ?_); (case side1 => exact Kd.C_below HR0.out (by repeat (first | (with_reducible first | exact HB.out | apply below_drew1) | exact HB.out))); (case side2 => exact HC0.out); rintro e w4 ⟨rfl, hb⟩; have n0_ := Aside0.mk ((hb.block w.heap.size (blk_lt BK0.out)).trans BK0.out); have n1_ := Aside0.mk ((hb.block (w.heap.size + 1) (blk_lt BK1.out)).trans BK1.out); have n2_ := Aside0.mk (below_step HB.out hb); clear BK0 BK1 HB hb; have BK0 := n0_; have BK1 := n1_; have HB := n2_; clear n0_ n1_ n2_; have hz0 := (blk_cell BK0.out 0).trans (show _ = some (Value.slice A0 l0.length c0) from rfl); have hz1 := (blk_cell BK0.out 1).trans (show _ = some (Value.int .i64 a0) from rfl); have hz2 := (blk_cell BK1.out 0).trans (show _ = some (Value.slice A1 l1.length c1) from rfl); have hz3 := (blk_cell BK1.out 1).trans (show _ = some (Value.int .i64 a1) from rfl)) | (go_at_call 99; (with_reducible refine (impl_IsVote.calls k _ _ l1 a1 true _ ?side1 ?side2 HV1.out).mono ?_); (case side1 => exact Kd.C_below HR1.out (by repeat (first | (with_reducible first | exact HB.out | apply below_drew1) | exact HB.out))); (case side2 => exact HC1.out); rintro e w5 ⟨rfl, hb⟩; have n0_ := Aside0.mk ((hb.block w.heap.size (blk_lt BK0.out)).trans BK0.out); have n1_ := Aside0.mk ((hb.block (w.heap.size + 1) (blk_lt BK1.out)).trans BK1.out); have n2_ := Aside0.mk (below_step HB.out hb); clear BK0 BK1 HB hb; have BK0 := n0_; have BK1 := n1_; have HB := n2_; clear n0_ n1_ n2_; have hz0 := (blk_cell BK0.out 0).trans (show _ = some (Value.slice A0 l0.length c0) from rfl); have hz1 := (blk_cell BK0.out 1).trans (show _ = some (Value.int .i64 a0) from rfl); have hz2 := (blk_cell BK1.out 0).trans (show _ = some (Value.slice A1 l1.length c1) from rfl); have hz3 := (blk_cell BK1.out 1).trans (show _ = some (Value.int .i64 a1) from rfl)))
        go_ret2
        exact ⟨_, rfl, Kd.R_nil _ _ _ _ _, by first | exact HB.out | exact below_drew1 HB.out⟩

end Go.Proofs.Ythfkgbkhkahmdaa.PFnExactBothTable
