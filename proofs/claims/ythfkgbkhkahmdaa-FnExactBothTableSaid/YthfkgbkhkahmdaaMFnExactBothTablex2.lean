-- Laid for this claim by a program of the session's own (wip/tool/myprint.py).
import Derived.Test.YthfkgbkhkahmdaaMFnExactBothTablex0
import Derived.Test.YthfkgbkhkahmdaaMFnExactBothTablex1
namespace Go.Proofs.Ythfkgbkhkahmdaa.PFnExactBothTable
open Go.RowKit Go.Proofs.YthfkgbkhkahmdaaW.PrintWords Go.Proofs.YthfkgbkhkahmdaaW.PrintLast Go.Proofs.YthfkgbkhkahmdaaW.PrintMore
attribute [local go_sem] max2_int min2_int max_two min_two max_three min_three max_four min_four   -- for this text's walks alone
set_option linter.unusedVariables false
set_option linter.unusedSimpArgs false

/-! ### spec_BothTable: function 37 -/
def spec_BothTable.prod (x y : List Int) : List Int := (List.range x.length).map fun j => wrap64 (x.getD j 0 * y.getD j 0)
def spec_BothTable.f (k : Nat) (l0 : List Int) (a0 : Int) (l1 : List Int) (a1 : Int) : Option (List Int × Bool) :=
  (spec_l6Vote.f k l0 a0).bind fun t => if t = true then (spec_l6Vote.f k l1 a1).bind fun u => if u = true then (if l0.length = l1.length then (if l0.length ≤ 4 then ((spec_l6Told.f k l0 a0).bind fun x => (spec_l6Told.f k l1 a1).bind fun y => if x.length ≤ 1048576 ∧ x.length ≤ y.length then some (spec_BothTable.prod x y, true) else none) else some ([], false)) else some ([], false)) else some ([], false) else some ([], false)
theorem spec_BothTable.mono : ∀ a0 a1 a2 a3 k, LeO (spec_BothTable.f k a0 a1 a2 a3) (spec_BothTable.f (k + 1) a0 a1 a2 a3) := by
  intro a0 a1 a2 a3 k
  unfold spec_BothTable.f
  refine LeO.bind (spec_l6Vote.mono _ _ _) fun t => LeO.ite ?_ (LeO.refl _)
  refine LeO.bind (spec_l6Vote.mono _ _ _) fun u => LeO.ite ?_ (LeO.refl _)
  refine LeO.ite (LeO.ite ?_ (LeO.refl _)) (LeO.refl _)
  exact LeO.bind (spec_l6Told.mono _ _ _) fun x => LeO.bind (spec_l6Told.mono _ _ _) fun y => LeO.refl _
set_option maxHeartbeats 8000000 in
set_option maxRecDepth 100000 in
theorem spec_BothTable.calls (k : Nat) (A0 : Option Addr) (c0 : Nat) (l0 : List Int) (a0 : Int) (A1 : Option Addr) (c1 : Nat) (l1 : List Int) (a1 : Int) (r1 : List Int) (r2 : Bool) (w : World) (hr0 : Kd.C (Kd.int .i64) w A0 l0.length l0) (hc0 : l0.length ≤ c0) (hr1 : Kd.C (Kd.int .i64) w A1 l1.length l1) (hc1 : l1.length ≤ c1) (h : spec_BothTable.f k l0 a0 l1 a1 = some (r1, r2)) :
    Calls Try.prog 37 #[.agg #[.slice A0 l0.length c0, .int .i64 a0], .agg #[.slice A1 l1.length c1, .int .i64 a1]] w fun e w' => ∃ v0_ : Value, e = .returned (.tuple #[v0_, .bool r2]) ∧ Kd.R (Kd.int .i64) 3 w' w.heap.size (fun _ => True) v0_ r1 ∧ Below w.heap.size w w' := by
  have HR0 := Aside0.mk hr0
  have HC0 := Aside0.mk hc0
  have HR1 := Aside0.mk hr1
  have HC1 := Aside0.mk hc1
  clear hr0 hc0 hr1 hc1
  have BK0 := Aside0.mk (blk_alloc (blk_new w (.cells #[.slice A0 l0.length c0, .int .i64 a0] 57)) (.cells #[.slice A1 l1.length c1, .int .i64 a1] 57))
  have BK1 := Aside0.mk (show ((w.alloc (.cells #[.slice A0 l0.length c0, .int .i64 a0] 57)).alloc (.cells #[.slice A1 l1.length c1, .int .i64 a1] 57)).heap[w.heap.size + 1]? = some (.cells #[.slice A1 l1.length c1, .int .i64 a1] 57 (0, 0)) by simpa using blk_new (w.alloc (.cells #[.slice A0 l0.length c0, .int .i64 a0] 57)) (.cells #[.slice A1 l1.length c1, .int .i64 a1] 57))
  have HB := Aside0.mk (below_alloc (below_alloc (Below.refl w.heap.size w) (.cells #[.slice A0 l0.length c0, .int .i64 a0] 57)) (.cells #[.slice A1 l1.length c1, .int .i64 a1] 57))
  have hz0 := (blk_cell BK0.out 0).trans (show _ = some (Value.slice A0 l0.length c0) from rfl); have hz1 := (blk_cell BK0.out 1).trans (show _ = some (Value.int .i64 a0) from rfl); have hz2 := (blk_cell BK1.out 0).trans (show _ = some (Value.slice A1 l1.length c1) from rfl); have hz3 := (blk_cell BK1.out 1).trans (show _ = some (Value.int .i64 a1) from rfl)
  unfold spec_BothTable.f at h
  obtain ⟨t, hv0, h⟩ := Option.bind_eq_some_iff.mp h
  have HV0 := Aside0.mk hv0
  clear hv0
  go_enter Try.func37, Try.ntmps37
  cases t with
  | false =>
    rw [if_neg (by decide)] at h
    cases h
    go_wp2_with (first | (go_at_call 97; (with_reducible refine (spec_l6Vote.calls k _ _ l0 a0 false _ ?side1 ?side2 HV0.out).mono ?_); (case side1 => exact Kd.C_below HR0.out (by repeat (first | (with_reducible first | exact HB.out | apply below_drew1) | exact HB.out))); (case side2 => exact HC0.out); rintro e w4 ⟨rfl, hb⟩; have n0_ := Aside0.mk ((hb.block w.heap.size (blk_lt BK0.out)).trans BK0.out); have n1_ := Aside0.mk ((hb.block (w.heap.size + 1) (blk_lt BK1.out)).trans BK1.out); have n2_ := Aside0.mk (below_step HB.out hb); clear BK0 BK1 HB hb; have BK0 := n0_; have BK1 := n1_; have HB := n2_; clear n0_ n1_ n2_; have hz0 := (blk_cell BK0.out 0).trans (show _ = some (Value.slice A0 l0.length c0) from rfl); have hz1 := (blk_cell BK0.out 1).trans (show _ = some (Value.int .i64 a0) from rfl); have hz2 := (blk_cell BK1.out 0).trans (show _ = some (Value.slice A1 l1.length c1) from rfl); have hz3 := (blk_cell BK1.out 1).trans (show _ = some (Value.int .i64 a1) from rfl)) | ((with_reducible refine gate_dst (N := 33) rfl ?_); refine Kd.R_lit (Kd.int .i64) _ 3 ?hg (N := 33) ?hd (xs := ([] : List Int)) (inner := []) (ok := fun _ => True) (okp := fun _ => True) ?hr ?hp (fun _ hk => hk) trivial (Below.refl _ _) (Nat.le_refl _) (by simp) ?_; (case hd => rfl); (case hg => rfl); (case hr => first | (go_simp; done) | (go_simp; rfl)); (case hp => exact (Reps.none _ _)); intro v9 w9 ho hb hg_ hnew_; clear hg_ hnew_; have HO := Aside0.mk (Kd.R_lower ho (below_size HB.out)); have n2_ := Aside0.mk (below_step HB.out hb); clear ho hb HB; have HB := n2_; clear n2_))
    go_ret2
    exact ⟨_, rfl, HO.out, HB.out⟩
  | true =>
    rw [if_pos rfl] at h
    obtain ⟨u, hv1, h⟩ := Option.bind_eq_some_iff.mp h
    have HV1 := Aside0.mk hv1
    clear hv1
    cases u with
    | false =>
      rw [if_neg (by decide)] at h
      cases h
      go_wp2_with (first | (go_at_call 97; (with_reducible refine (spec_l6Vote.calls k _ _ l0 a0 true _ ?side1 ?side2 HV0.out).mono ?_); (case side1 => exact Kd.C_below HR0.out (by repeat (first | (with_reducible first | exact HB.out | apply below_drew1) | exact HB.out))); (case side2 => exact HC0.out); rintro e w4 ⟨rfl, hb⟩; have n0_ := Aside0.mk ((hb.block w.heap.size (blk_lt BK0.out)).trans BK0.out); have n1_ := Aside0.mk ((hb.block (w.heap.size + 1) (blk_lt BK1.out)).trans BK1.out); have n2_ := Aside0.mk (below_step HB.out hb); clear BK0 BK1 HB hb; have BK0 := n0_; have BK1 := n1_; have HB := n2_; clear n0_ n1_ n2_; have hz0 := (blk_cell BK0.out 0).trans (show _ = some (Value.slice A0 l0.length c0) from rfl); have hz1 := (blk_cell BK0.out 1).trans (show _ = some (Value.int .i64 a0) from rfl); have hz2 := (blk_cell BK1.out 0).trans (show _ = some (Value.slice A1 l1.length c1) from rfl); have hz3 := (blk_cell BK1.out 1).trans (show _ = some (Value.int .i64 a1) from rfl)) | (go_at_call 97; (with_reducible refine (spec_l6Vote.calls k _ _ l1 a1 false _ ?side1 ?side2 HV1.out).mono ?_); (case side1 => exact Kd.C_below HR1.out (by repeat (first | (with_reducible first | exact HB.out | apply below_drew1) | exact HB.out))); (case side2 => exact HC1.out); rintro e w5 ⟨rfl, hb⟩; have n0_ := Aside0.mk ((hb.block w.heap.size (blk_lt BK0.out)).trans BK0.out); have n1_ := Aside0.mk ((hb.block (w.heap.size + 1) (blk_lt BK1.out)).trans BK1.out); have n2_ := Aside0.mk (below_step HB.out hb); clear BK0 BK1 HB hb; have BK0 := n0_; have BK1 := n1_; have HB := n2_; clear n0_ n1_ n2_; have hz0 := (blk_cell BK0.out 0).trans (show _ = some (Value.slice A0 l0.length c0) from rfl); have hz1 := (blk_cell BK0.out 1).trans (show _ = some (Value.int .i64 a0) from rfl); have hz2 := (blk_cell BK1.out 0).trans (show _ = some (Value.slice A1 l1.length c1) from rfl); have hz3 := (blk_cell BK1.out 1).trans (show _ = some (Value.int .i64 a1) from rfl)) | ((with_reducible refine gate_dst (N := 33) rfl ?_); refine Kd.R_lit (Kd.int .i64) _ 3 ?hg (N := 33) ?hd (xs := ([] : List Int)) (inner := []) (ok := fun _ => True) (okp := fun _ => True) ?hr ?hp (fun _ hk => hk) trivial (Below.refl _ _) (Nat.le_refl _) (by simp) ?_; (case hd => rfl); (case hg => rfl); (case hr => first | (go_simp; done) | (go_simp; rfl)); (case hp => exact (Reps.none _ _)); intro v9 w9 ho hb hg_ hnew_; clear hg_ hnew_; have HO := Aside0.mk (Kd.R_lower ho (below_size HB.out)); have n2_ := Aside0.mk (below_step HB.out hb); clear ho hb HB; have HB := n2_; clear n2_))
      go_ret2
      exact ⟨_, rfl, HO.out, HB.out⟩
    | true =>
      rw [if_pos rfl] at h
      by_cases cl : l0.length = l1.length
      · rw [if_pos cl] at h
        have d0 : ((l0.length : Int) == (l1.length : Int)) = true := beq_iff_eq.mpr (by omega)
        have d1 : ((l0.length : Int) != (l1.length : Int)) = false := bne_eq_false_iff_eq.mpr (by omega)
        have d2 : (l0.length == l1.length) = true := beq_iff_eq.mpr cl
        by_cases cg : l0.length ≤ 4
        · rw [if_pos cg] at h
          have d3 : decide ((4 : Int) < (l0.length : Int)) = false := decide_eq_false (by omega)
          have d4 : decide ((l0.length : Int) > 4) = false := decide_eq_false (by omega)
          have d5 : decide (4 < l0.length) = false := decide_eq_false (by omega)
          clear cg cl
          obtain ⟨x, hx, h⟩ := Option.bind_eq_some_iff.mp h
          obtain ⟨y, hy, h⟩ := Option.bind_eq_some_iff.mp h
          have HX := Aside0.mk hx
          have HY := Aside0.mk hy
          by_cases cm : x.length ≤ 1048576 ∧ x.length ≤ y.length
          · rw [if_pos cm] at h
            cases h
            have HM := Aside0.mk cm
            clear cm hx hy
            go_wp2_with (first | (go_at_call 97; (with_reducible refine (spec_l6Vote.calls k _ _ l0 a0 true _ ?side1 ?side2 HV0.out).mono ?_); (case side1 => exact Kd.C_below HR0.out (by repeat (first | (with_reducible first | exact HB.out | apply below_drew1) | exact HB.out))); (case side2 => exact HC0.out); rintro e w4 ⟨rfl, hb⟩; have n0_ := Aside0.mk ((hb.block w.heap.size (blk_lt BK0.out)).trans BK0.out); have n1_ := Aside0.mk ((hb.block (w.heap.size + 1) (blk_lt BK1.out)).trans BK1.out); have n2_ := Aside0.mk (below_step HB.out hb); clear BK0 BK1 HB hb; have BK0 := n0_; have BK1 := n1_; have HB := n2_; clear n0_ n1_ n2_; have hz0 := (blk_cell BK0.out 0).trans (show _ = some (Value.slice A0 l0.length c0) from rfl); have hz1 := (blk_cell BK0.out 1).trans (show _ = some (Value.int .i64 a0) from rfl); have hz2 := (blk_cell BK1.out 0).trans (show _ = some (Value.slice A1 l1.length c1) from rfl); have hz3 := (blk_cell BK1.out 1).trans (show _ = some (Value.int .i64 a1) from rfl)) | (go_at_call 97; (with_reducible refine (spec_l6Vote.calls k _ _ l1 a1 true _ ?side1 ?side2 HV1.out).mono ?_); (case side1 => exact Kd.C_below HR1.out (by repeat (first | (with_reducible first | exact HB.out | apply below_drew1) | exact HB.out))); (case side2 => exact HC1.out); rintro e w5 ⟨rfl, hb⟩; have n0_ := Aside0.mk ((hb.block w.heap.size (blk_lt BK0.out)).trans BK0.out); have n1_ := Aside0.mk ((hb.block (w.heap.size + 1) (blk_lt BK1.out)).trans BK1.out); have n2_ := Aside0.mk (below_step HB.out hb); clear BK0 BK1 HB hb; have BK0 := n0_; have BK1 := n1_; have HB := n2_; clear n0_ n1_ n2_; have hz0 := (blk_cell BK0.out 0).trans (show _ = some (Value.slice A0 l0.length c0) from rfl); have hz1 := (blk_cell BK0.out 1).trans (show _ = some (Value.int .i64 a0) from rfl); have hz2 := (blk_cell BK1.out 0).trans (show _ = some (Value.slice A1 l1.length c1) from rfl); have hz3 := (blk_cell BK1.out 1).trans (show _ = some (Value.int .i64 a1) from rfl)) | ((with_reducible refine gate_dst (N := 33) rfl ?_); refine Kd.R_lit (Kd.int .i64) _ 3 ?hg (N := 33) ?hd (xs := ([] : List Int)) (inner := []) (ok := fun _ => True) (okp := fun _ => True) ?hr ?hp (fun _ hk => hk) trivial (Below.refl _ _) (Nat.le_refl _) (by simp) ?_; (case hd => rfl); (case hg => rfl); (case hr => first | (go_simp; done) | (go_simp; rfl)); (case hp => exact (Reps.none _ _)); intro v9 w9 ho hb hg_ hnew_; clear hg_ hnew_; have HO := Aside0.mk (Kd.R_lower ho (below_size HB.out)); have n2_ := Aside0.mk (below_step HB.out hb); clear ho hb HB; have HB := n2_; clear n2_))
            have n0_ := Aside0.mk (blk_drew BK0.out)
            have n1_ := Aside0.mk (blk_drew BK1.out)
            have n2_ := Aside0.mk (below_drew1 HB.out)
            clear BK0 BK1 HB hz0 hz1 hz2 hz3
            have BK0 := n0_
            have BK1 := n1_
            have HB := n2_
            clear n0_ n1_ n2_
            refine start_ (n := 8) (S := fun w' => w'.cell? ⟨w.heap.size, 0, none⟩ = some (.slice A0 l0.length c0) ∧ w'.cell? ⟨w.heap.size, 1, none⟩ = some (.int .i64 a0) ∧ w'.cell? ⟨w.heap.size + 1, 0, none⟩ = some (.slice A1 l1.length c1) ∧ w'.cell? ⟨w.heap.size + 1, 1, none⟩ = some (.int .i64 a1)) (ds := []) #[false, false, false, false, false, false, false, false] (by kernel_rfl) rfl rfl ⟨(blk_cell BK0.out 0).trans rfl, (blk_cell BK0.out 1).trans rfl, (blk_cell BK1.out 0).trans rfl, (blk_cell BK1.out 1).trans rfl⟩ (fun hHeld => ?_)
            generalize w5.drew = w6 at BK0 BK1 HB hHeld ⊢
            have HB6 := Aside0.mk (Below.refl w6.heap.size w6)
            refine take_ (i := 1) (N := some 35) (v := ?_) (a' := ?_) #[false, true, false, false, false, false, false, false] rfl rfl (by kernel_rfl) (fun _ _ _ h => h) (Or.inl ⟨by rfl, ?_⟩) hHeld ?_ ?_
            rotate_left
            · rintro w' ⟨s0, s1, s2, s3⟩
              go_simp
              with_reducible rfl
            rotate_left
            · simp only [Act.put, List.setIfInBounds_toArray, List.set_cons_zero, List.set_cons_succ, i64_w, i32_w]
              rfl
            refine take_ (i := 3) (N := some 37) (v := ?_) (a' := ?_) #[false, true, false, true, false, false, false, false] rfl rfl (by kernel_rfl) (fun _ _ _ h => h) (Or.inl ⟨by rfl, ?_⟩) hHeld ?_ ?_
            rotate_left
            · rintro w' ⟨s0, s1, s2, s3⟩
              go_simp
              with_reducible rfl
            rotate_left
            · simp only [Act.put, List.setIfInBounds_toArray, List.set_cons_zero, List.set_cons_succ, i64_w, i32_w]
              rfl
            refine join_ (σ := Value × Value × Nat) 3 #[true, true, true, true, true, false, false, false] (fun s => [(36, s.1), (38, s.2.1), (34, .slice (some ⟨s.2.2, 0, none⟩) 0 0)]) (fun s w' => Kd.R (Kd.int .i64) 3 w' w6.heap.size (fun z => z ≠ s.2.2) s.1 x ∧ Kd.R (Kd.int .i64) 3 w' w6.heap.size (fun z => z ≠ s.2.2) s.2.1 y ∧ w'.heap[s.2.2]? = some (.cells #[] 3 (0, 0)) ∧ w6.heap.size ≤ s.2.2 ∧ Below w6.heap.size w6 w') ?_ ?_
            rotate_left
            · intro hCont
              refine two_ (i := 0) (j := 2) (Ni := some 34) (Nj := some 36) #[true, true, false, true, false, false, false, false] #[false, true, true, true, false, false, false, false] rfl rfl rfl rfl (by kernel_rfl) (by decide) (by decide) (fun K hK => ?_) (fun K hK => ?_)
              · skip
                refine value_ (w1 := ?_) (v := ?_) (by rfl) rfl ?_ ?_
                rotate_left 2
                · go_simp
                  constructor
                  · rfl
                  · rfl
                have hb := below_alloc (Below.refl w6.heap.size w6) (.cells #[] 3)
                have hs0 : (w6.alloc (.cells #[] 3)).heap.size = w6.heap.size + 1 := by simp
                have n0_ := Aside0.mk (show (w6.alloc (.cells #[] 3)).heap[w6.heap.size]? = some (.cells #[] 3 (0, 0)) by simpa using blk_new w6 (.cells #[] 3))
                have n1_ := Aside0.mk ((hb.block w.heap.size (blk_lt BK0.out)).trans BK0.out)
                have n2_ := Aside0.mk ((hb.block (w.heap.size + 1) (blk_lt BK1.out)).trans BK1.out)
                have n3_ := Aside0.mk (below_step HB.out hb)
                have n4_ := Aside0.mk (below_step HB6.out hb)
                clear BK0 BK1 HB HB6 hb
                have HG0 := n0_
                have BK0 := n1_
                have BK1 := n2_
                have HB := n3_
                have HB6 := n4_
                clear n0_ n1_ n2_ n3_ n4_
                refine hK.out _ _ ⟨(blk_cell BK0.out 0).trans rfl, (blk_cell BK0.out 1).trans rfl, (blk_cell BK1.out 0).trans rfl, (blk_cell BK1.out 1).trans rfl⟩ (fun hHeld => ?_)
                clear hK K
                refine norm_ (a' := ?_) ?_ ?_
                rotate_left
                · show Act.put _ (some 34) _ = _
                  simp only [Act.put, List.setIfInBounds_toArray, List.set_cons_zero, List.set_cons_succ, i64_w, i32_w]
                  rfl
                refine one_ (i := 2) (N := some 36) #[true, true, true, true, false, false, false, false] rfl rfl (by kernel_rfl) (by decide) (fun K hK => ?_)
                refine goes_ Try.func98 (by kernel_rfl) rfl #[.agg #[.slice A0 l0.length c0, .int .i64 a0]] (by rfl) rfl rfl (by simp only [List.map_toArray, List.map_cons, List.map_nil]; rfl) ?_
                with_reducible refine (spec_l6Told.calls k _ _ l0 a0 x _ ?side1 ?side2 HX.out).mono ?_
                (case side1 => exact Kd.C_below HR0.out HB.out)
                (case side2 => exact HC0.out)
                rintro e wa ⟨va, rfl, hr, hb⟩
                refine ⟨_, rfl, ?_⟩
                have hs2 := below_size hb
                have n0_ := Aside0.mk (Kd.R_lower (Kd.R_mono (ok' := fun z => (w6.alloc (.cells #[] 3)).heap.size ≤ z ∧ z < wa.heap.size) (Kd.R_bound hr) (fun z hz => ⟨hz.2.1, hz.2.2.1⟩)) (below_size HB6.out))
                have n1_ := Aside0.mk ((hb.block w.heap.size (blk_lt BK0.out)).trans BK0.out)
                have n2_ := Aside0.mk ((hb.block (w.heap.size + 1) (blk_lt BK1.out)).trans BK1.out)
                have n3_ := Aside0.mk (below_step HB.out hb)
                have n4_ := Aside0.mk (below_step HB6.out hb)
                have n5_ := Aside0.mk ((hb.block _ (blk_lt HG0.out)).trans HG0.out)
                clear BK0 BK1 HB HB6 HG0 hb hr
                have HRa := n0_
                have BK0 := n1_
                have BK1 := n2_
                have HB := n3_
                have HB6 := n4_
                have HG0 := n5_
                clear n0_ n1_ n2_ n3_ n4_ n5_
                refine hK.out _ _ ⟨(blk_cell BK0.out 0).trans rfl, (blk_cell BK0.out 1).trans rfl, (blk_cell BK1.out 0).trans rfl, (blk_cell BK1.out 1).trans rfl⟩ (fun hHeld => ?_)
                clear hK K
                refine norm_ (a' := ?_) ?_ ?_
                rotate_left
                · show Act.put _ (some 36) _ = _
                  simp only [Act.put, List.setIfInBounds_toArray, List.set_cons_zero, List.set_cons_succ, i64_w, i32_w]
                  rfl
                refine one_ (i := 4) (N := some 38) #[true, true, true, true, true, false, false, false] rfl rfl (by kernel_rfl) (by decide) (fun K hK => ?_)
                refine goes_ Try.func98 (by kernel_rfl) rfl #[.agg #[.slice A1 l1.length c1, .int .i64 a1]] (by rfl) rfl rfl (by simp only [List.map_toArray, List.map_cons, List.map_nil]; rfl) ?_
                with_reducible refine (spec_l6Told.calls k _ _ l1 a1 y _ ?side1 ?side2 HY.out).mono ?_
                (case side1 => exact Kd.C_below HR1.out HB.out)
                (case side2 => exact HC1.out)
                rintro e wb ⟨vb, rfl, hr, hb⟩
                refine ⟨_, rfl, ?_⟩
                have hs4 := below_size hb
                have n0_ := Aside0.mk (Kd.R_lower (Kd.R_mono (ok' := fun z => wa.heap.size ≤ z ∧ z < wb.heap.size) (Kd.R_bound hr) (fun z hz => ⟨hz.2.1, hz.2.2.1⟩)) (below_size HB6.out))
                have n1_ := Aside0.mk ((hb.block w.heap.size (blk_lt BK0.out)).trans BK0.out)
                have n2_ := Aside0.mk ((hb.block (w.heap.size + 1) (blk_lt BK1.out)).trans BK1.out)
                have n3_ := Aside0.mk (below_step HB.out hb)
                have n4_ := Aside0.mk (below_step HB6.out hb)
                have n5_ := Aside0.mk ((hb.block _ (blk_lt HG0.out)).trans HG0.out)
                have n6_ := Aside0.mk (Kd.R_below HRa.out hb)
                clear BK0 BK1 HB HB6 HG0 HRa hb hr
                have HRb := n0_
                have BK0 := n1_
                have BK1 := n2_
                have HB := n3_
                have HB6 := n4_
                have HG0 := n5_
                have HRa := n6_
                clear n0_ n1_ n2_ n3_ n4_ n5_ n6_
                refine hK.out _ _ ⟨(blk_cell BK0.out 0).trans rfl, (blk_cell BK0.out 1).trans rfl, (blk_cell BK1.out 0).trans rfl, (blk_cell BK1.out 1).trans rfl⟩ (fun hHeld => ?_)
                clear hK K
                refine norm_ (a' := ?_) ?_ ?_
                rotate_left
                · show Act.put _ (some 38) _ = _
                  simp only [Act.put, List.setIfInBounds_toArray, List.set_cons_zero, List.set_cons_succ, i64_w, i32_w]
                  rfl
                exact norm_ (by simp only [putAll, Act.put, List.setIfInBounds_toArray, List.set_cons_zero, List.set_cons_succ]) (hCont (va, vb, w6.heap.size) _ ⟨Kd.R_mono HRa.out (fun z hz => by have h1_ := hz.1; have h2_ := hz.2; (try dsimp only); omega), Kd.R_mono HRb.out (fun z hz => by have h1_ := hz.1; have h2_ := hz.2; (try dsimp only); omega), HG0.out, by (try dsimp only); omega, HB6.out⟩)
              · skip
                refine goes_ Try.func98 (by kernel_rfl) rfl #[.agg #[.slice A0 l0.length c0, .int .i64 a0]] (by rfl) rfl rfl (by simp only [List.map_toArray, List.map_cons, List.map_nil]; rfl) ?_
                with_reducible refine (spec_l6Told.calls k _ _ l0 a0 x _ ?side1 ?side2 HX.out).mono ?_
                (case side1 => exact Kd.C_below HR0.out HB.out)
                (case side2 => exact HC0.out)
                rintro e wa ⟨va, rfl, hr, hb⟩
                refine ⟨_, rfl, ?_⟩
                have hs2 := below_size hb
                have n0_ := Aside0.mk (Kd.R_lower (Kd.R_mono (ok' := fun z => w6.heap.size ≤ z ∧ z < wa.heap.size) (Kd.R_bound hr) (fun z hz => ⟨hz.2.1, hz.2.2.1⟩)) (below_size HB6.out))
                have n1_ := Aside0.mk ((hb.block w.heap.size (blk_lt BK0.out)).trans BK0.out)
                have n2_ := Aside0.mk ((hb.block (w.heap.size + 1) (blk_lt BK1.out)).trans BK1.out)
                have n3_ := Aside0.mk (below_step HB.out hb)
                have n4_ := Aside0.mk (below_step HB6.out hb)
                clear BK0 BK1 HB HB6 hb hr
                have HRa := n0_
                have BK0 := n1_
                have BK1 := n2_
                have HB := n3_
                have HB6 := n4_
                clear n0_ n1_ n2_ n3_ n4_
                refine hK.out _ _ ⟨(blk_cell BK0.out 0).trans rfl, (blk_cell BK0.out 1).trans rfl, (blk_cell BK1.out 0).trans rfl, (blk_cell BK1.out 1).trans rfl⟩ (fun hHeld => ?_)
                clear hK K
                refine norm_ (a' := ?_) ?_ ?_
                rotate_left
                · show Act.put _ (some 36) _ = _
                  simp only [Act.put, List.setIfInBounds_toArray, List.set_cons_zero, List.set_cons_succ, i64_w, i32_w]
                  rfl
                refine two_ (i := 0) (j := 4) (Ni := some 34) (Nj := some 38) #[true, true, true, true, false, false, false, false] #[false, true, true, true, true, false, false, false] rfl rfl rfl rfl (by kernel_rfl) (by decide) (by decide) (fun K hK => ?_) (fun K hK => ?_)
                · skip
                  refine value_ (w1 := ?_) (v := ?_) (by rfl) rfl ?_ ?_
                  rotate_left 2
                  · go_simp
                    constructor
                    · rfl
                    · rfl
                  have hb := below_alloc (Below.refl wa.heap.size wa) (.cells #[] 3)
                  have hs0 : (wa.alloc (.cells #[] 3)).heap.size = wa.heap.size + 1 := by simp
                  have n0_ := Aside0.mk (show (wa.alloc (.cells #[] 3)).heap[wa.heap.size]? = some (.cells #[] 3 (0, 0)) by simpa using blk_new wa (.cells #[] 3))
                  have n1_ := Aside0.mk ((hb.block w.heap.size (blk_lt BK0.out)).trans BK0.out)
                  have n2_ := Aside0.mk ((hb.block (w.heap.size + 1) (blk_lt BK1.out)).trans BK1.out)
                  have n3_ := Aside0.mk (below_step HB.out hb)
                  have n4_ := Aside0.mk (below_step HB6.out hb)
                  have n5_ := Aside0.mk (Kd.R_below HRa.out hb)
                  clear BK0 BK1 HB HB6 HRa hb
                  have HG0 := n0_
                  have BK0 := n1_
                  have BK1 := n2_
                  have HB := n3_
                  have HB6 := n4_
                  have HRa := n5_
                  clear n0_ n1_ n2_ n3_ n4_ n5_
                  refine hK.out _ _ ⟨(blk_cell BK0.out 0).trans rfl, (blk_cell BK0.out 1).trans rfl, (blk_cell BK1.out 0).trans rfl, (blk_cell BK1.out 1).trans rfl⟩ (fun hHeld => ?_)
                  clear hK K
                  refine norm_ (a' := ?_) ?_ ?_
                  rotate_left
                  · show Act.put _ (some 34) _ = _
                    simp only [Act.put, List.setIfInBounds_toArray, List.set_cons_zero, List.set_cons_succ, i64_w, i32_w]
                    rfl
                  refine one_ (i := 4) (N := some 38) #[true, true, true, true, true, false, false, false] rfl rfl (by kernel_rfl) (by decide) (fun K hK => ?_)
                  refine goes_ Try.func98 (by kernel_rfl) rfl #[.agg #[.slice A1 l1.length c1, .int .i64 a1]] (by rfl) rfl rfl (by simp only [List.map_toArray, List.map_cons, List.map_nil]; rfl) ?_
                  with_reducible refine (spec_l6Told.calls k _ _ l1 a1 y _ ?side1 ?side2 HY.out).mono ?_
                  (case side1 => exact Kd.C_below HR1.out HB.out)
                  (case side2 => exact HC1.out)
                  rintro e wb ⟨vb, rfl, hr, hb⟩
                  refine ⟨_, rfl, ?_⟩
                  have hs4 := below_size hb
                  have n0_ := Aside0.mk (Kd.R_lower (Kd.R_mono (ok' := fun z => (wa.alloc (.cells #[] 3)).heap.size ≤ z ∧ z < wb.heap.size) (Kd.R_bound hr) (fun z hz => ⟨hz.2.1, hz.2.2.1⟩)) (below_size HB6.out))
                  have n1_ := Aside0.mk ((hb.block w.heap.size (blk_lt BK0.out)).trans BK0.out)
                  have n2_ := Aside0.mk ((hb.block (w.heap.size + 1) (blk_lt BK1.out)).trans BK1.out)
                  have n3_ := Aside0.mk (below_step HB.out hb)
                  have n4_ := Aside0.mk (below_step HB6.out hb)
                  have n5_ := Aside0.mk (Kd.R_below HRa.out hb)
                  have n6_ := Aside0.mk ((hb.block _ (blk_lt HG0.out)).trans HG0.out)
                  clear BK0 BK1 HB HB6 HRa HG0 hb hr
                  have HRb := n0_
                  have BK0 := n1_
                  have BK1 := n2_
                  have HB := n3_
                  have HB6 := n4_
                  have HRa := n5_
                  have HG0 := n6_
                  clear n0_ n1_ n2_ n3_ n4_ n5_ n6_
                  refine hK.out _ _ ⟨(blk_cell BK0.out 0).trans rfl, (blk_cell BK0.out 1).trans rfl, (blk_cell BK1.out 0).trans rfl, (blk_cell BK1.out 1).trans rfl⟩ (fun hHeld => ?_)
                  clear hK K
                  refine norm_ (a' := ?_) ?_ ?_
                  rotate_left
                  · show Act.put _ (some 38) _ = _
                    simp only [Act.put, List.setIfInBounds_toArray, List.set_cons_zero, List.set_cons_succ, i64_w, i32_w]
                    rfl
                  exact norm_ (by simp only [putAll, Act.put, List.setIfInBounds_toArray, List.set_cons_zero, List.set_cons_succ]) (hCont (va, vb, wa.heap.size) _ ⟨Kd.R_mono HRa.out (fun z hz => by have h1_ := hz.1; have h2_ := hz.2; (try dsimp only); omega), Kd.R_mono HRb.out (fun z hz => by have h1_ := hz.1; have h2_ := hz.2; (try dsimp only); omega), HG0.out, by (try dsimp only); omega, HB6.out⟩)
                · skip
                  refine goes_ Try.func98 (by kernel_rfl) rfl #[.agg #[.slice A1 l1.length c1, .int .i64 a1]] (by rfl) rfl rfl (by simp only [List.map_toArray, List.map_cons, List.map_nil]; rfl) ?_
                  with_reducible refine (spec_l6Told.calls k _ _ l1 a1 y _ ?side1 ?side2 HY.out).mono ?_
                  (case side1 => exact Kd.C_below HR1.out HB.out)
                  (case side2 => exact HC1.out)
                  rintro e wb ⟨vb, rfl, hr, hb⟩
                  refine ⟨_, rfl, ?_⟩
                  have hs4 := below_size hb
                  have n0_ := Aside0.mk (Kd.R_lower (Kd.R_mono (ok' := fun z => wa.heap.size ≤ z ∧ z < wb.heap.size) (Kd.R_bound hr) (fun z hz => ⟨hz.2.1, hz.2.2.1⟩)) (below_size HB6.out))
                  have n1_ := Aside0.mk ((hb.block w.heap.size (blk_lt BK0.out)).trans BK0.out)
                  have n2_ := Aside0.mk ((hb.block (w.heap.size + 1) (blk_lt BK1.out)).trans BK1.out)
                  have n3_ := Aside0.mk (below_step HB.out hb)
                  have n4_ := Aside0.mk (below_step HB6.out hb)
                  have n5_ := Aside0.mk (Kd.R_below HRa.out hb)
                  clear BK0 BK1 HB HB6 HRa hb hr
                  have HRb := n0_
                  have BK0 := n1_
                  have BK1 := n2_
                  have HB := n3_
                  have HB6 := n4_
                  have HRa := n5_
                  clear n0_ n1_ n2_ n3_ n4_ n5_
                  refine hK.out _ _ ⟨(blk_cell BK0.out 0).trans rfl, (blk_cell BK0.out 1).trans rfl, (blk_cell BK1.out 0).trans rfl, (blk_cell BK1.out 1).trans rfl⟩ (fun hHeld => ?_)
                  clear hK K
                  refine norm_ (a' := ?_) ?_ ?_
                  rotate_left
                  · show Act.put _ (some 38) _ = _
                    simp only [Act.put, List.setIfInBounds_toArray, List.set_cons_zero, List.set_cons_succ, i64_w, i32_w]
                    rfl
                  refine one_ (i := 0) (N := some 34) #[true, true, true, true, true, false, false, false] rfl rfl (by kernel_rfl) (by decide) (fun K hK => ?_)
                  refine value_ (w1 := ?_) (v := ?_) (by rfl) rfl ?_ ?_
                  rotate_left 2
                  · go_simp
                    constructor
                    · rfl
                    · rfl
                  have hb := below_alloc (Below.refl wb.heap.size wb) (.cells #[] 3)
                  have hs0 : (wb.alloc (.cells #[] 3)).heap.size = wb.heap.size + 1 := by simp
                  have n0_ := Aside0.mk (show (wb.alloc (.cells #[] 3)).heap[wb.heap.size]? = some (.cells #[] 3 (0, 0)) by simpa using blk_new wb (.cells #[] 3))
                  have n1_ := Aside0.mk ((hb.block w.heap.size (blk_lt BK0.out)).trans BK0.out)
                  have n2_ := Aside0.mk ((hb.block (w.heap.size + 1) (blk_lt BK1.out)).trans BK1.out)
                  have n3_ := Aside0.mk (below_step HB.out hb)
                  have n4_ := Aside0.mk (below_step HB6.out hb)
                  have n5_ := Aside0.mk (Kd.R_below HRa.out hb)
                  have n6_ := Aside0.mk (Kd.R_below HRb.out hb)
                  clear BK0 BK1 HB HB6 HRa HRb hb
                  have HG0 := n0_
                  have BK0 := n1_
                  have BK1 := n2_
                  have HB := n3_
                  have HB6 := n4_
                  have HRa := n5_
                  have HRb := n6_
                  clear n0_ n1_ n2_ n3_ n4_ n5_ n6_
                  refine hK.out _ _ ⟨(blk_cell BK0.out 0).trans rfl, (blk_cell BK0.out 1).trans rfl, (blk_cell BK1.out 0).trans rfl, (blk_cell BK1.out 1).trans rfl⟩ (fun hHeld => ?_)
                  clear hK K
                  refine norm_ (a' := ?_) ?_ ?_
                  rotate_left
                  · show Act.put _ (some 34) _ = _
                    simp only [Act.put, List.setIfInBounds_toArray, List.set_cons_zero, List.set_cons_succ, i64_w, i32_w]
                    rfl
                  exact norm_ (by simp only [putAll, Act.put, List.setIfInBounds_toArray, List.set_cons_zero, List.set_cons_succ]) (hCont (va, vb, wb.heap.size) _ ⟨Kd.R_mono HRa.out (fun z hz => by have h1_ := hz.1; have h2_ := hz.2; (try dsimp only); omega), Kd.R_mono HRb.out (fun z hz => by have h1_ := hz.1; have h2_ := hz.2; (try dsimp only); omega), HG0.out, by (try dsimp only); omega, HB6.out⟩)
            rintro ⟨va, vb, g0⟩ w7 ⟨f1, f2, f3, f4, f8⟩
            dsimp only at f1 f2 f3 f4
            obtain ⟨Aa, na, rfl⟩ := Kd.R_slice f1
            obtain ⟨Ab, nb, rfl⟩ := Kd.R_slice f2
            have HRa := Aside0.mk f1
            have HRb := Aside0.mk f2
            have HG0 := Aside0.mk f3
            have HB7 := Aside0.mk (below_step HB.out f8)
            have HG0B := Aside0.mk (Nat.le_trans (below_size HB.out) f4)
            have BK07 := Aside0.mk ((f8.block w.heap.size (blk_lt BK0.out)).trans BK0.out)
            have BK17 := Aside0.mk ((f8.block (w.heap.size + 1) (blk_lt BK1.out)).trans BK1.out)
            have hHeld := (show w7.cell? ⟨w.heap.size, 0, none⟩ = some (.slice A0 l0.length c0) ∧ w7.cell? ⟨w.heap.size, 1, none⟩ = some (.int .i64 a0) ∧ w7.cell? ⟨w.heap.size + 1, 0, none⟩ = some (.slice A1 l1.length c1) ∧ w7.cell? ⟨w.heap.size + 1, 1, none⟩ = some (.int .i64 a1) from ⟨(blk_cell BK07.out 0).trans rfl, (blk_cell BK07.out 1).trans rfl, (blk_cell BK17.out 0).trans rfl, (blk_cell BK17.out 1).trans rfl⟩)
            clear f1 f2 f3 f4 f8
            refine norm_ (a' := ?_) ?_ ?_
            rotate_left
            · simp only [putAll, Act.put, List.setIfInBounds_toArray, List.set_cons_zero, List.set_cons_succ]
              rfl
            refine pure_ (i := 5) (N := some 6) (v := ?_) (a' := ?_) #[true, true, true, true, true, true, false, false] rfl rfl (by kernel_rfl) (fun _ _ _ h => h) (Or.inl ⟨by rfl, ?_⟩) ?_ ?_
            rotate_left
            · intro w'
              go_simp
              with_reducible rfl
            rotate_left
            · simp only [Act.put, List.setIfInBounds_toArray, List.set_cons_zero, List.set_cons_succ, i64_w, i32_w]
              rfl
            refine pure_ (i := 6) (N := some 7) (v := ?_) (a' := ?_) #[true, true, true, true, true, true, true, false] rfl rfl (by kernel_rfl) (fun _ _ _ h => h) (Or.inl ⟨by rfl, ?_⟩) ?_ ?_
            rotate_left
            · intro w'
              go_simp
              with_reducible rfl
            rotate_left
            · simp only [Act.put, List.setIfInBounds_toArray, List.set_cons_zero, List.set_cons_succ, i64_w, i32_w]
              rfl
            refine pure_ (i := 7) (N := some 8) (v := ?_) (a' := ?_) #[true, true, true, true, true, true, true, true] rfl rfl (by kernel_rfl) (fun _ _ _ h => h) (Or.inl ⟨by rfl, ?_⟩) ?_ ?_
            rotate_left
            · intro w'
              go_simp
              with_reducible rfl
            rotate_left
            · simp only [Act.put, List.setIfInBounds_toArray, List.set_cons_zero, List.set_cons_succ, i64_w, i32_w]
              rfl
            refine done_ (by kernel_rfl) ?_
            have hout : Kd.R (Kd.int .i64) 3 w7 w.heap.size (fun k_ => some k_ ≠ (.slice Aa x.length na : Value).ownBlock ∧ some k_ ≠ (.slice Ab y.length nb : Value).ownBlock) (.slice (some ⟨g0, 0, none⟩) 0 0) ((List.range 0).map fun j => wrap64 (x.getD j 0 * y.getD j 0)) := by
              refine Kd.R_of_own ⟨rfl, .inr ⟨g0, 0, #[], rfl, HG0B.out, HG0.out, Nat.le_refl _, by decide, rfl, rfl⟩⟩ (fun z hz => ?_)
              have e : g0 = z := by simpa [Value.ownBlock] using hz
              subst e
              exact ⟨fun e => HRa.out.1 g0 e.symm rfl, fun e => HRb.out.1 g0 e.symm rfl⟩
            have n0_ := Aside0.mk (Kd.R_lower (Kd.R_mono (ok' := fun k_ => True ∧ some k_ ≠ (.slice (some ⟨g0, 0, none⟩) 0 0 : Value).ownBlock) HRa.out (fun z hz => ⟨trivial, fun e => hz (by simpa [Value.ownBlock] using e)⟩)) (below_size HB.out))
            have n1_ := Aside0.mk (Kd.R_lower (Kd.R_mono (ok' := fun k_ => True ∧ some k_ ≠ (.slice (some ⟨g0, 0, none⟩) 0 0 : Value).ownBlock) HRb.out (fun z hz => ⟨trivial, fun e => hz (by simpa [Value.ownBlock] using e)⟩)) (below_size HB.out))
            have HO := Aside0.mk hout
            clear HRa HRb HG0 HG0B BK07 BK17 hHeld BK0 BK1 HB HB6 hout
            have HRa := n0_
            have HRb := n1_
            clear n0_ n1_
            go_wp2
            go_loopw [6, 9] (fun v6 v9 w' => ∃ j : Nat, v9 = .int .i64 (j : Int) ∧ Aside0 (j ≤ x.length) ∧ Aside0 (Kd.R (Kd.int .i64) 3 w' w.heap.size (fun k_ => some k_ ≠ (.slice Aa x.length na : Value).ownBlock ∧ some k_ ≠ (.slice Ab y.length nb : Value).ownBlock) v6 ((List.range j).map fun j => wrap64 (x.getD j 0 * y.getD j 0))) ∧ Aside0 (Kd.R (Kd.int .i64) 3 w' w.heap.size (fun k_ => True ∧ some k_ ≠ (v6 : Value).ownBlock) (.slice Aa x.length na) x) ∧ Aside0 (Kd.R (Kd.int .i64) 3 w' w.heap.size (fun k_ => True ∧ some k_ ≠ (v6 : Value).ownBlock) (.slice Ab y.length nb) y) ∧ Aside0 (Below w.heap.size w w')) (fun _ v9 _ => x.length - (intOf v9).toNat)
            case atStart => exact ⟨0, rfl, ⟨Nat.zero_le _⟩, HO, HRa, HRb, HB7⟩
            case round =>
              clear HO HRa HRb HB7
              obtain ⟨j, rfl, HJ, HO, HRa, HRb, HB7⟩ := hrel
              by_cases cc : j < x.length
              · have d6 : decide ((j : Int) < (x.length : Int)) = true := decide_eq_true (by omega)
                have d7 : decide (j < x.length) = true := decide_eq_true cc
                have HJJ := Aside0.mk cc
                have hjy : j < y.length := by have := HM.out.2; omega
                have h0j : (0 : Int) ≤ (j : Int) := by omega
                have hjb : (j : Int) ≤ 1048576 := by have := HM.out.1; omega
                obtain ⟨ad, e1, hcx⟩ := Kd.at_int (Kd.R_reads' HRa.out).2.2 (j : Int) (by omega) (by omega)
                cases e1
                obtain ⟨ad2, e2, hcy⟩ := Kd.at_int (Kd.R_reads' HRb.out).2.2 (j : Int) (by omega) (by omega)
                cases e2
                have hjx' : (j : Int) < (x.length : Int) := by omega
                have hjy' : (j : Int) < (y.length : Int) := by omega
                rw [Int.toNat_natCast] at hcx hcy
                rw [show rd x (j : Int) = x.getD j 0 by simp [rd]] at hcx
                rw [show rd y (j : Int) = y.getD j 0 by simp [rd]] at hcy
                obtain ⟨u, hu⟩ : ∃ u, x.getD j 0 = u := ⟨_, rfl⟩
                obtain ⟨v, hv⟩ : ∃ v, y.getD j 0 = v := ⟨_, rfl⟩
                rw [hu] at hcx
                rw [hv] at hcy
                have HU := Aside0.mk hu
                have HVV := Aside0.mk hv
                clear hu hv
                go_wp2
                have n0_ := Aside0.mk (Kd.R_drew HO.out)
                have n1_ := Aside0.mk (Kd.R_drew HRa.out)
                have n2_ := Aside0.mk (Kd.R_drew HRb.out)
                have n3_ := Aside0.mk (below_drew1 HB7.out)
                clear HO HRa HRb HB7
                have HO := n0_
                have HRa := n1_
                have HRb := n2_
                have HB7 := n3_
                clear n0_ n1_ n2_ n3_
                refine start_ (n := 13) (S := fun w' => w'.cell? (ad.add j) = some (.int .i64 u) ∧ w'.cell? (ad2.add j) = some (.int .i64 v)) (ds := [10, 11]) #[false, false, false, false, false, false, false, false, false, false, false, false, false] (by kernel_rfl) rfl rfl ⟨hcx, hcy⟩ (fun hHeld => ?_)
                generalize wr.drew = wq at HO HRa HRb HB7 hHeld ⊢
                refine pure_ (i := 0) (N := some 45) (v := ?_) (a' := ?_) #[true, false, false, false, false, false, false, false, false, false, false, false, false] rfl rfl (by kernel_rfl) (fun _ _ _ h => h) (Or.inl ⟨by rfl, ?_⟩) ?_ ?_
                rotate_left
                · intro w'
                  go_simp
                  with_reducible rfl
                rotate_left
                · simp only [Act.put, List.setIfInBounds_toArray, List.set_cons_zero, List.set_cons_succ, i64_w, i32_w]
                  rfl
                refine pure_ (i := 1) (N := some 46) (v := ?_) (a' := ?_) #[true, true, false, false, false, false, false, false, false, false, false, false, false] rfl rfl (by kernel_rfl) (fun _ _ _ h => h) (Or.inl ⟨by rfl, ?_⟩) ?_ ?_
                rotate_left
                · intro w'
                  go_simp
                  with_reducible rfl
                rotate_left
                · simp only [Act.put, List.setIfInBounds_toArray, List.set_cons_zero, List.set_cons_succ, i64_w, i32_w]
                  rfl
                refine pure_ (i := 2) (N := some 47) (v := ?_) (a' := ?_) #[true, true, true, false, false, false, false, false, false, false, false, false, false] rfl rfl (by kernel_rfl) (fun _ _ _ h => h) (Or.inl ⟨by rfl, ?_⟩) ?_ ?_
                rotate_left
                · intro w'
                  go_simp
                  with_reducible rfl
                rotate_left
                · simp only [Act.put, List.setIfInBounds_toArray, List.set_cons_zero, List.set_cons_succ, i64_w, i32_w]
                  rfl
                refine pure_ (i := 3) (N := some 48) (v := ?_) (a' := ?_) #[true, true, true, true, false, false, false, false, false, false, false, false, false] rfl rfl (by kernel_rfl) (fun _ _ _ h => h) (Or.inl ⟨by rfl, ?_⟩) ?_ ?_
                rotate_left
                · intro w'
                  go_simp
                  with_reducible rfl
                rotate_left
                · simp only [Act.put, List.setIfInBounds_toArray, List.set_cons_zero, List.set_cons_succ, i64_w, i32_w]
                  rfl
                refine pure_ (i := 5) (N := some 50) (v := ?_) (a' := ?_) #[true, true, true, true, false, true, false, false, false, false, false, false, false] rfl rfl (by kernel_rfl) (fun _ _ _ h => h) (Or.inl ⟨by rfl, ?_⟩) ?_ ?_
                rotate_left
                · intro w'
                  go_simp
                  with_reducible rfl
                rotate_left
                · simp only [Act.put, List.setIfInBounds_toArray, List.set_cons_zero, List.set_cons_succ, i64_w, i32_w]
                  rfl
                refine pure_ (i := 6) (N := some 51) (v := ?_) (a' := ?_) #[true, true, true, true, false, true, true, false, false, false, false, false, false] rfl rfl (by kernel_rfl) (fun _ _ _ h => h) (Or.inl ⟨by rfl, ?_⟩) ?_ ?_
                rotate_left
                · intro w'
                  go_simp
                  with_reducible rfl
                rotate_left
                · simp only [Act.put, List.setIfInBounds_toArray, List.set_cons_zero, List.set_cons_succ, i64_w, i32_w]
                  rfl
                refine pure_ (i := 7) (N := some 52) (v := ?_) (a' := ?_) #[true, true, true, true, false, true, true, true, false, false, false, false, false] rfl rfl (by kernel_rfl) (fun _ _ _ h => h) (Or.inl ⟨by rfl, ?_⟩) ?_ ?_
                rotate_left
                · intro w'
                  go_simp
                  with_reducible rfl
                rotate_left
                · simp only [Act.put, List.setIfInBounds_toArray, List.set_cons_zero, List.set_cons_succ, i64_w, i32_w]
                  rfl
                refine take_ (i := 4) (N := some 49) (v := ?_) (a' := ?_) #[true, true, true, true, true, true, true, true, false, false, false, false, false] rfl rfl (by kernel_rfl) (fun _ _ _ h => h) (Or.inl ⟨by rfl, ?_⟩) hHeld ?_ ?_
                rotate_left
                · rintro w' ⟨s0, s1⟩
                  go_simp
                  with_reducible rfl
                rotate_left
                · simp only [Act.put, List.setIfInBounds_toArray, List.set_cons_zero, List.set_cons_succ, i64_w, i32_w]
                  rfl
                refine take_ (i := 8) (N := some 53) (v := ?_) (a' := ?_) #[true, true, true, true, true, true, true, true, true, false, false, false, false] rfl rfl (by kernel_rfl) (fun _ _ _ h => h) (Or.inl ⟨by rfl, ?_⟩) hHeld ?_ ?_
                rotate_left
                · rintro w' ⟨s0, s1⟩
                  go_simp
                  with_reducible rfl
                rotate_left
                · simp only [Act.put, List.setIfInBounds_toArray, List.set_cons_zero, List.set_cons_succ, i64_w, i32_w]
                  rfl
                refine pure_ (i := 9) (N := some 54) (v := ?_) (a' := ?_) #[true, true, true, true, true, true, true, true, true, true, false, false, false] rfl rfl (by kernel_rfl) (fun _ _ _ h => h) (Or.inl ⟨by rfl, ?_⟩) ?_ ?_
                rotate_left
                · intro w'
                  go_simp
                  with_reducible rfl
                rotate_left
                · simp only [Act.put, List.setIfInBounds_toArray, List.set_cons_zero, List.set_cons_succ, i64_w, i32_w]
                  rfl
                refine last_ (i := 10) (N := some 55) #[true, true, true, true, true, true, true, true, true, true, true, false, false] rfl rfl (by kernel_rfl) (by decide) (fun K hK => ?_)
                refine value_ (w1 := ?_) (v := ?_) (by rfl) rfl ?_ ?_
                rotate_left 2
                · go_simp
                  constructor
                  · rfl
                  · rfl
                refine hK.out _ _ ?_
                clear hK K
                refine norm_ (a' := ?_) ?_ ?_
                rotate_left
                · show Act.put _ (some 55) _ = _
                  simp only [Act.put, List.setIfInBounds_toArray, List.set_cons_zero, List.set_cons_succ, i64_w, i32_w]
                  rfl
                refine last_ (i := 11) (N := some 56) #[true, true, true, true, true, true, true, true, true, true, true, true, false] rfl rfl (by kernel_rfl) (by decide) (fun K hK => ?_)
                refine Kd.R_append_step (Kd.int .i64) (w0 := w) w.heap.size (by rfl) (.tmp 45) (.tmp 55) 24 3 (.int .i64 0) 8 rfl Try.underlying24 info3 rfl (by decide) (by omega) u6 ((List.range j).map fun j => wrap64 (x.getD j 0 * y.getD j 0)) (wrap64 (u * v)) [.int .i64 (wrap64 (u * v))] (fun k_ => some k_ ≠ (.slice (some ad) x.length na : Value).ownBlock ∧ some k_ ≠ (.slice (some ad2) y.length nb : Value).ownBlock) (fun _ => False) rfl rfl ?aP (fun _ hk => hk.elim) ?aF ?aO ?aB ?aS ?aL ?_
                (case aP => exact rfl)
                (case aB => exact (by repeat (first | (with_reducible first | exact HB7.out | apply below_alloc | apply pw_below_drewN | apply below_drew1) | exact HB7.out)))
                (case aF => exact (fun k_ hk => ⟨Kd.fresh' (Kd.R_lt (by (with_reducible repeat (first | apply Kd.R_alloc | apply Kd.R_drewN | apply Kd.R_drew)); exact HRa.out)) k_ hk, Kd.fresh' (Kd.R_lt (by (with_reducible repeat (first | apply Kd.R_alloc | apply Kd.R_drewN | apply Kd.R_drew)); exact HRb.out)) k_ hk⟩))
                (case aO => exact (by (with_reducible repeat (first | apply Kd.R_alloc | apply Kd.R_drewN | apply Kd.R_drew)); exact HO.out))
                (case aS => exact (below_size (by repeat (first | (with_reducible first | exact HB7.out | apply below_alloc | apply pw_below_drewN | apply below_drew1) | exact HB7.out))))
                (case aL => have := HM.out.1; have := HJJ.out; rw [List.length_map, List.length_range]; omega)
                intro v8 w8 ho hb hg hat
                have n0_ := Aside0.mk (Kd.R_after (ok := fun _ => True) (by (with_reducible repeat (first | apply Kd.R_alloc | apply Kd.R_drewN | apply Kd.R_drew)); exact HRa.out) hg hat)
                have n1_ := Aside0.mk (Kd.R_after (ok := fun _ => True) (by (with_reducible repeat (first | apply Kd.R_alloc | apply Kd.R_drewN | apply Kd.R_drew)); exact HRb.out) hg hat)
                have n2_ := Aside0.mk ho
                have n3_ := Aside0.mk hb
                clear HRa HRb HO HB7 ho hb hg hat
                have HRa := n0_
                have HRb := n1_
                have HO := n2_
                have HB7 := n3_
                clear n0_ n1_ n2_ n3_
                refine hK.out _ _ ?_
                clear hK K
                refine norm_ (a' := ?_) ?_ ?_
                rotate_left
                · show Act.put _ (some 56) _ = _
                  simp only [Act.put, List.setIfInBounds_toArray, List.set_cons_zero, List.set_cons_succ, i64_w, i32_w]
                  rfl
                refine pure_ (i := 12) (N := some 6) (v := ?_) (a' := ?_) #[true, true, true, true, true, true, true, true, true, true, true, true, true] rfl rfl (by kernel_rfl) (fun _ _ _ h => h) (Or.inl ⟨by rfl, ?_⟩) ?_ ?_
                rotate_left
                · intro w'
                  go_simp
                  with_reducible rfl
                rotate_left
                · simp only [Act.put, List.setIfInBounds_toArray, List.set_cons_zero, List.set_cons_succ, i64_w, i32_w]
                  rfl
                refine done_ (by kernel_rfl) ?_
                go_wp2
                go_roundw
                case rel =>
                  refine ⟨j + 1, by go_num, ⟨HJJ.out⟩, ⟨?_⟩, HRa, HRb, HB7⟩
                  have h1 := HO.out
                  rw [← HU.out, ← HVV.out] at h1
                  rw [List.range_succ, List.map_append]
                  exact h1
                case measure => have := HJJ.out; simp [intOf]; omega
              · have d6 : decide ((j : Int) < (x.length : Int)) = false := decide_eq_false (by omega)
                have d7 : decide (j < x.length) = false := decide_eq_false cc
                have e : j = x.length := by have := HJ.out; omega
                have HE := Aside0.mk e
                clear e cc
                go_wp2
                go_ret2
                exact ⟨_, rfl, Kd.R_mono (show Kd.R (Kd.int .i64) 3 wr w.heap.size (fun k_ => some k_ ≠ (.slice Aa x.length na : Value).ownBlock ∧ some k_ ≠ (.slice Ab y.length nb : Value).ownBlock) u6 (spec_BothTable.prod x y) by have e2 : spec_BothTable.prod x y = (List.range j).map fun j => wrap64 (x.getD j 0 * y.getD j 0) := (by unfold spec_BothTable.prod; rw [HE.out]); rw [e2]; exact HO.out) (fun _ _ => trivial), HB7.out⟩
          · rw [if_neg cm] at h; cases h
        · rw [if_neg cg] at h
          cases h
          have d3 : decide ((4 : Int) < (l0.length : Int)) = true := decide_eq_true (by omega)
          have d4 : decide ((l0.length : Int) > 4) = true := decide_eq_true (by omega)
          have d5 : decide (4 < l0.length) = true := decide_eq_true (by omega)
          clear cg cl
          go_wp2_with (first | (go_at_call 97; (with_reducible refine (spec_l6Vote.calls k _ _ l0 a0 true _ ?side1 ?side2 HV0.out).mono ?_); (case side1 => exact Kd.C_below HR0.out (by repeat (first | (with_reducible first | exact HB.out | apply below_drew1) | exact HB.out))); (case side2 => exact HC0.out); rintro e w4 ⟨rfl, hb⟩; have n0_ := Aside0.mk ((hb.block w.heap.size (blk_lt BK0.out)).trans BK0.out); have n1_ := Aside0.mk ((hb.block (w.heap.size + 1) (blk_lt BK1.out)).trans BK1.out); have n2_ := Aside0.mk (below_step HB.out hb); clear BK0 BK1 HB hb; have BK0 := n0_; have BK1 := n1_; have HB := n2_; clear n0_ n1_ n2_; have hz0 := (blk_cell BK0.out 0).trans (show _ = some (Value.slice A0 l0.length c0) from rfl); have hz1 := (blk_cell BK0.out 1).trans (show _ = some (Value.int .i64 a0) from rfl); have hz2 := (blk_cell BK1.out 0).trans (show _ = some (Value.slice A1 l1.length c1) from rfl); have hz3 := (blk_cell BK1.out 1).trans (show _ = some (Value.int .i64 a1) from rfl)) | (go_at_call 97; (with_reducible refine (spec_l6Vote.calls k _ _ l1 a1 true _ ?side1 ?side2 HV1.out).mono ?_); (case side1 => exact Kd.C_below HR1.out (by repeat (first | (with_reducible first | exact HB.out | apply below_drew1) | exact HB.out))); (case side2 => exact HC1.out); rintro e w5 ⟨rfl, hb⟩; have n0_ := Aside0.mk ((hb.block w.heap.size (blk_lt BK0.out)).trans BK0.out); have n1_ := Aside0.mk ((hb.block (w.heap.size + 1) (blk_lt BK1.out)).trans BK1.out); have n2_ := Aside0.mk (below_step HB.out hb); clear BK0 BK1 HB hb; have BK0 := n0_; have BK1 := n1_; have HB := n2_; clear n0_ n1_ n2_; have hz0 := (blk_cell BK0.out 0).trans (show _ = some (Value.slice A0 l0.length c0) from rfl); have hz1 := (blk_cell BK0.out 1).trans (show _ = some (Value.int .i64 a0) from rfl); have hz2 := (blk_cell BK1.out 0).trans (show _ = some (Value.slice A1 l1.length c1) from rfl); have hz3 := (blk_cell BK1.out 1).trans (show _ = some (Value.int .i64 a1) from rfl)) | ((with_reducible refine gate_dst (N := 33) rfl ?_); refine Kd.R_lit (Kd.int .i64) _ 3 ?hg (N := 33) ?hd (xs := ([] : List Int)) (inner := []) (ok := fun _ => True) (okp := fun _ => True) ?hr ?hp (fun _ hk => hk) trivial (Below.refl _ _) (Nat.le_refl _) (by simp) ?_; (case hd => rfl); (case hg => rfl); (case hr => first | (go_simp; done) | (go_simp; rfl)); (case hp => exact (Reps.none _ _)); intro v9 w9 ho hb hg_ hnew_; clear hg_ hnew_; have HO := Aside0.mk (Kd.R_lower ho (below_size HB.out)); have n2_ := Aside0.mk (below_step HB.out hb); clear ho hb HB; have HB := n2_; clear n2_))
          go_ret2
          exact ⟨_, rfl, HO.out, HB.out⟩
      · rw [if_neg cl] at h
        cases h
        have d0 : ((l0.length : Int) == (l1.length : Int)) = false := beq_eq_false_iff_ne.mpr (by omega)
        have d1 : ((l0.length : Int) != (l1.length : Int)) = true := bne_iff_ne.mpr (by omega)
        have d2 : (l0.length == l1.length) = false := beq_eq_false_iff_ne.mpr cl
        clear cl
        go_wp2_with (first | (go_at_call 97; (with_reducible refine (spec_l6Vote.calls k _ _ l0 a0 true _ ?side1 ?side2 HV0.out).mono ?_); (case side1 => exact Kd.C_below HR0.out (by repeat (first | (with_reducible first | exact HB.out | apply below_drew1) | exact HB.out))); (case side2 => exact HC0.out); rintro e w4 ⟨rfl, hb⟩; have n0_ := Aside0.mk ((hb.block w.heap.size (blk_lt BK0.out)).trans BK0.out); have n1_ := Aside0.mk ((hb.block (w.heap.size + 1) (blk_lt BK1.out)).trans BK1.out); have n2_ := Aside0.mk (below_step HB.out hb); clear BK0 BK1 HB hb; have BK0 := n0_; have BK1 := n1_; have HB := n2_; clear n0_ n1_ n2_; have hz0 := (blk_cell BK0.out 0).trans (show _ = some (Value.slice A0 l0.length c0) from rfl); have hz1 := (blk_cell BK0.out 1).trans (show _ = some (Value.int .i64 a0) from rfl); have hz2 := (blk_cell BK1.out 0).trans (show _ = some (Value.slice A1 l1.length c1) from rfl); have hz3 := (blk_cell BK1.out 1).trans (show _ = some (Value.int .i64 a1) from rfl)) | (go_at_call 97; (with_reducible refine (spec_l6Vote.calls k _ _ l1 a1 true _ ?side1 ?side2 HV1.out).mono ?_); (case side1 => exact Kd.C_below HR1.out (by repeat (first | (with_reducible first | exact HB.out | apply below_drew1) | exact HB.out))); (case side2 => exact HC1.out); rintro e w5 ⟨rfl, hb⟩; have n0_ := Aside0.mk ((hb.block w.heap.size (blk_lt BK0.out)).trans BK0.out); have n1_ := Aside0.mk ((hb.block (w.heap.size + 1) (blk_lt BK1.out)).trans BK1.out); have n2_ := Aside0.mk (below_step HB.out hb); clear BK0 BK1 HB hb; have BK0 := n0_; have BK1 := n1_; have HB := n2_; clear n0_ n1_ n2_; have hz0 := (blk_cell BK0.out 0).trans (show _ = some (Value.slice A0 l0.length c0) from rfl); have hz1 := (blk_cell BK0.out 1).trans (show _ = some (Value.int .i64 a0) from rfl); have hz2 := (blk_cell BK1.out 0).trans (show _ = some (Value.slice A1 l1.length c1) from rfl); have hz3 := (blk_cell BK1.out 1).trans (show _ = some (Value.int .i64 a1) from rfl)) | ((with_reducible refine gate_dst (N := 33) rfl ?_); refine Kd.R_lit (Kd.int .i64) _ 3 ?hg (N := 33) ?hd (xs := ([] : List Int)) (inner := []) (ok := fun _ => True) (okp := fun _ => True) ?hr ?hp (fun _ hk => hk) trivial (Below.refl _ _) (Nat.le_refl _) (by simp) ?_; (case hd => rfl); (case hg => rfl); (case hr => first | (go_simp; done) | (go_simp; rfl)); (case hp => exact (Reps.none _ _)); intro v9 w9 ho hb hg_ hnew_; clear hg_ hnew_; have HO := Aside0.mk (Kd.R_lower ho (below_size HB.out)); have n2_ := Aside0.mk (below_step HB.out hb); clear ho hb HB; have HB := n2_; clear n2_))
        go_ret2
        exact ⟨_, rfl, HO.out, HB.out⟩

/-! ### laws_toIntS: function 46 -/
def laws_toIntS.l0 : Nat → List Int → List Int → Int → Option (List Int)
  | 0, _, _, _ => none
  | k + 1, x0, x3, x4 => if x4 < (x0.length : Int) then (if 0 ≤ x4 then (if x4 < (x3.length : Int) then (laws_toIntS.l0 k x0 (x3.set (x4 : Int).toNat (rd x0 x4)) (wrap64 (x4 + 1))) else (none)) else (none)) else (some x3)
def laws_toIntS.f (k : Nat) (l0 : List Int) : Option (List Int) := if 0 ≤ (l0.length : Int) then (if ((l0.length : Int) : Int).toNat ≤ 35184372088832 then (laws_toIntS.l0 k l0 (List.replicate ((l0.length : Int) : Int).toNat 0) 0) else (none)) else (none)
theorem laws_toIntS.mono_l : ∀ k, (∀ y0 y1 y2, LeO (laws_toIntS.l0 k y0 y1 y2) (laws_toIntS.l0 (k + 1) y0 y1 y2))
  | 0 => fun _ _ _ r h => by simp [laws_toIntS.l0] at h
  | k + 1 => by
    have ih0 := laws_toIntS.mono_l k
    · intro y0 y1 y2
      unfold laws_toIntS.l0
      repeat' first
      | (with_reducible exact ih0 _ _ _)
      | (with_reducible exact LeO.refl _)
      | (with_reducible exact LeO.none _)
      | (with_reducible refine LeO.ite ?_ ?_)
      | (with_reducible refine LeO.bind ?_ (fun _ => ?_))
      | exact ih0 _ _ _
      | exact LeO.none _
      | refine LeO.ite ?_ ?_
      | refine LeO.bind ?_ (fun _ => ?_)
theorem laws_toIntS.mono : ∀ a0 k, LeO (laws_toIntS.f k a0) (laws_toIntS.f (k + 1) a0) := by
  intro a0 k
  have ih0 := laws_toIntS.mono_l k
  unfold laws_toIntS.f
  repeat' first
      | (with_reducible exact ih0 _ _ _)
      | (with_reducible exact LeO.refl _)
      | (with_reducible exact LeO.none _)
      | (with_reducible refine LeO.ite ?_ ?_)
      | (with_reducible refine LeO.bind ?_ (fun _ => ?_))
      | exact ih0 _ _ _
      | exact LeO.none _
      | refine LeO.ite ?_ ?_
      | refine LeO.bind ?_ (fun _ => ?_)
set_option maxHeartbeats 8000000 in
set_option maxRecDepth 100000 in
theorem laws_toIntS.calls (k : Nat) (A0 : Option Addr) (c0 : Nat) (l0 : List Int) (r : List Int) (w : World) (hr0 : Kd.C (Kd.int .i64) w A0 l0.length l0) (hc0 : l0.length ≤ c0) (h : laws_toIntS.f k l0 = some r) :
    Calls Try.prog 46 #[.slice A0 l0.length c0] w fun e w' => ∃ v0_ : Value, e = .returned (v0_) ∧ Kd.R (Kd.int .i64) 3 w' w.heap.size (fun _ => True) v0_ r ∧ Below w.heap.size w w' := by
  have HR0 := Aside0.mk hr0
  have HC0 := Aside0.mk hc0
  clear hr0 hc0
  have HB := Aside0.mk (Below.refl w.heap.size w)
  have H : (if 0 ≤ (l0.length : Int) then (if ((l0.length : Int) : Int).toNat ≤ 35184372088832 then (laws_toIntS.l0 k l0 (List.replicate ((l0.length : Int) : Int).toNat 0) 0) else (none)) else (none)) = some r := h
  clear h
  by_cases c2 : 0 ≤ (l0.length : Int)
  · rw [if_pos c2] at H
    have c2b0 := eq_true c2
    have c2b1 : decide (0 ≤ (l0.length : Int)) = true := decide_eq_true c2
    clear c2
    by_cases c3 : ((l0.length : Int) : Int).toNat ≤ 35184372088832
    · rw [if_pos c3] at H
      have c3b0 := eq_true c3
      have c3b1 : decide (((l0.length : Int) : Int).toNat ≤ 35184372088832) = true := decide_eq_true c3
      clear c3
      obtain ⟨y131, hy131⟩ : ∃ y_ : List Int, y_ = (List.replicate ((l0.length : Int) : Int).toNat 0) := ⟨_, rfl⟩
      replace H : (laws_toIntS.l0 k l0 y131 0) = some r := by first | (rw [hy131]; with_reducible exact H) | (have H2_ := (Option.bind_some _ _).symm.trans H; rw [hy131]; with_reducible exact H2_) | (have H2_ := (Option.bind_some _ _).symm.trans H; with_reducible exact H2_) | with_reducible exact H | (rw [hy131]; exact H) | exact H
      have Ny131 := Aside0.mk hy131
      clear hy131
      have H' := Aside0.mk H
      clear H
      go_enter Try.func46, Try.ntmps46
      go_wp2_with (first | ((with_reducible refine gate_dst (N := 7) rfl ?_); refine Kd.R_make (Kd.int .i64) _ 3 rfl (N := 7) rfl 24 _ _ rfl (l0.length : Int) rfl rfl Try.underlying24 (.int .i64 0) 8 info3 rfl (by decide) (by omega) 0 (ok := fun _ => True) (okp := fun _ => True) rfl (fun _ hk => hk) trivial (of_decide_eq_true (by first | (with_reducible assumption) | assumption)) (Nat.le_trans (Nat.mul_le_mul_right _ (of_decide_eq_true (by first | (with_reducible assumption) | assumption) : (l0.length : Int).toNat ≤ 35184372088832)) (by omega)) (Below.refl _ _) (Nat.le_refl _) ?_; intro v132 w4 ho5 hb hg_ hnew_; clear hg_ hnew_; (first | rw [← Ny131.out] at ho5 | (simp only [Int.reduceToNat] at ho5; rw [← Ny131.out] at ho5)); have n0_ := Aside0.mk (Kd.R_lower ho5 (below_size (by repeat (first | (with_reducible first | exact HB.out | apply below_alloc | apply pw_below_drewN | apply below_drew1) | exact HB.out)))); have n1_ := Aside0.mk (below_step (by repeat (first | (with_reducible first | exact HB.out | apply below_alloc | apply pw_below_drewN | apply below_drew1) | exact HB.out)) hb); clear HB; have HO133 := n0_; have HB := n1_; clear n0_ n1_; clear hb ho5))
      go_loopg [4] k (fun kq v4 w' => ∃ (x3_1 : List Int) (x4_1 : Int), v4 = .int .i64 x4_1 ∧ Aside0 (laws_toIntS.l0 kq l0 x3_1 x4_1 = some r) ∧ Aside0 (kq ≤ k) ∧ Aside0 (Kd.R (Kd.int .i64) 3 w' w.heap.size (fun _ => True) v132 x3_1) ∧ Aside0 (Below w.heap.size w w'))
      case atStart => exact ⟨(y131), (0), (by first | rfl | (simp; done) | (simp [*]; done)), H', ⟨Nat.le_refl _⟩, ⟨by (with_reducible repeat (first | apply Kd.R_alloc | apply Kd.R_drewN | apply Kd.R_drew)); exact HO133.out⟩, ⟨by repeat (first | (with_reducible first | exact HB.out | apply below_alloc | apply pw_below_drewN | apply below_drew1) | exact HB.out)⟩⟩
      case round =>
        clear H'
        try clear c2
        try clear c2b0
        try clear c2b1
        try clear p2
        try clear c3
        try clear c3b0
        try clear c3b1
        try clear c4
        obtain ⟨x3_1, x4_1, rfl, HA, HK1, HO_3, HB⟩ := hrel
        cases gk with
        | zero => exact absurd HA.out (by simp [laws_toIntS.l0])
        | succ k1 =>
          have H := HA.out
          clear HA
          simp only [laws_toIntS.l0] at H
          by_cases c6 : x4_1 < (l0.length : Int)
          · rw [if_pos c6] at H
            have c6b0 : decide (x4_1 < (l0.length : Int)) = true := decide_eq_true c6
            clear c6
            by_cases c7 : 0 ≤ x4_1
            · rw [if_pos c7] at H
              have c7b0 : decide (0 ≤ x4_1) = true := decide_eq_true c7
              clear c7
              by_cases c8 : x4_1 < (x3_1.length : Int)
              · rw [if_pos c8] at H
                have c8b0 : decide (x4_1 < (x3_1.length : Int)) = true := decide_eq_true c8
                clear c8
                obtain ⟨y135, hy135⟩ : ∃ y_ : List Int, y_ = (x3_1.set (x4_1 : Int).toNat (rd l0 x4_1)) := ⟨_, rfl⟩
                replace H : (laws_toIntS.l0 k1 l0 y135 (wrap64 (x4_1 + 1))) = some r := by first | (rw [hy135]; with_reducible exact H) | (have H2_ := (Option.bind_some _ _).symm.trans H; rw [hy135]; with_reducible exact H2_) | (have H2_ := (Option.bind_some _ _).symm.trans H; with_reducible exact H2_) | with_reducible exact H | (rw [hy135]; exact H) | exact H
                have Ny135 := Aside0.mk hy135
                clear hy135
                have H' := Aside0.mk H
                clear H
                have p134 : 0 ≤ (x4_1 : Int) := of_decide_eq_true (by first | (with_reducible assumption) | assumption)
                have q134 : x4_1 < (l0.length : Int) := of_decide_eq_true (by first | (with_reducible assumption) | assumption)
                obtain ⟨ad134, e134, hx134_0⟩ := Kd.at_int HR0.out x4_1 p134 q134
                cases e134
                replace hx134_0 := (HB.out.cell (World.block_lt_of_cell? w _ hx134_0)).trans hx134_0
                replace p134 := eq_true p134
                replace q134 := eq_true q134
                have p9 : 0 ≤ (x4_1 : Int) := of_decide_eq_true (by first | (with_reducible assumption) | assumption)
                have q9 : (x4_1 : Int) < ((x3_1.length : Int) : Int) := of_decide_eq_true (by first | (with_reducible assumption) | assumption)
                obtain ⟨go9, co9, eo9, gb9, gl9, cl9, HG9⟩ := Kd.R_form HO_3.out (by omega)
                (first | cases eo9 | (injection eo9 with ea_ en_ ec_; (first | subst ea_ | (injection ea_ with ea_; subst ea_)); subst ec_; clear en_))
                have GB9 := Aside0.mk gb9
                have GG9 := Aside0.mk HG9
                clear gb9 gl9 HG9
                obtain ⟨hx9_0, hf9_0⟩ := Kd.R_celln 0 HO_3.out (x4_1 : Int) p9 q9
                replace p9 := eq_true p9
                replace q9 := eq_true q9
                have HP10 := Kd.R_putg HO_3.out (x4_1 : Int) (rd l0 x4_1)
                go_wp2_with (first | ((with_reducible refine gate_store (t := 3) (p := 20) rfl ?_); refine store_event (t := 3) (p := 20) (v := ?vo_w11) (w1 := (wr.setCell ⟨go9, (x4_1 : Int).toNat, none⟩ (.int .i64 (rd l0 x4_1)))) ?hg ?ho ?hn ?hr ?_; (case ho => rfl); (case hg => rfl); (case hn => rfl); (case hr => first | (go_simp; done) | (go_simp; rfl)); intro w11 hw; have hg : wr.grownBy w11 (some go9) := (by rw [hw]; exact HP10.2); have hp_ : Kd.R (Kd.int .i64) 3 w11 w.heap.size (fun _ => True) (.slice (some ⟨go9, 0, none⟩) x3_1.length co9) y135 := (by rw [hw, Ny135.out]; exact HP10.1); clear HP10; have n0_ := Aside0.mk (hp_); have n1_ := Aside0.mk ((by rw [hw]; exact below_set (HB.out) GB9.out : Below w.heap.size w w11)); clear HO_3; clear HB; have HO_3 := n0_; have HB := n1_; clear n0_ n1_; clear hg hw hp_))
                go_roundg k1
                case measure => have := HK1.out; omega
                case rel => exact ⟨(y135), (wrap64 (x4_1 + 1)), (by first | rfl | (simp; done) | (simp [*]; done)), H', ⟨by have := HK1.out; omega⟩, ⟨by (with_reducible repeat (first | apply Kd.R_alloc | apply Kd.R_drewN | apply Kd.R_drew)); exact HO_3.out⟩, ⟨by repeat (first | (with_reducible first | exact HB.out | apply below_alloc | apply pw_below_drewN | apply below_drew1) | exact HB.out)⟩⟩
              · rw [if_neg c8] at H
                exact absurd H (by simp)
            · rw [if_neg c7] at H
              exact absurd H (by simp)
          · rw [if_neg c6] at H
            have c6b0 : decide (x4_1 < (l0.length : Int)) = false := decide_eq_false c6
            clear c6
            obtain rfl := Option.some.inj H
            go_wp2
            go_ret
            exact ⟨_, by first | rfl | (simp [errW_none, errW_some] <;> rfl) | (simp [*, errW_none, errW_some] <;> rfl), by (with_reducible repeat (first | apply Kd.R_alloc | apply Kd.R_drewN | apply Kd.R_drew)); exact HO_3.out, by repeat (first | (with_reducible first | exact HB.out | apply below_alloc | apply pw_below_drewN | apply below_drew1) | exact HB.out)⟩
    · rw [if_neg c3] at H
      exact absurd H (by simp)
  · rw [if_neg c2] at H
    exact absurd H (by simp)

/-! ### laws_toVote: function 38 -/
def laws_toVote.f (k : Nat) (l0_0 : List Int) (a0_1 : Int) : Option (List Int × Int) := (laws_toIntS.f k l0_0).bind fun t139 => (some (t139, a0_1))
theorem laws_toVote.mono : ∀ a0 a1 k, LeO (laws_toVote.f k a0 a1) (laws_toVote.f (k + 1) a0 a1) := by
  intro a0 a1 k
  unfold laws_toVote.f
  repeat' first
      | (with_reducible exact laws_toIntS.mono _ _)
      | (with_reducible exact LeO.refl _)
      | (with_reducible exact LeO.none _)
      | (with_reducible refine LeO.ite ?_ ?_)
      | (with_reducible refine LeO.bind ?_ (fun _ => ?_))
      | exact laws_toIntS.mono _ _
      | exact LeO.none _
      | refine LeO.ite ?_ ?_
      | refine LeO.bind ?_ (fun _ => ?_)
set_option maxHeartbeats 8000000 in
set_option maxRecDepth 100000 in
theorem laws_toVote.calls (k : Nat) (A0_0 : Option Addr) (c0_0 : Nat) (l0_0 : List Int) (a0_1 : Int) (r1 : List Int) (r2 : Int) (w : World) (hr0_0 : Kd.C (Kd.int .i64) w A0_0 l0_0.length l0_0) (hc0_0 : l0_0.length ≤ c0_0) (h : laws_toVote.f k l0_0 a0_1 = some (r1, r2)) :
    Calls Try.prog 38 #[.agg #[.slice A0_0 l0_0.length c0_0, .int .i64 a0_1]] w fun e w' => ∃ v0_ : Value, e = .returned (.agg #[v0_, .int .i64 r2]) ∧ Kd.R (Kd.int .i64) 3 w' w.heap.size (fun _ => True) v0_ r1 ∧ Below w.heap.size w w' := by
  have hu54 := Try.underlying54
  have hu57 := Try.underlying57
  have HR0_0 := Aside0.mk hr0_0
  have HC0_0 := Aside0.mk hc0_0
  clear hr0_0 hc0_0
  have HB := Aside0.mk (Below.refl w.heap.size w)
  have H : ((laws_toIntS.f k l0_0).bind fun t139 => (some (t139, a0_1))) = some (r1, r2) := h
  clear h
  replace H := Option.bind_eq_some_iff.mp H
  obtain ⟨t139, A20, H⟩ := H
  replace H : (some (t139, a0_1)) = some (r1, r2) := H
  have A2 := Aside0.mk A20
  clear A20
  simp only [Option.some.injEq, Prod.mk.injEq] at H
  obtain ⟨rfl, rfl⟩ := H
  go_enter Try.func38, Try.ntmps38
  go_wp2_with (first | ((with_reducible refine gate_dst (N := 1) rfl ?_); refine box_event ?hg (N := 1) ?hd (cs := #[.slice A0_0 l0_0.length c0_0, .int .i64 a0_1]) (t := 54) ?hr ?_; (case hd => rfl); (case hg => rfl); (case hr => first | (go_simp; done) | (go_simp; rfl)); intro gb136 hg w3 hbox hb; have n0_ := Aside0.mk (below_step (by repeat (first | (with_reducible first | exact HB.out | apply below_alloc | apply pw_below_drewN | apply below_drew1) | exact HB.out)) hb); have n1_ := Aside0.mk (hbox); have n2_ := Aside0.mk ((by rw [hg]; exact (below_size (by repeat (first | (with_reducible first | exact HB.out | apply below_alloc | apply pw_below_drewN | apply below_drew1) | exact HB.out))) : w.heap.size ≤ gb136)); have n3_ := Aside0.mk ((by rw [hg]; exact (below_size (by repeat (first | (with_reducible first | exact HB.out | apply below_alloc | apply pw_below_drewN | apply below_drew1) | exact HB.out))) : w.heap.size ≤ gb136)); clear HB; have HB := n0_; have BK136 := n1_; have GW136 := n2_; have GE136 := n3_; clear n0_ n1_ n2_ n3_; clear hb hbox hg) | ((with_reducible refine gate_dst (N := 2) rfl ?_); refine box_event ?hg (N := 2) ?hd (cs := #[.slice none 0 0, .int .i64 0]) (t := 57) ?hr ?_; (case hd => rfl); (case hg => rfl); (case hr => first | (go_simp; done) | (go_simp; rfl)); intro gb137 hg w4 hbox hb; have n0_ := Aside0.mk (blk_below (g := gb136) (o := .cells #[.slice A0_0 l0_0.length c0_0, .int .i64 a0_1] 54 (0, 0)) (by (with_reducible repeat (first | refine blk_drewN ?_ _ | refine blk_drew ?_ | refine blk_alloc ?_ _)); exact BK136.out) hb); have n1_ := Aside0.mk (below_step (by repeat (first | (with_reducible first | exact HB.out | apply below_alloc | apply pw_below_drewN | apply below_drew1 | refine below_set ?_ GE136.out) | exact HB.out)) hb); have n2_ := Aside0.mk (hbox); have n3_ := Aside0.mk ((by rw [hg]; exact (below_size (by repeat (first | (with_reducible first | exact HB.out | apply below_alloc | apply pw_below_drewN | apply below_drew1 | refine below_set ?_ GE136.out) | exact HB.out))) : w.heap.size ≤ gb137)); have n4_ := Aside0.mk ((by rw [hg]; exact (below_size (by repeat (first | (with_reducible first | exact HB.out | apply below_alloc | apply pw_below_drewN | apply below_drew1 | refine below_set ?_ GE136.out) | exact HB.out))) : w.heap.size ≤ gb137)); have n5_ := Aside0.mk ((by rw [hg]; exact Nat.ne_of_lt (blk_lt (g := gb136) (o := .cells #[.slice A0_0 l0_0.length c0_0, .int .i64 a0_1] 54 (0, 0)) (by (with_reducible repeat (first | refine blk_drewN ?_ _ | refine blk_drew ?_ | refine blk_alloc ?_ _)); exact BK136.out)) : gb136 ≠ gb137)); have n6_ := Aside0.mk ((by rw [hg]; exact Nat.ne_of_gt (blk_lt (g := gb136) (o := .cells #[.slice A0_0 l0_0.length c0_0, .int .i64 a0_1] 54 (0, 0)) (by (with_reducible repeat (first | refine blk_drewN ?_ _ | refine blk_drew ?_ | refine blk_alloc ?_ _)); exact BK136.out)) : gb137 ≠ gb136)); clear BK136; clear HB; have BK136 := n0_; have HB := n1_; have BK137 := n2_; have GW137 := n3_; have GE137 := n4_; have NB136_137 := n5_; have NB137_136 := n6_; clear n0_ n1_ n2_ n3_ n4_ n5_ n6_; clear hb hbox hg) | ((with_reducible refine gate_dst (N := 3) rfl ?_); refine box_event ?hg (N := 3) ?hd (cs := #[.slice none 0 0, .int .i64 0]) (t := 57) ?hr ?_; (case hd => rfl); (case hg => rfl); (case hr => first | (go_simp; done) | (go_simp; rfl)); intro gb138 hg w5 hbox hb; have n0_ := Aside0.mk (blk_below (g := gb136) (o := .cells #[.slice A0_0 l0_0.length c0_0, .int .i64 a0_1] 54 (0, 0)) (by (with_reducible repeat (first | refine blk_drewN ?_ _ | refine blk_drew ?_ | refine blk_alloc ?_ _)); exact BK136.out) hb); have n1_ := Aside0.mk (blk_below (g := gb137) (o := .cells #[.slice none 0 0, .int .i64 0] 57 (0, 0)) (by (with_reducible repeat (first | refine blk_drewN ?_ _ | refine blk_drew ?_ | refine blk_alloc ?_ _)); exact BK137.out) hb); have n2_ := Aside0.mk (below_step (by repeat (first | (with_reducible first | exact HB.out | apply below_alloc | apply pw_below_drewN | apply below_drew1 | refine below_set ?_ GE136.out | refine below_set ?_ GE137.out) | exact HB.out)) hb); have n3_ := Aside0.mk (hbox); have n4_ := Aside0.mk ((by rw [hg]; exact (below_size (by repeat (first | (with_reducible first | exact HB.out | apply below_alloc | apply pw_below_drewN | apply below_drew1 | refine below_set ?_ GE136.out | refine below_set ?_ GE137.out) | exact HB.out))) : w.heap.size ≤ gb138)); have n5_ := Aside0.mk ((by rw [hg]; exact (below_size (by repeat (first | (with_reducible first | exact HB.out | apply below_alloc | apply pw_below_drewN | apply below_drew1 | refine below_set ?_ GE136.out | refine below_set ?_ GE137.out) | exact HB.out))) : w.heap.size ≤ gb138)); have n6_ := Aside0.mk ((by rw [hg]; exact Nat.ne_of_lt (blk_lt (g := gb136) (o := .cells #[.slice A0_0 l0_0.length c0_0, .int .i64 a0_1] 54 (0, 0)) (by (with_reducible repeat (first | refine blk_drewN ?_ _ | refine blk_drew ?_ | refine blk_alloc ?_ _)); exact BK136.out)) : gb136 ≠ gb138)); have n7_ := Aside0.mk ((by rw [hg]; exact Nat.ne_of_gt (blk_lt (g := gb136) (o := .cells #[.slice A0_0 l0_0.length c0_0, .int .i64 a0_1] 54 (0, 0)) (by (with_reducible repeat (first | refine blk_drewN ?_ _ | refine blk_drew ?_ | refine blk_alloc ?_ _)); exact BK136.out)) : gb138 ≠ gb136)); have n8_ := Aside0.mk ((by rw [hg]; exact Nat.ne_of_lt (blk_lt (g := gb137) (o := .cells #[.slice none 0 0, .int .i64 0] 57 (0, 0)) (by (with_reducible repeat (first | refine blk_drewN ?_ _ | refine blk_drew ?_ | refine blk_alloc ?_ _)); exact BK137.out)) : gb137 ≠ gb138)); have n9_ := Aside0.mk ((by rw [hg]; exact Nat.ne_of_gt (blk_lt (g := gb137) (o := .cells #[.slice none 0 0, .int .i64 0] 57 (0, 0)) (by (with_reducible repeat (first | refine blk_drewN ?_ _ | refine blk_drew ?_ | refine blk_alloc ?_ _)); exact BK137.out)) : gb138 ≠ gb137)); clear BK136; clear BK137; clear HB; have BK136 := n0_; have BK137 := n1_; have HB := n2_; have BK138 := n3_; have GW138 := n4_; have GE138 := n5_; have NB136_138 := n6_; have NB138_136 := n7_; have NB137_138 := n8_; have NB138_137 := n9_; clear n0_ n1_ n2_ n3_ n4_ n5_ n6_ n7_ n8_ n9_; clear hb hbox hg; have hnb6 := NB136_137.out; have hnc6 := NB137_136.out; have hnb7 := NB136_138.out; have hnc7 := NB138_136.out; have hcz8_0 : w5.cell? ⟨gb136, 0, none⟩ = some (.slice A0_0 l0_0.length c0_0) := (blk_cell BK136.out 0).trans rfl; have hcz8_1 : w5.cell? ⟨gb136, 1, none⟩ = some (.int .i64 a0_1) := (blk_cell BK136.out 1).trans rfl; have hfz8_0 := blk_frozen BK136.out 0; have hfz8_1 := blk_frozen BK136.out 1) | ((with_reducible refine gate_callee (f := 46) rfl ?_); refine goesL_ (some 6) rfl rfl Try.func46 (by kernel_rfl) rfl #[.slice A0_0 l0_0.length c0_0] rfl (by (try simp only [List.map_toArray, List.map_cons, List.map_nil]); first | done | rfl | (simp only [List.length_drop, List.length_take]; rfl)) ?_; (with_reducible refine (laws_toIntS.calls k _ _ l0_0 t139 _ ?side1 ?side2 A2.out).mono ?_); (case side1 => repeat (first | exact (Kd.C_below HR0_0.out HB.out) | (with_reducible refine Kd.C_alloc ?_ _) | (with_reducible refine Kd.C_drewN ?_ _) | (with_reducible refine Kd.C_drew ?_))); (case side2 => exact HC0_0.out); rintro e w9 ⟨v140, rfl, ho0, hb⟩; refine ⟨_, rfl, ?_⟩; have n0_ := Aside0.mk (Kd.R_lower ho0 (below_size (by repeat (first | (with_reducible first | exact HB.out | apply below_alloc | apply pw_below_drewN | apply below_drew1 | refine below_set ?_ GE136.out | refine below_set ?_ GE137.out | refine below_set ?_ GE138.out) | exact HB.out)))); have n1_ := Aside0.mk (blk_below (g := gb136) (o := .cells #[.slice A0_0 l0_0.length c0_0, .int .i64 a0_1] 54 (0, 0)) (by (with_reducible repeat (first | refine blk_drewN ?_ _ | refine blk_drew ?_ | refine blk_alloc ?_ _)); exact BK136.out) hb); have n2_ := Aside0.mk (blk_below (g := gb137) (o := .cells #[.slice none 0 0, .int .i64 0] 57 (0, 0)) (by (with_reducible repeat (first | refine blk_drewN ?_ _ | refine blk_drew ?_ | refine blk_alloc ?_ _)); exact BK137.out) hb); have n3_ := Aside0.mk (blk_below (g := gb138) (o := .cells #[.slice none 0 0, .int .i64 0] 57 (0, 0)) (by (with_reducible repeat (first | refine blk_drewN ?_ _ | refine blk_drew ?_ | refine blk_alloc ?_ _)); exact BK138.out) hb); have n4_ := Aside0.mk (below_step (by repeat (first | (with_reducible first | exact HB.out | apply below_alloc | apply pw_below_drewN | apply below_drew1 | refine below_set ?_ GE136.out | refine below_set ?_ GE137.out | refine below_set ?_ GE138.out) | exact HB.out)) hb); clear BK136; clear BK137; clear BK138; clear HB; have HO141 := n0_; have BK136 := n1_; have BK137 := n2_; have BK138 := n3_; have HB := n4_; clear n0_ n1_ n2_ n3_ n4_; (try clear hb); (try clear hb2); (try clear hk); (try clear hi); (try clear ho0); obtain ⟨Ao10, co10, eo10⟩ := Kd.R_slice HO141.out; subst eo10; have hnb11 := NB138_137.out; have hnc11 := NB137_138.out; have hcz12_0 : w9.cell? ⟨gb138, 0, none⟩ = some (.slice none 0 0) := (blk_cell BK138.out 0).trans rfl; have hcz12_1 : w9.cell? ⟨gb138, 1, none⟩ = some (.int .i64 0) := (blk_cell BK138.out 1).trans rfl; have hfz12_0 := blk_frozen BK138.out 0; have hfz12_1 := blk_frozen BK138.out 1; have hcz13_0 : w9.cell? ⟨gb136, 0, none⟩ = some (.slice A0_0 l0_0.length c0_0) := (blk_cell BK136.out 0).trans rfl; have hcz13_1 : w9.cell? ⟨gb136, 1, none⟩ = some (.int .i64 a0_1) := (blk_cell BK136.out 1).trans rfl; have hfz13_0 := blk_frozen BK136.out 0; have hfz13_1 := blk_frozen BK136.out 1; have hcz14_0 : w9.cell? ⟨gb137, 0, none⟩ = some (.slice none 0 0) := (blk_cell BK137.out 0).trans rfl; have hcz14_1 : w9.cell? ⟨gb137, 1, none⟩ = some (.int .i64 0) := (blk_cell BK137.out 1).trans rfl; have hfz14_0 := blk_frozen BK137.out 0; have hfz14_1 := blk_frozen BK137.out 1))
  refine bodyPost_ret (results_cell_row rfl _ _ gb137 57 #[.slice Ao10 t139.length co10, .int .i64 a0_1] (0, 0) _ rfl (by (with_reducible repeat (first | refine blk_drewN ?_ _ | refine blk_drew ?_ | refine blk_alloc ?_ _)); refine blk_put (cs := #[.slice Ao10 t139.length co10, .int .i64 0]) ?_ 1 _ rfl; (with_reducible repeat (first | refine blk_drewN ?_ _ | refine blk_drew ?_ | refine blk_alloc ?_ _)); refine blk_put (cs := #[.slice none 0 0, .int .i64 0]) ?_ 0 _ rfl; (with_reducible repeat (first | refine blk_drewN ?_ _ | refine blk_drew ?_ | refine blk_alloc ?_ _)); refine blk_far ?_ NB137_138.out _; (with_reducible repeat (first | refine blk_drewN ?_ _ | refine blk_drew ?_ | refine blk_alloc ?_ _)); refine blk_far ?_ NB137_138.out _; (with_reducible repeat (first | refine blk_drewN ?_ _ | refine blk_drew ?_ | refine blk_alloc ?_ _)); exact BK137.out) Try.underlying57 rfl (by kernel_rfl)) rfl ?_
  exact ⟨_, by first | rfl | (simp [errW_none, errW_some] <;> rfl) | (simp [*, errW_none, errW_some] <;> rfl), by (with_reducible repeat (first | apply Kd.R_alloc | apply Kd.R_drewN | apply Kd.R_drew)); exact Kd.R_mono (Kd.R_far (p := ⟨gb137, 1, none⟩) (Kd.R_far (p := ⟨gb137, 0, none⟩) (Kd.R_far (p := ⟨gb138, 1, none⟩) (Kd.R_far (p := ⟨gb138, 0, none⟩) (Kd.R_types (Kd.R_types HO141.out BK138.out (by decide)) BK137.out (by decide)) (fun _ hk => hk.1.2) (.slice Ao10 t139.length co10)) (fun _ hk => hk.1.2) (.int .i64 a0_1)) (fun _ hk => hk.2) (.slice Ao10 t139.length co10)) (fun _ hk => hk.2) (.int .i64 a0_1)) (fun _ hk => trivial), by repeat (first | (with_reducible first | exact HB.out | apply below_alloc | apply pw_below_drewN | apply below_drew1 | refine below_set ?_ GE136.out | refine below_set ?_ GE137.out | refine below_set ?_ GE138.out) | exact HB.out)⟩

/-! ### impl_within: function 94 -/
def impl_within.f (a0 : Int) (a1 : Int) (a2 : Int) : Option (Bool) := if a0 ≥ a1 then (some (decide (a0 ≤ a2))) else (some false)
set_option maxHeartbeats 8000000 in
set_option maxRecDepth 100000 in
theorem impl_within.calls (a0 : Int) (a1 : Int) (a2 : Int) (r : Bool) (w : World) (h : impl_within.f a0 a1 a2 = some r) :
    Calls Try.prog 94 #[.int .i64 a0, .int .i64 a1, .int .i64 a2] w fun e w' => e = .returned (.bool r) ∧ Drawn0 w w' := by
  have H : (if a0 ≥ a1 then (some (decide (a0 ≤ a2))) else (some false)) = some r := h
  clear h
  by_cases c4 : a0 ≥ a1
  · rw [if_pos c4] at H
    have c4b0 : decide (a1 ≤ a0) = true := decide_eq_true c4
    clear c4
    obtain rfl := Option.some.inj H
    go_enter Try.func94, Try.ntmps94
    go_wp2
    go_ret
    exact ⟨by first | rfl | (simp; done) | (simp [*]; done), by repeat (first | exact Drawn0.refl _ | apply Drawn0.step)⟩
  · rw [if_neg c4] at H
    have c4b0 : decide (a1 ≤ a0) = false := decide_eq_false c4
    clear c4
    obtain rfl := Option.some.inj H
    go_enter Try.func94, Try.ntmps94
    go_wp2
    go_ret
    exact ⟨by first | rfl | (simp; done) | (simp [*]; done), by repeat (first | exact Drawn0.refl _ | apply Drawn0.step)⟩

end Go.Proofs.Ythfkgbkhkahmdaa.PFnExactBothTable
