-- Laid for this claim by a program of the session's own (wip/tool/myprint.py).
import Derived.Test.YthfkgbkhkahmdaaMFnExactVoteOfx0
import Derived.Test.YthfkgbkhkahmdaaMFnExactVoteOfx1
import Derived.Test.YthfkgbkhkahmdaaMFnExactVoteOfx4
import Derived.Test.YthfkgbkhkahmdaaMFnExactVoteOfx7
namespace Go.Proofs.Ythfkgbkhkahmdaa.PFnExactVoteOf
open Go.RowKit Go.Proofs.YthfkgbkhkahmdaaW.PrintWords Go.Proofs.YthfkgbkhkahmdaaW.PrintLast Go.Proofs.YthfkgbkhkahmdaaW.PrintMore
attribute [local go_sem] max2_int min2_int max_two min_two max_three min_three max_four min_four   -- for this text's walks alone
set_option linter.unusedVariables false
set_option linter.unusedSimpArgs false

/-! ### laws_FnExactVoteOf: function 10 -/
mutual
def laws_FnExactVoteOf.j0 : Nat → Int → List Int → Bool → List Int → Bool → Bool → List Int → Int → List Int → Int → Option (Bool)
  | 0, _, _, _, _, _, _, _, _, _, _ => none
  | k + 1, x0, x1, x6, x7, x9, x41, x240000, x240001, x249000, x249001 => if x41 = true then (some false) else ((laws_toIntS.f k x1).bind fun t250 => ((laws_eqIntS.f k x7 t250).bind fun t253 => (if t253 = true then ((laws_markIntS.f k x7 1).bind fun bt254 => (if bt254.1 < 0 then (laws_FnExactVoteOf.j1 k x0 x1 x6 true x240000 x240001 x249000 x249001) else ((laws_eqVote.f k x249000 x249001 x240000 x240001).bind fun t256 => (if t256 = true then (laws_FnExactVoteOf.j1 k x0 x1 x6 (x9 != x6) x240000 x240001 x249000 x249001) else (laws_FnExactVoteOf.j1 k x0 x1 x6 true x240000 x240001 x249000 x249001))))) else (some false))))
def laws_FnExactVoteOf.j1 : Nat → Int → List Int → Bool → Bool → List Int → Int → List Int → Int → Option (Bool)
  | 0, _, _, _, _, _, _, _, _ => none
  | k + 1, x0, x1, x6, x62, x240000, x240001, x249000, x249001 => if x62 = true then (some false) else ((laws_markVote.f k x249000 x249001 1).bind fun bt257 => ((laws_heldVote.f k bt257.2 x249001 1).bind fun t259 => (if t259 < 0 then (some false) else (if t259 = bt257.1 then ((laws_toIntS.f k x1).bind fun t260 => ((impl_VoteOf.f k x0 t260).bind fun bt263 => ((laws_eqVote.f k bt263.1 bt263.2.1 x240000 x240001).bind fun t269 => (if t269 = true then (laws_FnExactVoteOf.j2 k bt257.1 (bt263.2.2 != x6) bt257.2 x249001) else (laws_FnExactVoteOf.j2 k bt257.1 true bt257.2 x249001))))) else (some false)))))
def laws_FnExactVoteOf.j2 : Nat → Int → Bool → List Int → Int → Option (Bool)
  | 0, _, _, _, _ => none
  | k + 1, x11, x89, x249000, x249001 => if x89 = true then (some false) else ((laws_heldVote.f k x249000 x249001 1).bind fun t270 => (if t270 < 0 then (some false) else (if t270 = x11 then (some true) else (some false))))
end
def laws_FnExactVoteOf.f (k : Nat) (a0 : Int) (l1 : List Int) : Option (Bool) := if (l1.length : Int) > 1048576 then (some true) else ((laws_toIntS.f k l1).bind fun t231 => ((spec_VoteOf.f k a0 t231).bind fun bt234 => ((laws_toIntS.f k l1).bind fun t240 => ((impl_VoteOf.f k a0 t240).bind fun bt243 => ((laws_eqVote.f k bt243.1 bt243.2.1 bt234.1 bt234.2.1).bind fun t249 => (if t249 = true then (laws_FnExactVoteOf.j0 k a0 l1 bt234.2.2 t240 bt243.2.2 (bt243.2.2 != bt234.2.2) bt234.1 bt234.2.1 bt243.1 bt243.2.1) else (laws_FnExactVoteOf.j0 k a0 l1 bt234.2.2 t240 bt243.2.2 true bt234.1 bt234.2.1 bt243.1 bt243.2.1)))))))
theorem laws_FnExactVoteOf.mono_l : ∀ k, (∀ y0 y1 y2 y3 y4 y5 y6 y7 y8 y9, LeO (laws_FnExactVoteOf.j0 k y0 y1 y2 y3 y4 y5 y6 y7 y8 y9) (laws_FnExactVoteOf.j0 (k + 1) y0 y1 y2 y3 y4 y5 y6 y7 y8 y9)) ∧ (∀ y0 y1 y2 y3 y4 y5 y6 y7, LeO (laws_FnExactVoteOf.j1 k y0 y1 y2 y3 y4 y5 y6 y7) (laws_FnExactVoteOf.j1 (k + 1) y0 y1 y2 y3 y4 y5 y6 y7)) ∧ (∀ y0 y1 y2 y3, LeO (laws_FnExactVoteOf.j2 k y0 y1 y2 y3) (laws_FnExactVoteOf.j2 (k + 1) y0 y1 y2 y3))
  | 0 => ⟨fun _ _ _ _ _ _ _ _ _ _ r h => by simp [laws_FnExactVoteOf.j0] at h, fun _ _ _ _ _ _ _ _ r h => by simp [laws_FnExactVoteOf.j1] at h, fun _ _ _ _ r h => by simp [laws_FnExactVoteOf.j2] at h⟩
  | k + 1 => by
    obtain ⟨ih0, ih1, ih2⟩ := laws_FnExactVoteOf.mono_l k
    refine ⟨?_, ?_, ?_⟩
    · intro y0 y1 y2 y3 y4 y5 y6 y7 y8 y9
      unfold laws_FnExactVoteOf.j0
      repeat' first
      | (with_reducible exact ih0 _ _ _ _ _ _ _ _ _ _)
      | (with_reducible exact ih1 _ _ _ _ _ _ _ _)
      | (with_reducible exact ih2 _ _ _ _)
      | (with_reducible exact impl_VoteOf.mono _ _ _)
      | (with_reducible exact laws_eqIntS.mono _ _ _)
      | (with_reducible exact laws_eqVote.mono _ _ _ _ _)
      | (with_reducible exact laws_heldVote.mono _ _ _ _)
      | (with_reducible exact laws_markIntS.mono _ _ _)
      | (with_reducible exact laws_markVote.mono _ _ _ _)
      | (with_reducible exact laws_toIntS.mono _ _)
      | (with_reducible exact spec_VoteOf.mono _ _ _)
      | (with_reducible exact LeO.refl _)
      | (with_reducible exact LeO.none _)
      | (with_reducible refine LeO.ite ?_ ?_)
      | (with_reducible refine LeO.bind ?_ (fun _ => ?_))
      | exact ih0 _ _ _ _ _ _ _ _ _ _
      | exact ih1 _ _ _ _ _ _ _ _
      | exact ih2 _ _ _ _
      | exact impl_VoteOf.mono _ _ _
      | exact laws_eqIntS.mono _ _ _
      | exact laws_eqVote.mono _ _ _ _ _
      | exact laws_heldVote.mono _ _ _ _
      | exact laws_markIntS.mono _ _ _
      | exact laws_markVote.mono _ _ _ _
      | exact laws_toIntS.mono _ _
      | exact spec_VoteOf.mono _ _ _
      | exact LeO.none _
      | refine LeO.ite ?_ ?_
      | refine LeO.bind ?_ (fun _ => ?_)
    · intro y0 y1 y2 y3 y4 y5 y6 y7
      unfold laws_FnExactVoteOf.j1
      repeat' first
      | (with_reducible exact ih0 _ _ _ _ _ _ _ _ _ _)
      | (with_reducible exact ih1 _ _ _ _ _ _ _ _)
      | (with_reducible exact ih2 _ _ _ _)
      | (with_reducible exact impl_VoteOf.mono _ _ _)
      | (with_reducible exact laws_eqIntS.mono _ _ _)
      | (with_reducible exact laws_eqVote.mono _ _ _ _ _)
      | (with_reducible exact laws_heldVote.mono _ _ _ _)
      | (with_reducible exact laws_markIntS.mono _ _ _)
      | (with_reducible exact laws_markVote.mono _ _ _ _)
      | (with_reducible exact laws_toIntS.mono _ _)
      | (with_reducible exact spec_VoteOf.mono _ _ _)
      | (with_reducible exact LeO.refl _)
      | (with_reducible exact LeO.none _)
      | (with_reducible refine LeO.ite ?_ ?_)
      | (with_reducible refine LeO.bind ?_ (fun _ => ?_))
      | exact ih0 _ _ _ _ _ _ _ _ _ _
      | exact ih1 _ _ _ _ _ _ _ _
      | exact ih2 _ _ _ _
      | exact impl_VoteOf.mono _ _ _
      | exact laws_eqIntS.mono _ _ _
      | exact laws_eqVote.mono _ _ _ _ _
      | exact laws_heldVote.mono _ _ _ _
      | exact laws_markIntS.mono _ _ _
      | exact laws_markVote.mono _ _ _ _
      | exact laws_toIntS.mono _ _
      | exact spec_VoteOf.mono _ _ _
      | exact LeO.none _
      | refine LeO.ite ?_ ?_
      | refine LeO.bind ?_ (fun _ => ?_)
    · intro y0 y1 y2 y3
      unfold laws_FnExactVoteOf.j2
      repeat' first
      | (with_reducible exact ih0 _ _ _ _ _ _ _ _ _ _)
      | (with_reducible exact ih1 _ _ _ _ _ _ _ _)
      | (with_reducible exact ih2 _ _ _ _)
      | (with_reducible exact impl_VoteOf.mono _ _ _)
      | (with_reducible exact laws_eqIntS.mono _ _ _)
      | (with_reducible exact laws_eqVote.mono _ _ _ _ _)
      | (with_reducible exact laws_heldVote.mono _ _ _ _)
      | (with_reducible exact laws_markIntS.mono _ _ _)
      | (with_reducible exact laws_markVote.mono _ _ _ _)
      | (with_reducible exact laws_toIntS.mono _ _)
      | (with_reducible exact spec_VoteOf.mono _ _ _)
      | (with_reducible exact LeO.refl _)
      | (with_reducible exact LeO.none _)
      | (with_reducible refine LeO.ite ?_ ?_)
      | (with_reducible refine LeO.bind ?_ (fun _ => ?_))
      | exact ih0 _ _ _ _ _ _ _ _ _ _
      | exact ih1 _ _ _ _ _ _ _ _
      | exact ih2 _ _ _ _
      | exact impl_VoteOf.mono _ _ _
      | exact laws_eqIntS.mono _ _ _
      | exact laws_eqVote.mono _ _ _ _ _
      | exact laws_heldVote.mono _ _ _ _
      | exact laws_markIntS.mono _ _ _
      | exact laws_markVote.mono _ _ _ _
      | exact laws_toIntS.mono _ _
      | exact spec_VoteOf.mono _ _ _
      | exact LeO.none _
      | refine LeO.ite ?_ ?_
      | refine LeO.bind ?_ (fun _ => ?_)
theorem laws_FnExactVoteOf.mono : ∀ a0 a1 k, LeO (laws_FnExactVoteOf.f k a0 a1) (laws_FnExactVoteOf.f (k + 1) a0 a1) := by
  intro a0 a1 k
  obtain ⟨ih0, ih1, ih2⟩ := laws_FnExactVoteOf.mono_l k
  unfold laws_FnExactVoteOf.f
  repeat' first
      | (with_reducible exact ih0 _ _ _ _ _ _ _ _ _ _)
      | (with_reducible exact ih1 _ _ _ _ _ _ _ _)
      | (with_reducible exact ih2 _ _ _ _)
      | (with_reducible exact impl_VoteOf.mono _ _ _)
      | (with_reducible exact laws_eqIntS.mono _ _ _)
      | (with_reducible exact laws_eqVote.mono _ _ _ _ _)
      | (with_reducible exact laws_heldVote.mono _ _ _ _)
      | (with_reducible exact laws_markIntS.mono _ _ _)
      | (with_reducible exact laws_markVote.mono _ _ _ _)
      | (with_reducible exact laws_toIntS.mono _ _)
      | (with_reducible exact spec_VoteOf.mono _ _ _)
      | (with_reducible exact LeO.refl _)
      | (with_reducible exact LeO.none _)
      | (with_reducible refine LeO.ite ?_ ?_)
      | (with_reducible refine LeO.bind ?_ (fun _ => ?_))
      | exact ih0 _ _ _ _ _ _ _ _ _ _
      | exact ih1 _ _ _ _ _ _ _ _
      | exact ih2 _ _ _ _
      | exact impl_VoteOf.mono _ _ _
      | exact laws_eqIntS.mono _ _ _
      | exact laws_eqVote.mono _ _ _ _ _
      | exact laws_heldVote.mono _ _ _ _
      | exact laws_markIntS.mono _ _ _
      | exact laws_markVote.mono _ _ _ _
      | exact laws_toIntS.mono _ _
      | exact spec_VoteOf.mono _ _ _
      | exact LeO.none _
      | refine LeO.ite ?_ ?_
      | refine LeO.bind ?_ (fun _ => ?_)
set_option maxHeartbeats 8000000 in
set_option maxRecDepth 100000 in
theorem laws_FnExactVoteOf.calls (k : Nat) (a0 : Int) (A1 : Option Addr) (c1 : Nat) (l1 : List Int) (r : Bool) (w : World) (hr1 : Kd.C (Kd.int .i64) w A1 l1.length l1) (hc1 : l1.length ≤ c1) (h : laws_FnExactVoteOf.f k a0 l1 = some r) :
    Calls Try.prog 10 #[.int .i64 a0, .slice A1 l1.length c1] w fun e w' => e = .returned (.bool r) ∧ Below w.heap.size w w' := by
  have hu57 := Try.underlying57
  have HR1 := Aside0.mk hr1
  have HC1 := Aside0.mk hc1
  clear hr1 hc1
  have HB := Aside0.mk (Below.refl w.heap.size w)
  have H : (if (l1.length : Int) > 1048576 then (some true) else ((laws_toIntS.f k l1).bind fun t231 => ((spec_VoteOf.f k a0 t231).bind fun bt234 => ((laws_toIntS.f k l1).bind fun t240 => ((impl_VoteOf.f k a0 t240).bind fun bt243 => ((laws_eqVote.f k bt243.1 bt243.2.1 bt234.1 bt234.2.1).bind fun t249 => (if t249 = true then (laws_FnExactVoteOf.j0 k a0 l1 bt234.2.2 t240 bt243.2.2 (bt243.2.2 != bt234.2.2) bt234.1 bt234.2.1 bt243.1 bt243.2.1) else (laws_FnExactVoteOf.j0 k a0 l1 bt234.2.2 t240 bt243.2.2 true bt234.1 bt234.2.1 bt243.1 bt243.2.1)))))))) = some r := h
  clear h
  by_cases c3 : (l1.length : Int) > 1048576
  · rw [if_pos c3] at H
    have c3b0 : decide (1048576 < (l1.length : Int)) = true := decide_eq_true c3
    have c3b1 : decide (1048576 < l1.length) = true := decide_eq_true (by omega)
    clear c3
    obtain rfl := Option.some.inj H
    go_enter Try.func10, Try.ntmps10
    go_wp2
    go_ret
    exact ⟨by first | rfl | (simp [errW_none, errW_some] <;> rfl) | (simp [*, errW_none, errW_some] <;> rfl), by repeat (first | (with_reducible first | exact HB.out | apply below_alloc | apply pw_below_drewN | apply below_drew1) | exact HB.out)⟩
  · rw [if_neg c3] at H
    have c3b0 : decide (1048576 < (l1.length : Int)) = false := decide_eq_false c3
    have c3b1 : decide (1048576 < l1.length) = false := decide_eq_false (by omega)
    clear c3
    replace H := Option.bind_eq_some_iff.mp H
    obtain ⟨t231, A40, H⟩ := H
    replace H : ((spec_VoteOf.f k a0 t231).bind fun bt234 => ((laws_toIntS.f k l1).bind fun t240 => ((impl_VoteOf.f k a0 t240).bind fun bt243 => ((laws_eqVote.f k bt243.1 bt243.2.1 bt234.1 bt234.2.1).bind fun t249 => (if t249 = true then (laws_FnExactVoteOf.j0 k a0 l1 bt234.2.2 t240 bt243.2.2 (bt243.2.2 != bt234.2.2) bt234.1 bt234.2.1 bt243.1 bt243.2.1) else (laws_FnExactVoteOf.j0 k a0 l1 bt234.2.2 t240 bt243.2.2 true bt234.1 bt234.2.1 bt243.1 bt243.2.1)))))) = some r := H
    have A4 := Aside0.mk A40
    clear A40
    replace H := Option.bind_eq_some_iff.mp H
    obtain ⟨⟨t234, t237, t238⟩, A50, H⟩ := H
    replace H : ((laws_toIntS.f k l1).bind fun t240 => ((impl_VoteOf.f k a0 t240).bind fun bt243 => ((laws_eqVote.f k bt243.1 bt243.2.1 t234 t237).bind fun t249 => (if t249 = true then (laws_FnExactVoteOf.j0 k a0 l1 t238 t240 bt243.2.2 (bt243.2.2 != t238) t234 t237 bt243.1 bt243.2.1) else (laws_FnExactVoteOf.j0 k a0 l1 t238 t240 bt243.2.2 true t234 t237 bt243.1 bt243.2.1))))) = some r := H
    have A5 := Aside0.mk A50
    clear A50
    replace H := Option.bind_eq_some_iff.mp H
    obtain ⟨t240, A60, H⟩ := H
    replace H : ((impl_VoteOf.f k a0 t240).bind fun bt243 => ((laws_eqVote.f k bt243.1 bt243.2.1 t234 t237).bind fun t249 => (if t249 = true then (laws_FnExactVoteOf.j0 k a0 l1 t238 t240 bt243.2.2 (bt243.2.2 != t238) t234 t237 bt243.1 bt243.2.1) else (laws_FnExactVoteOf.j0 k a0 l1 t238 t240 bt243.2.2 true t234 t237 bt243.1 bt243.2.1)))) = some r := H
    have A6 := Aside0.mk A60
    clear A60
    replace H := Option.bind_eq_some_iff.mp H
    obtain ⟨⟨t243, t246, t247⟩, A70, H⟩ := H
    replace H : ((laws_eqVote.f k t243 t246 t234 t237).bind fun t249 => (if t249 = true then (laws_FnExactVoteOf.j0 k a0 l1 t238 t240 t247 (t247 != t238) t234 t237 t243 t246) else (laws_FnExactVoteOf.j0 k a0 l1 t238 t240 t247 true t234 t237 t243 t246))) = some r := H
    have A7 := Aside0.mk A70
    clear A70
    have HC8 := Aside0.mk H
    clear H
    go_enter Try.func10, Try.ntmps10
    go_upto_region 6 with (first | ((with_reducible refine gate_callee (f := 46) rfl ?_); refine goesL_ (some 21) rfl rfl Try.func46 (by kernel_rfl) rfl #[.slice A1 l1.length c1] rfl (by (try simp only [List.map_toArray, List.map_cons, List.map_nil]); first | done | rfl | (simp only [List.length_drop, List.length_take]; rfl)) ?_; (with_reducible refine (laws_toIntS.calls k _ _ l1 t231 _ ?side1 ?side2 A4.out).mono ?_); (case side1 => repeat (first | exact HR1.out | (with_reducible refine Kd.C_alloc ?_ _) | (with_reducible refine Kd.C_drewN ?_ _) | (with_reducible refine Kd.C_drew ?_))); (case side2 => exact HC1.out); rintro e w9 ⟨v232, rfl, ho0, hb⟩; refine ⟨_, rfl, ?_⟩; have n0_ := Aside0.mk (Kd.R_lower ho0 (below_size (by repeat (first | (with_reducible first | exact HB.out | apply below_alloc | apply pw_below_drewN | apply below_drew1) | exact HB.out)))); have n1_ := Aside0.mk (below_step (by repeat (first | (with_reducible first | exact HB.out | apply below_alloc | apply pw_below_drewN | apply below_drew1) | exact HB.out)) hb); clear HB; have HO233 := n0_; have HB := n1_; clear n0_ n1_; (try clear hb); (try clear hb2); (try clear hk); (try clear hi); (try clear ho0); obtain ⟨Ao10, co10, eo10⟩ := Kd.R_slice HO233.out; subst eo10) | ((with_reducible refine gate_callee (f := 50) rfl ?_); refine goesL_ (some 22) rfl rfl Try.func50 (by kernel_rfl) rfl #[.int .i64 a0, .slice Ao10 t231.length co10] rfl (by (try simp only [List.map_toArray, List.map_cons, List.map_nil]); first | done | rfl | (simp only [List.length_drop, List.length_take]; rfl)) ?_; (with_reducible refine (spec_VoteOf.calls k a0 _ _ t231 t234 t237 t238 _ ?side1 ?side2 A5.out).mono ?_); (case side1 => repeat (first | exact (Kd.R_reads' HO233.out).2.2 | (with_reducible refine Kd.C_alloc ?_ _) | (with_reducible refine Kd.C_drewN ?_ _) | (with_reducible refine Kd.C_drew ?_))); (case side2 => exact (Kd.R_reads' HO233.out).2.1); rintro e w11 ⟨v235, rfl, ho0, hb⟩; refine ⟨_, rfl, ?_⟩; have n0_ := Aside0.mk (Kd.R_below (by (with_reducible repeat (first | apply Kd.R_alloc | apply Kd.R_drewN | apply Kd.R_drew)); exact HO233.out) hb); have n1_ := Aside0.mk (Kd.V_lower (Kd.V_mono (ok' := fun k_ => some k_ ≠ (.slice Ao10 t231.length co10 : Value).ownBlock) ho0 (fun k_ hk_ => (Kd.fresh' (Kd.R_lt (by (with_reducible repeat (first | apply Kd.R_alloc | apply Kd.R_drewN | apply Kd.R_drew)); exact HO233.out)) k_ hk_))) (below_size (by repeat (first | (with_reducible first | exact HB.out | apply below_alloc | apply pw_below_drewN | apply below_drew1) | exact HB.out)))); have n2_ := Aside0.mk (below_step (by repeat (first | (with_reducible first | exact HB.out | apply below_alloc | apply pw_below_drewN | apply below_drew1) | exact HB.out)) hb); clear HO233; clear HB; have HO233 := n0_; have HO236 := n1_; have HB := n2_; clear n0_ n1_ n2_; (try clear hb); (try clear hb2); (try clear hk); (try clear hi); (try clear ho0)) | ((with_reducible refine gate_dst (N := 5) rfl ?_); refine box_event ?hg (N := 5) ?hd (cs := #[.slice none 0 0, .int .i64 0]) (t := 57) ?hr ?_; (case hd => rfl); (case hg => rfl); (case hr => first | (go_simp; done) | (go_simp; rfl)); intro gb239 hg w12 hbox hb; have n0_ := Aside0.mk (Kd.R_below (by (with_reducible repeat (first | apply Kd.R_alloc | apply Kd.R_drewN | apply Kd.R_drew)); exact HO233.out) hb); have n1_ := Aside0.mk (Kd.V_below (Kd.V_elderB (by (with_reducible repeat (first | apply Kd.V_alloc | apply Kd.V_drewN | apply Kd.V_drew)); exact HO236.out) gb239 (Nat.le_of_eq hg.symm)) hb); have n2_ := Aside0.mk (below_step (by repeat (first | (with_reducible first | exact HB.out | apply below_alloc | apply pw_below_drewN | apply below_drew1) | exact HB.out)) hb); have n3_ := Aside0.mk (hbox); have n4_ := Aside0.mk ((by rw [hg]; exact (below_size (by repeat (first | (with_reducible first | exact HB.out | apply below_alloc | apply pw_below_drewN | apply below_drew1) | exact HB.out))) : w.heap.size ≤ gb239)); have n5_ := Aside0.mk ((by rw [hg]; exact (below_size (by repeat (first | (with_reducible first | exact HB.out | apply below_alloc | apply pw_below_drewN | apply below_drew1) | exact HB.out))) : w.heap.size ≤ gb239)); clear HO233; clear HO236; clear HB; have HO233 := n0_; have HO236 := n1_; have HB := n2_; have BK239 := n3_; have GW239 := n4_; have GE239 := n5_; clear n0_ n1_ n2_ n3_ n4_ n5_; clear hb hbox hg; obtain ⟨Ao13, co13, eo13⟩ := Kd.V_slice HO236.out; subst eo13; have hcz14_0 : w12.cell? ⟨gb239, 0, none⟩ = some (.slice none 0 0) := (blk_cell BK239.out 0).trans rfl; have hcz14_1 : w12.cell? ⟨gb239, 1, none⟩ = some (.int .i64 0) := (blk_cell BK239.out 1).trans rfl; have hfz14_0 := blk_frozen BK239.out 0; have hfz14_1 := blk_frozen BK239.out 1) | ((with_reducible refine gate_callee (f := 46) rfl ?_); refine goesL_ (some 26) rfl rfl Try.func46 (by kernel_rfl) rfl #[.slice A1 l1.length c1] rfl (by (try simp only [List.map_toArray, List.map_cons, List.map_nil]); first | done | rfl | (simp only [List.length_drop, List.length_take]; rfl)) ?_; (with_reducible refine (laws_toIntS.calls k _ _ l1 t240 _ ?side1 ?side2 A6.out).mono ?_); (case side1 => exact Kd.C_below HR1.out (by repeat (first | (with_reducible first | exact HB.out | apply below_alloc | apply pw_below_drewN | apply below_drew1 | refine below_set ?_ GE239.out) | exact HB.out))); (case side2 => exact HC1.out); rintro e w15 ⟨v241, rfl, ho0, hb⟩; refine ⟨_, rfl, ?_⟩; have n0_ := Aside0.mk (Kd.R_elder' (by (with_reducible repeat (first | apply Kd.R_alloc | apply Kd.R_drewN | apply Kd.R_drew)); exact (Kd.R_mono (Kd.R_far (p := ⟨gb239, 1, none⟩) (Kd.R_far (p := ⟨gb239, 0, none⟩) (Kd.R_types HO233.out BK239.out (by decide)) (fun _ hk => hk.2) (.slice Ao13 t234.length co13)) (fun _ hk => hk.2) (.int .i64 t237)) (fun _ h_ => h_.1))) (Kd.R_base ho0) hb); have n1_ := Aside0.mk (Kd.V_elder' (by (with_reducible repeat (first | apply Kd.V_alloc | apply Kd.V_drewN | apply Kd.V_drew)); exact (Kd.V_mono (Kd.V_far (p := ⟨gb239, 1, none⟩) (Kd.V_far (p := ⟨gb239, 0, none⟩) (Kd.V_mono HO236.out (fun k_ hk => (⟨hk, hk.2⟩ : _ ∧ k_ ≠ gb239))) (fun _ hk => hk.2) (.slice Ao13 t234.length co13)) (fun _ hk => hk.2) (.int .i64 t237)) (fun _ h_ => h_.1))) (Kd.R_base ho0) hb); have n2_ := Aside0.mk (Kd.R_lower (Kd.R_new' ho0 (Kd.R_lt (by (with_reducible repeat (first | apply Kd.R_alloc | apply Kd.R_drewN | apply Kd.R_drew)); exact (Kd.R_mono (Kd.R_far (p := ⟨gb239, 1, none⟩) (Kd.R_far (p := ⟨gb239, 0, none⟩) (Kd.R_types HO233.out BK239.out (by decide)) (fun _ hk => hk.2) (.slice Ao13 t234.length co13)) (fun _ hk => hk.2) (.int .i64 t237)) (fun _ h_ => h_.1))))) (below_size (by repeat (first | (with_reducible first | exact HB.out | apply below_alloc | apply pw_below_drewN | apply below_drew1 | refine below_set ?_ GE239.out) | exact HB.out)))); have n3_ := Aside0.mk (blk_below (g := gb239) (o := .cells #[.slice Ao13 t234.length co13, .int .i64 t237] 57 (0, 0)) (by (with_reducible repeat (first | refine blk_drewN ?_ _ | refine blk_drew ?_ | refine blk_alloc ?_ _)); refine blk_put (cs := #[.slice Ao13 t234.length co13, .int .i64 0]) ?_ 1 _ rfl; (with_reducible repeat (first | refine blk_drewN ?_ _ | refine blk_drew ?_ | refine blk_alloc ?_ _)); refine blk_put (cs := #[.slice none 0 0, .int .i64 0]) ?_ 0 _ rfl; (with_reducible repeat (first | refine blk_drewN ?_ _ | refine blk_drew ?_ | refine blk_alloc ?_ _)); exact BK239.out) hb); have n4_ := Aside0.mk (below_step (by repeat (first | (with_reducible first | exact HB.out | apply below_alloc | apply pw_below_drewN | apply below_drew1 | refine below_set ?_ GE239.out) | exact HB.out)) hb); clear HO233; clear HO236; clear BK239; clear HB; have HO233 := n0_; have HO236 := n1_; have HO242 := n2_; have BK239 := n3_; have HB := n4_; clear n0_ n1_ n2_ n3_ n4_; (try clear hb); (try clear hb2); (try clear hk); (try clear hi); (try clear ho0); obtain ⟨Ao16, co16, eo16⟩ := Kd.R_slice HO242.out; subst eo16) | ((with_reducible refine gate_callee (f := 51) rfl ?_); refine goesL_ (some 30) rfl rfl Try.func51 (by kernel_rfl) rfl #[.int .i64 a0, .slice Ao16 t240.length co16] rfl (by (try simp only [List.map_toArray, List.map_cons, List.map_nil]); first | done | rfl | (simp only [List.length_drop, List.length_take]; rfl)) ?_; (with_reducible refine (impl_VoteOf.calls k a0 _ _ t240 t243 t246 t247 _ ?side1 ?side2 A7.out).mono ?_); (case side1 => repeat (first | exact (Kd.R_reads' HO242.out).2.2 | (with_reducible refine Kd.C_alloc ?_ _) | (with_reducible refine Kd.C_drewN ?_ _) | (with_reducible refine Kd.C_drew ?_))); (case side2 => exact (Kd.R_reads' HO242.out).2.1); rintro e w17 ⟨v244, rfl, ho0, hb⟩; refine ⟨_, rfl, ?_⟩; have n0_ := Aside0.mk (Kd.R_elder' (by (with_reducible repeat (first | apply Kd.R_alloc | apply Kd.R_drewN | apply Kd.R_drew)); exact HO233.out) (Kd.R_base ho0) hb); have n1_ := Aside0.mk (Kd.V_elder' (by (with_reducible repeat (first | apply Kd.V_alloc | apply Kd.V_drewN | apply Kd.V_drew)); exact HO236.out) (Kd.R_base ho0) hb); have n2_ := Aside0.mk (Kd.R_elder' (by (with_reducible repeat (first | apply Kd.R_alloc | apply Kd.R_drewN | apply Kd.R_drew)); exact HO242.out) (Kd.R_base ho0) hb); have n3_ := Aside0.mk (Kd.R_lower (Kd.R_new' (Kd.R_new' ho0 (Kd.R_lt (by (with_reducible repeat (first | apply Kd.R_alloc | apply Kd.R_drewN | apply Kd.R_drew)); exact HO233.out))) (Kd.R_lt (by (with_reducible repeat (first | apply Kd.R_alloc | apply Kd.R_drewN | apply Kd.R_drew)); exact HO242.out))) (below_size (by repeat (first | (with_reducible first | exact HB.out | apply below_alloc | apply pw_below_drewN | apply below_drew1 | refine below_set ?_ GE239.out) | exact HB.out)))); have n4_ := Aside0.mk (blk_below (g := gb239) (o := .cells #[.slice Ao13 t234.length co13, .int .i64 t237] 57 (0, 0)) (by (with_reducible repeat (first | refine blk_drewN ?_ _ | refine blk_drew ?_ | refine blk_alloc ?_ _)); exact BK239.out) hb); have n5_ := Aside0.mk (below_step (by repeat (first | (with_reducible first | exact HB.out | apply below_alloc | apply pw_below_drewN | apply below_drew1 | refine below_set ?_ GE239.out) | exact HB.out)) hb); clear HO233; clear HO236; clear HO242; clear BK239; clear HB; have HO233 := n0_; have HO236 := n1_; have HO242 := n2_; have HO245 := n3_; have BK239 := n4_; have HB := n5_; clear n0_ n1_ n2_ n3_ n4_ n5_; (try clear hb); (try clear hb2); (try clear hk); (try clear hi); (try clear ho0)) | ((with_reducible refine gate_dst (N := 8) rfl ?_); refine box_event ?hg (N := 8) ?hd (cs := #[.slice none 0 0, .int .i64 0]) (t := 57) ?hr ?_; (case hd => rfl); (case hg => rfl); (case hr => first | (go_simp; done) | (go_simp; rfl)); intro gb248 hg w18 hbox hb; have n0_ := Aside0.mk (Kd.R_below (by (with_reducible repeat (first | apply Kd.R_alloc | apply Kd.R_drewN | apply Kd.R_drew)); exact HO233.out) hb); have n1_ := Aside0.mk (Kd.V_below (Kd.V_elderB (by (with_reducible repeat (first | apply Kd.V_alloc | apply Kd.V_drewN | apply Kd.V_drew)); exact HO236.out) gb248 (Nat.le_of_eq hg.symm)) hb); have n2_ := Aside0.mk (Kd.R_below (by (with_reducible repeat (first | apply Kd.R_alloc | apply Kd.R_drewN | apply Kd.R_drew)); exact HO242.out) hb); have n3_ := Aside0.mk (Kd.R_below (by (with_reducible repeat (first | apply Kd.R_alloc | apply Kd.R_drewN | apply Kd.R_drew)); exact HO245.out) hb); have n4_ := Aside0.mk (blk_below (g := gb239) (o := .cells #[.slice Ao13 t234.length co13, .int .i64 t237] 57 (0, 0)) (by (with_reducible repeat (first | refine blk_drewN ?_ _ | refine blk_drew ?_ | refine blk_alloc ?_ _)); exact BK239.out) hb); have n5_ := Aside0.mk (below_step (by repeat (first | (with_reducible first | exact HB.out | apply below_alloc | apply pw_below_drewN | apply below_drew1 | refine below_set ?_ GE239.out) | exact HB.out)) hb); have n6_ := Aside0.mk (hbox); have n7_ := Aside0.mk ((by rw [hg]; exact (below_size (by repeat (first | (with_reducible first | exact HB.out | apply below_alloc | apply pw_below_drewN | apply below_drew1 | refine below_set ?_ GE239.out) | exact HB.out))) : w.heap.size ≤ gb248)); have n8_ := Aside0.mk ((by rw [hg]; exact (below_size (by repeat (first | (with_reducible first | exact HB.out | apply below_alloc | apply pw_below_drewN | apply below_drew1 | refine below_set ?_ GE239.out) | exact HB.out))) : w.heap.size ≤ gb248)); have n9_ := Aside0.mk ((by rw [hg]; exact Nat.ne_of_lt (blk_lt (g := gb239) (o := .cells #[.slice Ao13 t234.length co13, .int .i64 t237] 57 (0, 0)) (by (with_reducible repeat (first | refine blk_drewN ?_ _ | refine blk_drew ?_ | refine blk_alloc ?_ _)); exact BK239.out)) : gb239 ≠ gb248)); have n10_ := Aside0.mk ((by rw [hg]; exact Nat.ne_of_gt (blk_lt (g := gb239) (o := .cells #[.slice Ao13 t234.length co13, .int .i64 t237] 57 (0, 0)) (by (with_reducible repeat (first | refine blk_drewN ?_ _ | refine blk_drew ?_ | refine blk_alloc ?_ _)); exact BK239.out)) : gb248 ≠ gb239)); clear HO233; clear HO236; clear HO242; clear HO245; clear BK239; clear HB; have HO233 := n0_; have HO236 := n1_; have HO242 := n2_; have HO245 := n3_; have BK239 := n4_; have HB := n5_; have BK248 := n6_; have GW248 := n7_; have GE248 := n8_; have NB239_248 := n9_; have NB248_239 := n10_; clear n0_ n1_ n2_ n3_ n4_ n5_ n6_ n7_ n8_ n9_ n10_; clear hb hbox hg; obtain ⟨Ao19, co19, eo19⟩ := Kd.R_slice HO245.out; subst eo19; have hnb20 := NB248_239.out; have hnc20 := NB239_248.out; have hcz21_0 : w18.cell? ⟨gb248, 0, none⟩ = some (.slice none 0 0) := (blk_cell BK248.out 0).trans rfl; have hcz21_1 : w18.cell? ⟨gb248, 1, none⟩ = some (.int .i64 0) := (blk_cell BK248.out 1).trans rfl; have hfz21_0 := blk_frozen BK248.out 0; have hfz21_1 := blk_frozen BK248.out 1))
    (try simp only [Act.put, List.setIfInBounds_toArray, List.set_cons_zero, List.set_cons_succ])
    go_cut [41] (fun v41 wc => ∃ (kq : Nat) (x41_7 : Bool), v41 = .bool x41_7 ∧ Aside0 (laws_FnExactVoteOf.j0 kq a0 l1 t238 t240 t247 x41_7 t234 t237 t243 t246 = some r) ∧ Aside0 (kq ≤ k) ∧ Aside0 (Kd.R (Kd.int .i64) 3 wc w.heap.size (fun k_ => some k_ ≠ ((.slice Ao19 t243.length co19) : Value).ownBlock) (.slice Ao16 t240.length co16) t240) ∧ Aside0 (Kd.V (Kd.int .i64) 3 wc w.heap.size (fun k_ => some k_ ≠ ((.slice Ao16 t240.length co16) : Value).ownBlock ∧ some k_ ≠ ((.slice Ao19 t243.length co19) : Value).ownBlock ∧ k_ ≠ gb239 ∧ k_ ≠ gb248) (.slice Ao13 t234.length co13) t234) ∧ Aside0 (Kd.R (Kd.int .i64) 3 wc w.heap.size (fun k_ => some k_ ≠ ((.slice Ao16 t240.length co16) : Value).ownBlock) (.slice Ao19 t243.length co19) t243) ∧ Aside0 (wc.heap[gb239]? = some (.cells #[(.slice Ao13 t234.length co13), .int .i64 t237] 57 (0, 0))) ∧ Aside0 (wc.heap[gb248]? = some (.cells #[(.slice Ao19 t243.length co19), .int .i64 t246] 57 (0, 0))) ∧ Aside0 (Below w.heap.size w wc))
    case first =>
      have H := HC8.out
      clear HC8
      replace H := Option.bind_eq_some_iff.mp H
      obtain ⟨t249, A220, H⟩ := H
      replace H : (if t249 = true then (laws_FnExactVoteOf.j0 k a0 l1 t238 t240 t247 (t247 != t238) t234 t237 t243 t246) else (laws_FnExactVoteOf.j0 k a0 l1 t238 t240 t247 true t234 t237 t243 t246)) = some r := H
      have A22 := Aside0.mk A220
      clear A220
      by_cases c23 : t249 = true
      · subst c23
        have H1 : (laws_FnExactVoteOf.j0 k a0 l1 t238 t240 t247 (t247 != t238) t234 t237 t243 t246) = some r := by rw [if_pos rfl] at H; exact H
        clear H
        have H := H1
        clear H1
        have H' := Aside0.mk H
        clear H
        have hnb24 := NB248_239.out
        have hnc24 := NB239_248.out
        have hcz25_0 : w18.cell? ⟨gb248, 0, none⟩ = some (.slice none 0 0) := (blk_cell BK248.out 0).trans rfl
        have hcz25_1 : w18.cell? ⟨gb248, 1, none⟩ = some (.int .i64 0) := (blk_cell BK248.out 1).trans rfl
        have hfz25_0 := blk_frozen BK248.out 0
        have hfz25_1 := blk_frozen BK248.out 1
        have hcz26_0 : w18.cell? ⟨gb239, 0, none⟩ = some (.slice Ao13 t234.length co13) := (blk_cell BK239.out 0).trans rfl
        have hcz26_1 : w18.cell? ⟨gb239, 1, none⟩ = some (.int .i64 t237) := (blk_cell BK239.out 1).trans rfl
        have hfz26_0 := blk_frozen BK239.out 0
        have hfz26_1 := blk_frozen BK239.out 1
        go_wp2_with (first | ((with_reducible refine gate_callee (f := 41) rfl ?_); refine goesL_ (some 35) rfl rfl Try.func41 (by kernel_rfl) rfl #[.agg #[.slice Ao19 t243.length co19, .int .i64 t246], .agg #[.slice Ao13 t234.length co13, .int .i64 t237]] rfl (by (try simp only [List.map_toArray, List.map_cons, List.map_nil]); first | done | rfl | (simp only [List.length_drop, List.length_take]; rfl)) ?_; (with_reducible refine (laws_eqVote.calls k _ _ t243 t246 _ _ t234 t237 true _ ?side1 ?side2 ?side3 ?side4 A22.out).mono ?_); (case side1 => refine (Kd.R_reads' (e := 3) (base := w.heap.size) (ok := fun k_ => ((True ∧ some k_ ≠ (.slice Ao10 t231.length co10 : Value).ownBlock) ∧ some k_ ≠ (.slice Ao16 t240.length co16 : Value).ownBlock)) (n := t243.length) (c := co19) ?_).2.2; exact (by (with_reducible repeat (first | apply Kd.R_alloc | apply Kd.R_drewN | apply Kd.R_drew)); exact (Kd.R_mono (Kd.R_far (p := ⟨gb248, 1, none⟩) (Kd.R_far (p := ⟨gb248, 0, none⟩) (Kd.R_types HO245.out BK248.out (by decide)) (fun _ hk => hk.2) (.slice Ao19 t243.length co19)) (fun _ hk => hk.2) (.int .i64 t246)) (fun _ h_ => h_.1)))); (case side2 => exact (Kd.R_reads' HO245.out).2.1); (case side3 => refine (Kd.V_reads' (e := 3) (base := w.heap.size) (ok := fun k_ => ((((some k_ ≠ (.slice Ao10 t231.length co10 : Value).ownBlock ∧ k_ ≠ gb239) ∧ some k_ ≠ (.slice Ao16 t240.length co16 : Value).ownBlock) ∧ some k_ ≠ (.slice Ao19 t243.length co19 : Value).ownBlock) ∧ k_ ≠ gb248)) (n := t234.length) (c := co13) ?_).2.2; exact (by (with_reducible repeat (first | apply Kd.V_alloc | apply Kd.V_drewN | apply Kd.V_drew)); exact (Kd.V_mono (Kd.V_far (p := ⟨gb248, 1, none⟩) (Kd.V_far (p := ⟨gb248, 0, none⟩) (Kd.V_mono HO236.out (fun k_ hk => (⟨hk, hk.2⟩ : _ ∧ k_ ≠ gb248))) (fun _ hk => hk.2) (.slice Ao19 t243.length co19)) (fun _ hk => hk.2) (.int .i64 t246)) (fun _ h_ => h_.1)))); (case side4 => exact (Kd.V_reads' HO236.out).2.1); rintro e w27 ⟨rfl, hb⟩; refine ⟨_, rfl, ?_⟩; have n0_ := Aside0.mk (Kd.R_below (by (with_reducible repeat (first | apply Kd.R_alloc | apply Kd.R_drewN | apply Kd.R_drew)); exact (Kd.R_mono (Kd.R_far (p := ⟨gb248, 1, none⟩) (Kd.R_far (p := ⟨gb248, 0, none⟩) (Kd.R_types HO233.out BK248.out (by decide)) (fun _ hk => hk.2) (.slice Ao19 t243.length co19)) (fun _ hk => hk.2) (.int .i64 t246)) (fun _ h_ => h_.1))) hb); have n1_ := Aside0.mk (Kd.V_below (by (with_reducible repeat (first | apply Kd.V_alloc | apply Kd.V_drewN | apply Kd.V_drew)); exact (Kd.V_mono (Kd.V_far (p := ⟨gb248, 1, none⟩) (Kd.V_far (p := ⟨gb248, 0, none⟩) (Kd.V_mono HO236.out (fun k_ hk => (⟨hk, hk.2⟩ : _ ∧ k_ ≠ gb248))) (fun _ hk => hk.2) (.slice Ao19 t243.length co19)) (fun _ hk => hk.2) (.int .i64 t246)) (fun _ h_ => h_.1))) hb); have n2_ := Aside0.mk (Kd.R_below (by (with_reducible repeat (first | apply Kd.R_alloc | apply Kd.R_drewN | apply Kd.R_drew)); exact (Kd.R_mono (Kd.R_far (p := ⟨gb248, 1, none⟩) (Kd.R_far (p := ⟨gb248, 0, none⟩) (Kd.R_types HO242.out BK248.out (by decide)) (fun _ hk => hk.2) (.slice Ao19 t243.length co19)) (fun _ hk => hk.2) (.int .i64 t246)) (fun _ h_ => h_.1))) hb); have n3_ := Aside0.mk (Kd.R_below (by (with_reducible repeat (first | apply Kd.R_alloc | apply Kd.R_drewN | apply Kd.R_drew)); exact (Kd.R_mono (Kd.R_far (p := ⟨gb248, 1, none⟩) (Kd.R_far (p := ⟨gb248, 0, none⟩) (Kd.R_types HO245.out BK248.out (by decide)) (fun _ hk => hk.2) (.slice Ao19 t243.length co19)) (fun _ hk => hk.2) (.int .i64 t246)) (fun _ h_ => h_.1))) hb); have n4_ := Aside0.mk (blk_below (g := gb239) (o := .cells #[.slice Ao13 t234.length co13, .int .i64 t237] 57 (0, 0)) (by (with_reducible repeat (first | refine blk_drewN ?_ _ | refine blk_drew ?_ | refine blk_alloc ?_ _)); refine blk_far ?_ NB239_248.out _; (with_reducible repeat (first | refine blk_drewN ?_ _ | refine blk_drew ?_ | refine blk_alloc ?_ _)); refine blk_far ?_ NB239_248.out _; (with_reducible repeat (first | refine blk_drewN ?_ _ | refine blk_drew ?_ | refine blk_alloc ?_ _)); exact BK239.out) hb); have n5_ := Aside0.mk (blk_below (g := gb248) (o := .cells #[.slice Ao19 t243.length co19, .int .i64 t246] 57 (0, 0)) (by (with_reducible repeat (first | refine blk_drewN ?_ _ | refine blk_drew ?_ | refine blk_alloc ?_ _)); refine blk_put (cs := #[.slice Ao19 t243.length co19, .int .i64 0]) ?_ 1 _ rfl; (with_reducible repeat (first | refine blk_drewN ?_ _ | refine blk_drew ?_ | refine blk_alloc ?_ _)); refine blk_put (cs := #[.slice none 0 0, .int .i64 0]) ?_ 0 _ rfl; (with_reducible repeat (first | refine blk_drewN ?_ _ | refine blk_drew ?_ | refine blk_alloc ?_ _)); exact BK248.out) hb); have n6_ := Aside0.mk (below_step (by repeat (first | (with_reducible first | exact HB.out | apply below_alloc | apply pw_below_drewN | apply below_drew1 | refine below_set ?_ GE239.out | refine below_set ?_ GE248.out) | exact HB.out)) hb); clear HO233; clear HO236; clear HO242; clear HO245; clear BK239; clear BK248; clear HB; have HO233 := n0_; have HO236 := n1_; have HO242 := n2_; have HO245 := n3_; have BK239 := n4_; have BK248 := n5_; have HB := n6_; clear n0_ n1_ n2_ n3_ n4_ n5_ n6_; (try clear hb); (try clear hb2); (try clear hk); (try clear hi)))
        go_meet
        case rel => exact ⟨_, ((t247 != t238)), (by first | rfl | (simp; done) | (simp [*]; done)), H', ⟨by first | omega | exact Nat.le_refl _⟩, ⟨by (with_reducible repeat (first | apply Kd.R_alloc | apply Kd.R_drewN | apply Kd.R_drew)); exact Kd.R_mono HO242.out (fun _ hk => hk.2)⟩, ⟨by (with_reducible repeat (first | apply Kd.V_alloc | apply Kd.V_drewN | apply Kd.V_drew)); exact Kd.V_mono HO236.out (fun _ hk => ⟨hk.1.1.2, ⟨hk.1.2, ⟨hk.1.1.1.2, hk.2⟩⟩⟩)⟩, ⟨by (with_reducible repeat (first | apply Kd.R_alloc | apply Kd.R_drewN | apply Kd.R_drew)); exact Kd.R_mono HO245.out (fun _ hk => hk.2)⟩, ⟨by (with_reducible repeat (first | refine blk_drewN ?_ _ | refine blk_drew ?_ | refine blk_alloc ?_ _)); exact BK239.out⟩, ⟨by (with_reducible repeat (first | refine blk_drewN ?_ _ | refine blk_drew ?_ | refine blk_alloc ?_ _)); exact BK248.out⟩, ⟨by repeat (first | (with_reducible first | exact HB.out | apply below_alloc | apply pw_below_drewN | apply below_drew1 | refine below_set ?_ GE239.out | refine below_set ?_ GE248.out) | exact HB.out)⟩⟩
      · replace c23 := Bool.eq_false_iff.mpr c23
        subst c23
        have H1 : (laws_FnExactVoteOf.j0 k a0 l1 t238 t240 t247 true t234 t237 t243 t246) = some r := by rw [if_neg (show ¬ (false = true) by decide)] at H; exact H
        clear H
        have H := H1
        clear H1
        have H' := Aside0.mk H
        clear H
        have hnb28 := NB248_239.out
        have hnc28 := NB239_248.out
        have hcz29_0 : w18.cell? ⟨gb248, 0, none⟩ = some (.slice none 0 0) := (blk_cell BK248.out 0).trans rfl
        have hcz29_1 : w18.cell? ⟨gb248, 1, none⟩ = some (.int .i64 0) := (blk_cell BK248.out 1).trans rfl
        have hfz29_0 := blk_frozen BK248.out 0
        have hfz29_1 := blk_frozen BK248.out 1
        have hcz30_0 : w18.cell? ⟨gb239, 0, none⟩ = some (.slice Ao13 t234.length co13) := (blk_cell BK239.out 0).trans rfl
        have hcz30_1 : w18.cell? ⟨gb239, 1, none⟩ = some (.int .i64 t237) := (blk_cell BK239.out 1).trans rfl
        have hfz30_0 := blk_frozen BK239.out 0
        have hfz30_1 := blk_frozen BK239.out 1
        go_wp2_with (first | ((with_reducible refine gate_callee (f := 41) rfl ?_); refine goesL_ (some 35) rfl rfl Try.func41 (by kernel_rfl) rfl #[.agg #[.slice Ao19 t243.length co19, .int .i64 t246], .agg #[.slice Ao13 t234.length co13, .int .i64 t237]] rfl (by (try simp only [List.map_toArray, List.map_cons, List.map_nil]); first | done | rfl | (simp only [List.length_drop, List.length_take]; rfl)) ?_; (with_reducible refine (laws_eqVote.calls k _ _ t243 t246 _ _ t234 t237 false _ ?side1 ?side2 ?side3 ?side4 A22.out).mono ?_); (case side1 => refine (Kd.R_reads' (e := 3) (base := w.heap.size) (ok := fun k_ => ((True ∧ some k_ ≠ (.slice Ao10 t231.length co10 : Value).ownBlock) ∧ some k_ ≠ (.slice Ao16 t240.length co16 : Value).ownBlock)) (n := t243.length) (c := co19) ?_).2.2; exact (by (with_reducible repeat (first | apply Kd.R_alloc | apply Kd.R_drewN | apply Kd.R_drew)); exact (Kd.R_mono (Kd.R_far (p := ⟨gb248, 1, none⟩) (Kd.R_far (p := ⟨gb248, 0, none⟩) (Kd.R_types HO245.out BK248.out (by decide)) (fun _ hk => hk.2) (.slice Ao19 t243.length co19)) (fun _ hk => hk.2) (.int .i64 t246)) (fun _ h_ => h_.1)))); (case side2 => exact (Kd.R_reads' HO245.out).2.1); (case side3 => refine (Kd.V_reads' (e := 3) (base := w.heap.size) (ok := fun k_ => ((((some k_ ≠ (.slice Ao10 t231.length co10 : Value).ownBlock ∧ k_ ≠ gb239) ∧ some k_ ≠ (.slice Ao16 t240.length co16 : Value).ownBlock) ∧ some k_ ≠ (.slice Ao19 t243.length co19 : Value).ownBlock) ∧ k_ ≠ gb248)) (n := t234.length) (c := co13) ?_).2.2; exact (by (with_reducible repeat (first | apply Kd.V_alloc | apply Kd.V_drewN | apply Kd.V_drew)); exact (Kd.V_mono (Kd.V_far (p := ⟨gb248, 1, none⟩) (Kd.V_far (p := ⟨gb248, 0, none⟩) (Kd.V_mono HO236.out (fun k_ hk => (⟨hk, hk.2⟩ : _ ∧ k_ ≠ gb248))) (fun _ hk => hk.2) (.slice Ao19 t243.length co19)) (fun _ hk => hk.2) (.int .i64 t246)) (fun _ h_ => h_.1)))); (case side4 => exact (Kd.V_reads' HO236.out).2.1); rintro e w31 ⟨rfl, hb⟩; refine ⟨_, rfl, ?_⟩; have n0_ := Aside0.mk (Kd.R_below (by (with_reducible repeat (first | apply Kd.R_alloc | apply Kd.R_drewN | apply Kd.R_drew)); exact (Kd.R_mono (Kd.R_far (p := ⟨gb248, 1, none⟩) (Kd.R_far (p := ⟨gb248, 0, none⟩) (Kd.R_types HO233.out BK248.out (by decide)) (fun _ hk => hk.2) (.slice Ao19 t243.length co19)) (fun _ hk => hk.2) (.int .i64 t246)) (fun _ h_ => h_.1))) hb); have n1_ := Aside0.mk (Kd.V_below (by (with_reducible repeat (first | apply Kd.V_alloc | apply Kd.V_drewN | apply Kd.V_drew)); exact (Kd.V_mono (Kd.V_far (p := ⟨gb248, 1, none⟩) (Kd.V_far (p := ⟨gb248, 0, none⟩) (Kd.V_mono HO236.out (fun k_ hk => (⟨hk, hk.2⟩ : _ ∧ k_ ≠ gb248))) (fun _ hk => hk.2) (.slice Ao19 t243.length co19)) (fun _ hk => hk.2) (.int .i64 t246)) (fun _ h_ => h_.1))) hb); have n2_ := Aside0.mk (Kd.R_below (by (with_reducible repeat (first | apply Kd.R_alloc | apply Kd.R_drewN | apply Kd.R_drew)); exact (Kd.R_mono (Kd.R_far (p := ⟨gb248, 1, none⟩) (Kd.R_far (p := ⟨gb248, 0, none⟩) (Kd.R_types HO242.out BK248.out (by decide)) (fun _ hk => hk.2) (.slice Ao19 t243.length co19)) (fun _ hk => hk.2) (.int .i64 t246)) (fun _ h_ => h_.1))) hb); have n3_ := Aside0.mk (Kd.R_below (by (with_reducible repeat (first | apply Kd.R_alloc | apply Kd.R_drewN | apply Kd.R_drew)); exact (Kd.R_mono (Kd.R_far (p := ⟨gb248, 1, none⟩) (Kd.R_far (p := ⟨gb248, 0, none⟩) (Kd.R_types HO245.out BK248.out (by decide)) (fun _ hk => hk.2) (.slice Ao19 t243.length co19)) (fun _ hk => hk.2) (.int .i64 t246)) (fun _ h_ => h_.1))) hb); have n4_ := Aside0.mk (blk_below (g := gb239) (o := .cells #[.slice Ao13 t234.length co13, .int .i64 t237] 57 (0, 0)) (by (with_reducible repeat (first | refine blk_drewN ?_ _ | refine blk_drew ?_ | refine blk_alloc ?_ _)); refine blk_far ?_ NB239_248.out _; (with_reducible repeat (first | refine blk_drewN ?_ _ | refine blk_drew ?_ | refine blk_alloc ?_ _)); refine blk_far ?_ NB239_248.out _; (with_reducible repeat (first | refine blk_drewN ?_ _ | refine blk_drew ?_ | refine blk_alloc ?_ _)); exact BK239.out) hb); have n5_ := Aside0.mk (blk_below (g := gb248) (o := .cells #[.slice Ao19 t243.length co19, .int .i64 t246] 57 (0, 0)) (by (with_reducible repeat (first | refine blk_drewN ?_ _ | refine blk_drew ?_ | refine blk_alloc ?_ _)); refine blk_put (cs := #[.slice Ao19 t243.length co19, .int .i64 0]) ?_ 1 _ rfl; (with_reducible repeat (first | refine blk_drewN ?_ _ | refine blk_drew ?_ | refine blk_alloc ?_ _)); refine blk_put (cs := #[.slice none 0 0, .int .i64 0]) ?_ 0 _ rfl; (with_reducible repeat (first | refine blk_drewN ?_ _ | refine blk_drew ?_ | refine blk_alloc ?_ _)); exact BK248.out) hb); have n6_ := Aside0.mk (below_step (by repeat (first | (with_reducible first | exact HB.out | apply below_alloc | apply pw_below_drewN | apply below_drew1 | refine below_set ?_ GE239.out | refine below_set ?_ GE248.out) | exact HB.out)) hb); clear HO233; clear HO236; clear HO242; clear HO245; clear BK239; clear BK248; clear HB; have HO233 := n0_; have HO236 := n1_; have HO242 := n2_; have HO245 := n3_; have BK239 := n4_; have BK248 := n5_; have HB := n6_; clear n0_ n1_ n2_ n3_ n4_ n5_ n6_; (try clear hb); (try clear hb2); (try clear hk); (try clear hi)))
        go_meet
        case rel => exact ⟨_, (true), (by first | rfl | (simp; done) | (simp [*]; done)), H', ⟨by first | omega | exact Nat.le_refl _⟩, ⟨by (with_reducible repeat (first | apply Kd.R_alloc | apply Kd.R_drewN | apply Kd.R_drew)); exact Kd.R_mono HO242.out (fun _ hk => hk.2)⟩, ⟨by (with_reducible repeat (first | apply Kd.V_alloc | apply Kd.V_drewN | apply Kd.V_drew)); exact Kd.V_mono HO236.out (fun _ hk => ⟨hk.1.1.2, ⟨hk.1.2, ⟨hk.1.1.1.2, hk.2⟩⟩⟩)⟩, ⟨by (with_reducible repeat (first | apply Kd.R_alloc | apply Kd.R_drewN | apply Kd.R_drew)); exact Kd.R_mono HO245.out (fun _ hk => hk.2)⟩, ⟨by (with_reducible repeat (first | refine blk_drewN ?_ _ | refine blk_drew ?_ | refine blk_alloc ?_ _)); exact BK239.out⟩, ⟨by (with_reducible repeat (first | refine blk_drewN ?_ _ | refine blk_drew ?_ | refine blk_alloc ?_ _)); exact BK248.out⟩, ⟨by repeat (first | (with_reducible first | exact HB.out | apply below_alloc | apply pw_below_drewN | apply below_drew1 | refine below_set ?_ GE239.out | refine below_set ?_ GE248.out) | exact HB.out)⟩⟩
    case rest =>
      clear HC8
      try clear c1
      try clear c2
      try clear p2
      try clear c3
      try clear c3b0
      try clear c3b1
      try clear c4
      try clear c5
      try clear c10
      try clear c20
      try clear c23
      try clear c24
      try clear c28
      try clear hcz14_0
      try clear hcz14_1
      try clear hcz21_0
      try clear hcz21_1
      try clear hcz25_0
      try clear hcz25_1
      try clear hcz26_0
      try clear hcz26_1
      try clear hcz29_0
      try clear hcz29_1
      try clear hcz30_0
      try clear hcz30_1
      try clear hfz14_0
      try clear hfz14_1
      try clear hfz21_0
      try clear hfz21_1
      try clear hfz25_0
      try clear hfz25_1
      try clear hfz26_0
      try clear hfz26_1
      try clear hfz29_0
      try clear hfz29_1
      try clear hfz30_0
      try clear hfz30_1
      obtain ⟨kq, x41_7, rfl, HA, HJ7, HO_7, HO_240000, HO_249000, BK239, BK248, HB⟩ := hcut
      cases kq with
      | zero => exact absurd HA.out (by simp [laws_FnExactVoteOf.j0])
      | succ kj7 =>
        have H := HA.out
        clear HA
        simp only [laws_FnExactVoteOf.j0] at H
        by_cases c32 : x41_7 = true
        · subst c32
          have H1 : (some false) = some r := by rw [if_pos rfl] at H; exact H
          clear H
          have H := H1
          clear H1
          obtain rfl := Option.some.inj H
          go_wp2
          go_ret
          exact ⟨by first | rfl | (simp [errW_none, errW_some] <;> rfl) | (simp [*, errW_none, errW_some] <;> rfl), by repeat (first | (with_reducible first | exact HB.out | apply below_alloc | apply pw_below_drewN | apply below_drew1 | refine below_set ?_ GE239.out | refine below_set ?_ GE248.out) | exact HB.out)⟩
        · replace c32 := Bool.eq_false_iff.mpr c32
          subst c32
          have H1 : ((laws_toIntS.f kj7 l1).bind fun t250 => ((laws_eqIntS.f kj7 t240 t250).bind fun t253 => (if t253 = true then ((laws_markIntS.f kj7 t240 1).bind fun bt254 => (if bt254.1 < 0 then (laws_FnExactVoteOf.j1 kj7 a0 l1 t238 true t234 t237 t243 t246) else ((laws_eqVote.f kj7 t243 t246 t234 t237).bind fun t256 => (if t256 = true then (laws_FnExactVoteOf.j1 kj7 a0 l1 t238 (t247 != t238) t234 t237 t243 t246) else (laws_FnExactVoteOf.j1 kj7 a0 l1 t238 true t234 t237 t243 t246))))) else (some false)))) = some r := by rw [if_neg (show ¬ (false = true) by decide)] at H; exact H
          clear H
          have H := H1
          clear H1
          replace H := Option.bind_eq_some_iff.mp H
          obtain ⟨t250, A330, H⟩ := H
          replace H : ((laws_eqIntS.f kj7 t240 t250).bind fun t253 => (if t253 = true then ((laws_markIntS.f kj7 t240 1).bind fun bt254 => (if bt254.1 < 0 then (laws_FnExactVoteOf.j1 kj7 a0 l1 t238 true t234 t237 t243 t246) else ((laws_eqVote.f kj7 t243 t246 t234 t237).bind fun t256 => (if t256 = true then (laws_FnExactVoteOf.j1 kj7 a0 l1 t238 (t247 != t238) t234 t237 t243 t246) else (laws_FnExactVoteOf.j1 kj7 a0 l1 t238 true t234 t237 t243 t246))))) else (some false))) = some r := H
          have A33 := Aside0.mk A330
          clear A330
          replace H := Option.bind_eq_some_iff.mp H
          obtain ⟨t253, A340, H⟩ := H
          replace H : (if t253 = true then ((laws_markIntS.f kj7 t240 1).bind fun bt254 => (if bt254.1 < 0 then (laws_FnExactVoteOf.j1 kj7 a0 l1 t238 true t234 t237 t243 t246) else ((laws_eqVote.f kj7 t243 t246 t234 t237).bind fun t256 => (if t256 = true then (laws_FnExactVoteOf.j1 kj7 a0 l1 t238 (t247 != t238) t234 t237 t243 t246) else (laws_FnExactVoteOf.j1 kj7 a0 l1 t238 true t234 t237 t243 t246))))) else (some false)) = some r := H
          have A34 := Aside0.mk A340
          clear A340
          by_cases c35 : t253 = true
          · subst c35
            have H1 : ((laws_markIntS.f kj7 t240 1).bind fun bt254 => (if bt254.1 < 0 then (laws_FnExactVoteOf.j1 kj7 a0 l1 t238 true t234 t237 t243 t246) else ((laws_eqVote.f kj7 t243 t246 t234 t237).bind fun t256 => (if t256 = true then (laws_FnExactVoteOf.j1 kj7 a0 l1 t238 (t247 != t238) t234 t237 t243 t246) else (laws_FnExactVoteOf.j1 kj7 a0 l1 t238 true t234 t237 t243 t246))))) = some r := by rw [if_pos rfl] at H; exact H
            clear H
            have H := H1
            clear H1
            replace H := Option.bind_eq_some_iff.mp H
            obtain ⟨⟨t254, t255⟩, A360, H⟩ := H
            replace H : (if t254 < 0 then (laws_FnExactVoteOf.j1 kj7 a0 l1 t238 true t234 t237 t243 t246) else ((laws_eqVote.f kj7 t243 t246 t234 t237).bind fun t256 => (if t256 = true then (laws_FnExactVoteOf.j1 kj7 a0 l1 t238 (t247 != t238) t234 t237 t243 t246) else (laws_FnExactVoteOf.j1 kj7 a0 l1 t238 true t234 t237 t243 t246)))) = some r := H
            have A36 := Aside0.mk A360
            clear A360
            have HC37 := Aside0.mk H
            clear H
            go_upto_region 12 with (first | ((with_reducible refine gate_callee (f := 46) rfl ?_); refine goesL_ (some 44) rfl rfl Try.func46 (by kernel_rfl) rfl #[.slice A1 l1.length c1] rfl (by (try simp only [List.map_toArray, List.map_cons, List.map_nil]); first | done | rfl | (simp only [List.length_drop, List.length_take]; rfl)) ?_; (with_reducible refine (laws_toIntS.calls kj7 _ _ l1 t250 _ ?side1 ?side2 A33.out).mono ?_); (case side1 => repeat (first | exact (Kd.C_below HR1.out HB.out) | (with_reducible refine Kd.C_alloc ?_ _) | (with_reducible refine Kd.C_drewN ?_ _) | (with_reducible refine Kd.C_drew ?_))); (case side2 => exact HC1.out); rintro e w38 ⟨v251, rfl, ho0, hb⟩; refine ⟨_, rfl, ?_⟩; have n0_ := Aside0.mk (Kd.R_elder' (by (with_reducible repeat (first | apply Kd.R_alloc | apply Kd.R_drewN | apply Kd.R_drew)); exact HO_7.out) (Kd.R_base ho0) hb); have n1_ := Aside0.mk (Kd.V_elder' (by (with_reducible repeat (first | apply Kd.V_alloc | apply Kd.V_drewN | apply Kd.V_drew)); exact HO_240000.out) (Kd.R_base ho0) hb); have n2_ := Aside0.mk (Kd.R_elder' (by (with_reducible repeat (first | apply Kd.R_alloc | apply Kd.R_drewN | apply Kd.R_drew)); exact HO_249000.out) (Kd.R_base ho0) hb); have n3_ := Aside0.mk (Kd.R_lower (Kd.R_new' (Kd.R_new' ho0 (Kd.R_lt (by (with_reducible repeat (first | apply Kd.R_alloc | apply Kd.R_drewN | apply Kd.R_drew)); exact HO_7.out))) (Kd.R_lt (by (with_reducible repeat (first | apply Kd.R_alloc | apply Kd.R_drewN | apply Kd.R_drew)); exact HO_249000.out))) (below_size (by repeat (first | (with_reducible first | exact HB.out | apply below_alloc | apply pw_below_drewN | apply below_drew1 | refine below_set ?_ GE239.out | refine below_set ?_ GE248.out) | exact HB.out)))); have n4_ := Aside0.mk (blk_below (g := gb239) (o := .cells #[.slice Ao13 t234.length co13, .int .i64 t237] 57 (0, 0)) (by (with_reducible repeat (first | refine blk_drewN ?_ _ | refine blk_drew ?_ | refine blk_alloc ?_ _)); exact BK239.out) hb); have n5_ := Aside0.mk (blk_below (g := gb248) (o := .cells #[.slice Ao19 t243.length co19, .int .i64 t246] 57 (0, 0)) (by (with_reducible repeat (first | refine blk_drewN ?_ _ | refine blk_drew ?_ | refine blk_alloc ?_ _)); exact BK248.out) hb); have n6_ := Aside0.mk (below_step (by repeat (first | (with_reducible first | exact HB.out | apply below_alloc | apply pw_below_drewN | apply below_drew1 | refine below_set ?_ GE239.out | refine below_set ?_ GE248.out) | exact HB.out)) hb); clear HO_7; clear HO_240000; clear HO_249000; clear BK239; clear BK248; clear HB; have HO_7 := n0_; have HO_240000 := n1_; have HO_249000 := n2_; have HO252 := n3_; have BK239 := n4_; have BK248 := n5_; have HB := n6_; clear n0_ n1_ n2_ n3_ n4_ n5_ n6_; (try clear hb); (try clear hb2); (try clear hk); (try clear hi); (try clear ho0); obtain ⟨Ao39, co39, eo39⟩ := Kd.R_slice HO252.out; subst eo39) | ((with_reducible refine gate_callee (f := 40) rfl ?_); refine goesL_ (some 45) rfl rfl Try.func40 (by kernel_rfl) rfl #[.slice Ao16 t240.length co16, .slice Ao39 t250.length co39] rfl (by (try simp only [List.map_toArray, List.map_cons, List.map_nil]); first | done | rfl | (simp only [List.length_drop, List.length_take]; rfl)) ?_; (with_reducible refine (laws_eqIntS.calls kj7 _ _ t240 _ _ t250 true _ ?side1 ?side2 ?side3 ?side4 A34.out).mono ?_); (case side1 => repeat (first | exact (Kd.R_reads' HO_7.out).2.2 | (with_reducible refine Kd.C_alloc ?_ _) | (with_reducible refine Kd.C_drewN ?_ _) | (with_reducible refine Kd.C_drew ?_))); (case side2 => exact (Kd.R_reads' HO_7.out).2.1); (case side3 => repeat (first | exact (Kd.R_reads' HO252.out).2.2 | (with_reducible refine Kd.C_alloc ?_ _) | (with_reducible refine Kd.C_drewN ?_ _) | (with_reducible refine Kd.C_drew ?_))); (case side4 => exact (Kd.R_reads' HO252.out).2.1); rintro e w' ⟨rfl, ⟨nd, rfl⟩⟩; refine ⟨_, rfl, ?_⟩) | ((with_reducible refine gate_callee (f := 43) rfl ?_); refine goesL_ (some 49) rfl rfl Try.func43 (by kernel_rfl) rfl #[.slice Ao16 t240.length co16, .int .i64 1] rfl (by (try simp only [List.map_toArray, List.map_cons, List.map_nil]); first | done | rfl | (simp only [List.length_drop, List.length_take]; rfl)) ?_; (with_reducible refine (laws_markIntS.calls kj7 (fun k_ => some k_ = (.slice Ao16 t240.length co16 : Value).ownBlock) (.slice Ao16 t240.length co16) t240 1 t254 t255 w _ ?side1 ?side2 A36.out).mono ?_); (case side1 => repeat (first | (with_reducible first | exact HB.out | apply below_alloc | apply pw_below_drewN | apply below_drew1 | refine below_set ?_ GE239.out | refine below_set ?_ GE248.out) | exact HB.out)); (case side2 => exact Kd.R_tight rfl HO_7.out); rintro e w40 ⟨rfl, hy0, hb, hkp⟩; refine ⟨_, rfl, ?_⟩; have n0_ := Aside0.mk (Kd.R_reok rfl hy0 (fun k_ e_ => HO_7.out.1 k_ e_)); have n1_ := Aside0.mk (Kd.V_mono (ok' := fun k_ => some k_ ≠ (.slice Ao16 t240.length co16 : Value).ownBlock ∧ some k_ ≠ (.slice Ao19 t243.length co19 : Value).ownBlock ∧ some k_ ≠ (.slice Ao39 t250.length co39 : Value).ownBlock ∧ k_ ≠ gb239 ∧ k_ ≠ gb248) (Kd.V_keptB (HO_240000.out) hkp (fun k_ hk_ hs_ => (hk_.1.1) hs_)) (fun k_ hk_ => ⟨hk_.1.1.1, hk_.1.1.2.1, hk_.1.2, hk_.1.1.2.2.1, hk_.1.1.2.2.2⟩)); have n2_ := Aside0.mk (Kd.R_mono (ok' := fun k_ => some k_ ≠ (.slice Ao16 t240.length co16 : Value).ownBlock ∧ some k_ ≠ (.slice Ao39 t250.length co39 : Value).ownBlock) (Kd.R_keptB (HO_249000.out) hkp (fun k_ hk_ hs_ => (hk_.1) hs_)) (fun k_ hk_ => ⟨hk_.1.1, hk_.1.2⟩)); have n3_ := Aside0.mk (blk_kept (by (with_reducible repeat (first | refine blk_drewN ?_ _ | refine blk_drew ?_ | refine blk_alloc ?_ _)); exact BK239.out) hkp (fun hs_ => (fun e_ => (Kd.R_ne HO_7.out BK239.out (by decide)) e_) hs_)); have n4_ := Aside0.mk (blk_kept (by (with_reducible repeat (first | refine blk_drewN ?_ _ | refine blk_drew ?_ | refine blk_alloc ?_ _)); exact BK248.out) hkp (fun hs_ => (fun e_ => (Kd.R_ne HO_7.out BK248.out (by decide)) e_) hs_)); have n5_ := Aside0.mk (Kd.R_mono (ok' := fun k_ => some k_ ≠ (.slice Ao16 t240.length co16 : Value).ownBlock ∧ some k_ ≠ (.slice Ao19 t243.length co19 : Value).ownBlock) (Kd.R_keptB (HO252.out) hkp (fun k_ hk_ hs_ => (hk_.1.2) hs_)) (fun k_ hk_ => ⟨hk_.1.1.2, hk_.1.2⟩)); have n6_ := Aside0.mk (hb); clear HO_7; clear HO_240000; clear HO_249000; clear BK239; clear BK248; clear HO252; clear HB; have HO_7 := n0_; have HO_240000 := n1_; have HO_249000 := n2_; have BK239 := n3_; have BK248 := n4_; have HO252 := n5_; have HB := n6_; clear n0_ n1_ n2_ n3_ n4_ n5_ n6_; (try clear hb); (try clear hkp); (try clear hy0)))
            (try simp only [Act.put, List.setIfInBounds_toArray, List.set_cons_zero, List.set_cons_succ])
            go_cut [62] (fun v62 wc => ∃ (kq : Nat) (x62_36 : Bool), v62 = .bool x62_36 ∧ Aside0 (laws_FnExactVoteOf.j1 kq a0 l1 t238 x62_36 t234 t237 t243 t246 = some r) ∧ Aside0 (kq ≤ kj7) ∧ Aside0 (Kd.V (Kd.int .i64) 3 wc w.heap.size (fun k_ => some k_ ≠ ((.slice Ao19 t243.length co19) : Value).ownBlock ∧ k_ ≠ gb239 ∧ k_ ≠ gb248) (.slice Ao13 t234.length co13) t234) ∧ Aside0 (Kd.R (Kd.int .i64) 3 wc w.heap.size (fun _ => True) (.slice Ao19 t243.length co19) t243) ∧ Aside0 (wc.heap[gb239]? = some (.cells #[(.slice Ao13 t234.length co13), .int .i64 t237] 57 (0, 0))) ∧ Aside0 (wc.heap[gb248]? = some (.cells #[(.slice Ao19 t243.length co19), .int .i64 t246] 57 (0, 0))) ∧ Aside0 (Below w.heap.size w wc))
            case first =>
              have H := HC37.out
              clear HC37
              by_cases c41 : t254 < 0
              · rw [if_pos c41] at H
                have c41b0 : decide (t254 < 0) = true := decide_eq_true c41
                clear c41
                (first | rw [c41b0] | (simp only [i64_w, i32_w]; rw [c41b0]) | skip)
                have H' := Aside0.mk H
                clear H
                go_wp2
                go_meet
                case rel => exact ⟨_, (true), (by first | rfl | (simp; done) | (simp [*]; done)), H', ⟨by have := HJ7.out; first | omega | exact Nat.le_refl _⟩, ⟨by (with_reducible repeat (first | apply Kd.V_alloc | apply Kd.V_drewN | apply Kd.V_drew)); exact Kd.V_mono HO_240000.out (fun _ hk => ⟨hk.2.1, ⟨hk.2.2.2.1, hk.2.2.2.2⟩⟩)⟩, ⟨by (with_reducible repeat (first | apply Kd.R_alloc | apply Kd.R_drewN | apply Kd.R_drew)); exact Kd.R_mono HO_249000.out (fun _ hk => trivial)⟩, ⟨by (with_reducible repeat (first | refine blk_drewN ?_ _ | refine blk_drew ?_ | refine blk_alloc ?_ _)); exact BK239.out⟩, ⟨by (with_reducible repeat (first | refine blk_drewN ?_ _ | refine blk_drew ?_ | refine blk_alloc ?_ _)); exact BK248.out⟩, ⟨by repeat (first | (with_reducible first | exact HB.out | apply below_alloc | apply pw_below_drewN | apply below_drew1 | refine below_set ?_ GE239.out | refine below_set ?_ GE248.out) | exact HB.out)⟩⟩
              · rw [if_neg c41] at H
                have c41b0 : decide (t254 < 0) = false := decide_eq_false c41
                clear c41
                (first | rw [c41b0] | (simp only [i64_w, i32_w]; rw [c41b0]) | skip)
                replace H := Option.bind_eq_some_iff.mp H
                obtain ⟨t256, A420, H⟩ := H
                replace H : (if t256 = true then (laws_FnExactVoteOf.j1 kj7 a0 l1 t238 (t247 != t238) t234 t237 t243 t246) else (laws_FnExactVoteOf.j1 kj7 a0 l1 t238 true t234 t237 t243 t246)) = some r := H
                have A42 := Aside0.mk A420
                clear A420
                by_cases c43 : t256 = true
                · subst c43
                  have H1 : (laws_FnExactVoteOf.j1 kj7 a0 l1 t238 (t247 != t238) t234 t237 t243 t246) = some r := by rw [if_pos rfl] at H; exact H
                  clear H
                  have H := H1
                  clear H1
                  have H' := Aside0.mk H
                  clear H
                  have hnb44 := NB248_239.out
                  have hnc44 := NB239_248.out
                  have hcz45_0 : w40.cell? ⟨gb248, 0, none⟩ = some (.slice Ao19 t243.length co19) := (blk_cell BK248.out 0).trans rfl
                  have hcz45_1 : w40.cell? ⟨gb248, 1, none⟩ = some (.int .i64 t246) := (blk_cell BK248.out 1).trans rfl
                  have hfz45_0 := blk_frozen BK248.out 0
                  have hfz45_1 := blk_frozen BK248.out 1
                  have hcz46_0 : w40.cell? ⟨gb239, 0, none⟩ = some (.slice Ao13 t234.length co13) := (blk_cell BK239.out 0).trans rfl
                  have hcz46_1 : w40.cell? ⟨gb239, 1, none⟩ = some (.int .i64 t237) := (blk_cell BK239.out 1).trans rfl
                  have hfz46_0 := blk_frozen BK239.out 0
                  have hfz46_1 := blk_frozen BK239.out 1
                  go_wp2_with (first | (go_at_call 41; (with_reducible refine (laws_eqVote.calls kj7 _ _ t243 t246 _ _ t234 t237 true _ ?side1 ?side2 ?side3 ?side4 A42.out).mono ?_); (case side1 => repeat (first | exact (Kd.R_reads' HO_249000.out).2.2 | (with_reducible refine Kd.C_alloc ?_ _) | (with_reducible refine Kd.C_drewN ?_ _) | (with_reducible refine Kd.C_drew ?_))); (case side2 => exact (Kd.R_reads' HO_249000.out).2.1); (case side3 => repeat (first | exact (Kd.V_reads' HO_240000.out).2.2 | (with_reducible refine Kd.C_alloc ?_ _) | (with_reducible refine Kd.C_drewN ?_ _) | (with_reducible refine Kd.C_drew ?_))); (case side4 => exact (Kd.V_reads' HO_240000.out).2.1); rintro e w47 ⟨rfl, hb⟩; have n0_ := Aside0.mk (Kd.R_below (by (with_reducible repeat (first | apply Kd.R_alloc | apply Kd.R_drewN | apply Kd.R_drew)); exact HO_7.out) hb); have n1_ := Aside0.mk (Kd.V_below (by (with_reducible repeat (first | apply Kd.V_alloc | apply Kd.V_drewN | apply Kd.V_drew)); exact HO_240000.out) hb); have n2_ := Aside0.mk (Kd.R_below (by (with_reducible repeat (first | apply Kd.R_alloc | apply Kd.R_drewN | apply Kd.R_drew)); exact HO_249000.out) hb); have n3_ := Aside0.mk (Kd.R_below (by (with_reducible repeat (first | apply Kd.R_alloc | apply Kd.R_drewN | apply Kd.R_drew)); exact HO252.out) hb); have n4_ := Aside0.mk (blk_below (g := gb239) (o := .cells #[.slice Ao13 t234.length co13, .int .i64 t237] 57 (0, 0)) (by (with_reducible repeat (first | refine blk_drewN ?_ _ | refine blk_drew ?_ | refine blk_alloc ?_ _)); exact BK239.out) hb); have n5_ := Aside0.mk (blk_below (g := gb248) (o := .cells #[.slice Ao19 t243.length co19, .int .i64 t246] 57 (0, 0)) (by (with_reducible repeat (first | refine blk_drewN ?_ _ | refine blk_drew ?_ | refine blk_alloc ?_ _)); exact BK248.out) hb); have n6_ := Aside0.mk (below_step (by repeat (first | (with_reducible first | exact HB.out | apply below_alloc | apply pw_below_drewN | apply below_drew1 | refine below_set ?_ GE239.out | refine below_set ?_ GE248.out) | exact HB.out)) hb); clear HO_7; clear HO_240000; clear HO_249000; clear HO252; clear BK239; clear BK248; clear HB; have HO_7 := n0_; have HO_240000 := n1_; have HO_249000 := n2_; have HO252 := n3_; have BK239 := n4_; have BK248 := n5_; have HB := n6_; clear n0_ n1_ n2_ n3_ n4_ n5_ n6_; (try clear hb); (try clear hb2); (try clear hk); (try clear hi)))
                  go_meet
                  case rel => exact ⟨_, ((t247 != t238)), (by first | rfl | (simp; done) | (simp [*]; done)), H', ⟨by have := HJ7.out; first | omega | exact Nat.le_refl _⟩, ⟨by (with_reducible repeat (first | apply Kd.V_alloc | apply Kd.V_drewN | apply Kd.V_drew)); exact Kd.V_mono HO_240000.out (fun _ hk => ⟨hk.2.1, ⟨hk.2.2.2.1, hk.2.2.2.2⟩⟩)⟩, ⟨by (with_reducible repeat (first | apply Kd.R_alloc | apply Kd.R_drewN | apply Kd.R_drew)); exact Kd.R_mono HO_249000.out (fun _ hk => trivial)⟩, ⟨by (with_reducible repeat (first | refine blk_drewN ?_ _ | refine blk_drew ?_ | refine blk_alloc ?_ _)); exact BK239.out⟩, ⟨by (with_reducible repeat (first | refine blk_drewN ?_ _ | refine blk_drew ?_ | refine blk_alloc ?_ _)); exact BK248.out⟩, ⟨by repeat (first | (with_reducible first | exact HB.out | apply below_alloc | apply pw_below_drewN | apply below_drew1 | refine below_set ?_ GE239.out | refine below_set ?_ GE248.out) | exact HB.out)⟩⟩
                · replace c43 := Bool.eq_false_iff.mpr c43
                  subst c43
                  have H1 : (laws_FnExactVoteOf.j1 kj7 a0 l1 t238 true t234 t237 t243 t246) = some r := by rw [if_neg (show ¬ (false = true) by decide)] at H; exact H
                  clear H
                  have H := H1
                  clear H1
                  have H' := Aside0.mk H
                  clear H
                  have hnb48 := NB248_239.out
                  have hnc48 := NB239_248.out
                  have hcz49_0 : w40.cell? ⟨gb248, 0, none⟩ = some (.slice Ao19 t243.length co19) := (blk_cell BK248.out 0).trans rfl
                  have hcz49_1 : w40.cell? ⟨gb248, 1, none⟩ = some (.int .i64 t246) := (blk_cell BK248.out 1).trans rfl
                  have hfz49_0 := blk_frozen BK248.out 0
                  have hfz49_1 := blk_frozen BK248.out 1
                  have hcz50_0 : w40.cell? ⟨gb239, 0, none⟩ = some (.slice Ao13 t234.length co13) := (blk_cell BK239.out 0).trans rfl
                  have hcz50_1 : w40.cell? ⟨gb239, 1, none⟩ = some (.int .i64 t237) := (blk_cell BK239.out 1).trans rfl
                  have hfz50_0 := blk_frozen BK239.out 0
                  have hfz50_1 := blk_frozen BK239.out 1
                  go_wp2_with (first | (go_at_call 41; (with_reducible refine (laws_eqVote.calls kj7 _ _ t243 t246 _ _ t234 t237 false _ ?side1 ?side2 ?side3 ?side4 A42.out).mono ?_); (case side1 => repeat (first | exact (Kd.R_reads' HO_249000.out).2.2 | (with_reducible refine Kd.C_alloc ?_ _) | (with_reducible refine Kd.C_drewN ?_ _) | (with_reducible refine Kd.C_drew ?_))); (case side2 => exact (Kd.R_reads' HO_249000.out).2.1); (case side3 => repeat (first | exact (Kd.V_reads' HO_240000.out).2.2 | (with_reducible refine Kd.C_alloc ?_ _) | (with_reducible refine Kd.C_drewN ?_ _) | (with_reducible refine Kd.C_drew ?_))); (case side4 => exact (Kd.V_reads' HO_240000.out).2.1); rintro e w51 ⟨rfl, hb⟩; have n0_ := Aside0.mk (Kd.R_below (by (with_reducible repeat (first | apply Kd.R_alloc | apply Kd.R_drewN | apply Kd.R_drew)); exact HO_7.out) hb); have n1_ := Aside0.mk (Kd.V_below (by (with_reducible repeat (first | apply Kd.V_alloc | apply Kd.V_drewN | apply Kd.V_drew)); exact HO_240000.out) hb); have n2_ := Aside0.mk (Kd.R_below (by (with_reducible repeat (first | apply Kd.R_alloc | apply Kd.R_drewN | apply Kd.R_drew)); exact HO_249000.out) hb); have n3_ := Aside0.mk (Kd.R_below (by (with_reducible repeat (first | apply Kd.R_alloc | apply Kd.R_drewN | apply Kd.R_drew)); exact HO252.out) hb); have n4_ := Aside0.mk (blk_below (g := gb239) (o := .cells #[.slice Ao13 t234.length co13, .int .i64 t237] 57 (0, 0)) (by (with_reducible repeat (first | refine blk_drewN ?_ _ | refine blk_drew ?_ | refine blk_alloc ?_ _)); exact BK239.out) hb); have n5_ := Aside0.mk (blk_below (g := gb248) (o := .cells #[.slice Ao19 t243.length co19, .int .i64 t246] 57 (0, 0)) (by (with_reducible repeat (first | refine blk_drewN ?_ _ | refine blk_drew ?_ | refine blk_alloc ?_ _)); exact BK248.out) hb); have n6_ := Aside0.mk (below_step (by repeat (first | (with_reducible first | exact HB.out | apply below_alloc | apply pw_below_drewN | apply below_drew1 | refine below_set ?_ GE239.out | refine below_set ?_ GE248.out) | exact HB.out)) hb); clear HO_7; clear HO_240000; clear HO_249000; clear HO252; clear BK239; clear BK248; clear HB; have HO_7 := n0_; have HO_240000 := n1_; have HO_249000 := n2_; have HO252 := n3_; have BK239 := n4_; have BK248 := n5_; have HB := n6_; clear n0_ n1_ n2_ n3_ n4_ n5_ n6_; (try clear hb); (try clear hb2); (try clear hk); (try clear hi)))
                  go_meet
                  case rel => exact ⟨_, (true), (by first | rfl | (simp; done) | (simp [*]; done)), H', ⟨by have := HJ7.out; first | omega | exact Nat.le_refl _⟩, ⟨by (with_reducible repeat (first | apply Kd.V_alloc | apply Kd.V_drewN | apply Kd.V_drew)); exact Kd.V_mono HO_240000.out (fun _ hk => ⟨hk.2.1, ⟨hk.2.2.2.1, hk.2.2.2.2⟩⟩)⟩, ⟨by (with_reducible repeat (first | apply Kd.R_alloc | apply Kd.R_drewN | apply Kd.R_drew)); exact Kd.R_mono HO_249000.out (fun _ hk => trivial)⟩, ⟨by (with_reducible repeat (first | refine blk_drewN ?_ _ | refine blk_drew ?_ | refine blk_alloc ?_ _)); exact BK239.out⟩, ⟨by (with_reducible repeat (first | refine blk_drewN ?_ _ | refine blk_drew ?_ | refine blk_alloc ?_ _)); exact BK248.out⟩, ⟨by repeat (first | (with_reducible first | exact HB.out | apply below_alloc | apply pw_below_drewN | apply below_drew1 | refine below_set ?_ GE239.out | refine below_set ?_ GE248.out) | exact HB.out)⟩⟩
            case rest =>
              clear HC37
              try clear c1
              try clear c2
              try clear p2
              try clear c3
              try clear c3b0
              try clear c3b1
              try clear c4
              try clear c5
              try clear c10
              try clear c20
              try clear c23
              try clear c24
              try clear c28
              try clear c32
              try clear c35
              try clear c40
              try clear c41
              try clear c41b0
              try clear c43
              try clear c44
              try clear c46
              try clear c48
              try clear c50
              try clear c51
              try clear hcz14_0
              try clear hcz14_1
              try clear hcz21_0
              try clear hcz21_1
              try clear hcz25_0
              try clear hcz25_1
              try clear hcz26_0
              try clear hcz26_1
              try clear hcz29_0
              try clear hcz29_1
              try clear hcz30_0
              try clear hcz30_1
              try clear hcz45_0
              try clear hcz45_1
              try clear hcz46_0
              try clear hcz46_1
              try clear hcz49_0
              try clear hcz49_1
              try clear hcz50_0
              try clear hcz50_1
              try clear hfz14_0
              try clear hfz14_1
              try clear hfz21_0
              try clear hfz21_1
              try clear hfz25_0
              try clear hfz25_1
              try clear hfz26_0
              try clear hfz26_1
              try clear hfz29_0
              try clear hfz29_1
              try clear hfz30_0
              try clear hfz30_1
              try clear hfz45_0
              try clear hfz45_1
              try clear hfz46_0
              try clear hfz46_1
              try clear hfz49_0
              try clear hfz49_1
              try clear hfz50_0
              try clear hfz50_1
              try clear p2
              obtain ⟨kq, x62_36, rfl, HA, HJ36, HO_240000, HO_249000, BK239, BK248, HB⟩ := hcut
              cases kq with
              | zero => exact absurd HA.out (by simp [laws_FnExactVoteOf.j1])
              | succ kj36 =>
                have H := HA.out
                clear HA
                simp only [laws_FnExactVoteOf.j1] at H
                by_cases c52 : x62_36 = true
                · subst c52
                  have H1 : (some false) = some r := by rw [if_pos rfl] at H; exact H
                  clear H
                  have H := H1
                  clear H1
                  obtain rfl := Option.some.inj H
                  go_wp2
                  go_ret
                  exact ⟨by first | rfl | (simp [errW_none, errW_some] <;> rfl) | (simp [*, errW_none, errW_some] <;> rfl), by repeat (first | (with_reducible first | exact HB.out | apply below_alloc | apply pw_below_drewN | apply below_drew1 | refine below_set ?_ GE239.out | refine below_set ?_ GE248.out) | exact HB.out)⟩
                · replace c52 := Bool.eq_false_iff.mpr c52
                  subst c52
                  have H1 : ((laws_markVote.f kj36 t243 t246 1).bind fun bt257 => ((laws_heldVote.f kj36 bt257.2 t246 1).bind fun t259 => (if t259 < 0 then (some false) else (if t259 = bt257.1 then ((laws_toIntS.f kj36 l1).bind fun t260 => ((impl_VoteOf.f kj36 a0 t260).bind fun bt263 => ((laws_eqVote.f kj36 bt263.1 bt263.2.1 t234 t237).bind fun t269 => (if t269 = true then (laws_FnExactVoteOf.j2 kj36 bt257.1 (bt263.2.2 != t238) bt257.2 t246) else (laws_FnExactVoteOf.j2 kj36 bt257.1 true bt257.2 t246))))) else (some false))))) = some r := by rw [if_neg (show ¬ (false = true) by decide)] at H; exact H
                  clear H
                  have H := H1
                  clear H1
                  replace H := Option.bind_eq_some_iff.mp H
                  obtain ⟨⟨t257, t258⟩, A530, H⟩ := H
                  replace H : ((laws_heldVote.f kj36 t258 t246 1).bind fun t259 => (if t259 < 0 then (some false) else (if t259 = t257 then ((laws_toIntS.f kj36 l1).bind fun t260 => ((impl_VoteOf.f kj36 a0 t260).bind fun bt263 => ((laws_eqVote.f kj36 bt263.1 bt263.2.1 t234 t237).bind fun t269 => (if t269 = true then (laws_FnExactVoteOf.j2 kj36 t257 (bt263.2.2 != t238) t258 t246) else (laws_FnExactVoteOf.j2 kj36 t257 true t258 t246))))) else (some false)))) = some r := H
                  have A53 := Aside0.mk A530
                  clear A530
                  replace H := Option.bind_eq_some_iff.mp H
                  obtain ⟨t259, A540, H⟩ := H
                  replace H : (if t259 < 0 then (some false) else (if t259 = t257 then ((laws_toIntS.f kj36 l1).bind fun t260 => ((impl_VoteOf.f kj36 a0 t260).bind fun bt263 => ((laws_eqVote.f kj36 bt263.1 bt263.2.1 t234 t237).bind fun t269 => (if t269 = true then (laws_FnExactVoteOf.j2 kj36 t257 (bt263.2.2 != t238) t258 t246) else (laws_FnExactVoteOf.j2 kj36 t257 true t258 t246))))) else (some false))) = some r := H
                  have A54 := Aside0.mk A540
                  clear A540
                  by_cases c55 : t259 < 0
                  · rw [if_pos c55] at H
                    have c55b0 : decide (t259 < 0) = true := decide_eq_true c55
                    clear c55
                    obtain rfl := Option.some.inj H
                    have hnb56 := NB248_239.out
                    have hnc56 := NB239_248.out
                    have hcz57_0 : wc.cell? ⟨gb248, 0, none⟩ = some (.slice Ao19 t243.length co19) := (blk_cell BK248.out 0).trans rfl
                    have hcz57_1 : wc.cell? ⟨gb248, 1, none⟩ = some (.int .i64 t246) := (blk_cell BK248.out 1).trans rfl
                    have hfz57_0 := blk_frozen BK248.out 0
                    have hfz57_1 := blk_frozen BK248.out 1
                    go_wp2_with (first | ((with_reducible refine gate_callee (f := 42) rfl ?_); refine goesL_ (some 65) rfl rfl Try.func42 (by kernel_rfl) rfl #[.agg #[.slice Ao19 t243.length co19, .int .i64 t246], .int .i64 1] rfl (by (try simp only [List.map_toArray, List.map_cons, List.map_nil]); first | done | rfl | (simp only [List.length_drop, List.length_take]; rfl)) ?_; (with_reducible refine (laws_markVote.calls kj36 (fun k_ => some k_ = (.slice Ao19 t243.length co19 : Value).ownBlock) (.slice Ao19 t243.length co19) t243 t246 1 t257 t258 w _ ?side1 ?side2 A53.out).mono ?_); (case side1 => repeat (first | (with_reducible first | exact HB.out | apply below_alloc | apply pw_below_drewN | apply below_drew1 | refine below_set ?_ GE239.out | refine below_set ?_ GE248.out) | exact HB.out)); (case side2 => exact Kd.R_tight rfl HO_249000.out); rintro e w58 ⟨rfl, hy0, hb, hkp⟩; refine ⟨_, rfl, ?_⟩; have n0_ := Aside0.mk (Kd.V_mono (ok' := fun k_ => some k_ ≠ (.slice Ao19 t243.length co19 : Value).ownBlock ∧ k_ ≠ gb239 ∧ k_ ≠ gb248) (Kd.V_keptB (HO_240000.out) hkp (fun k_ hk_ hs_ => (hk_.1) hs_)) (fun k_ hk_ => ⟨hk_.1.1, hk_.1.2.1, hk_.1.2.2⟩)); have n1_ := Aside0.mk (Kd.R_reok rfl hy0 (fun k_ e_ => HO_249000.out.1 k_ e_)); have n2_ := Aside0.mk (blk_kept (by (with_reducible repeat (first | refine blk_drewN ?_ _ | refine blk_drew ?_ | refine blk_alloc ?_ _)); exact BK239.out) hkp (fun hs_ => (fun e_ => (Kd.R_ne HO_249000.out BK239.out (by decide)) e_) hs_)); have n3_ := Aside0.mk (blk_kept (by (with_reducible repeat (first | refine blk_drewN ?_ _ | refine blk_drew ?_ | refine blk_alloc ?_ _)); exact BK248.out) hkp (fun hs_ => (fun e_ => (Kd.R_ne HO_249000.out BK248.out (by decide)) e_) hs_)); have n4_ := Aside0.mk (hb); clear HO_240000; clear HO_249000; clear BK239; clear BK248; clear HB; have HO_240000 := n0_; have HO_249000 := n1_; have BK239 := n2_; have BK248 := n3_; have HB := n4_; clear n0_ n1_ n2_ n3_ n4_; (try clear hb); (try clear hkp); (try clear hy0); have hcz59_0 : w58.cell? ⟨gb248, 0, none⟩ = some (.slice Ao19 t243.length co19) := (blk_cell BK248.out 0).trans rfl; have hcz59_1 : w58.cell? ⟨gb248, 1, none⟩ = some (.int .i64 t246) := (blk_cell BK248.out 1).trans rfl; have hfz59_0 := blk_frozen BK248.out 0; have hfz59_1 := blk_frozen BK248.out 1) | ((with_reducible refine gate_callee (f := 52) rfl ?_); refine goesL_ (some 68) rfl rfl Try.func52 (by kernel_rfl) rfl #[.agg #[.slice Ao19 t258.length co19, .int .i64 t246], .int .i64 1] rfl (by (try simp only [List.map_toArray, List.map_cons, List.map_nil]); first | done | (rw [show t258.length = t243.length from (Kd.R_reads' HO_249000.out).1.symm] <;> rfl) | rfl | (simp only [List.length_drop, List.length_take]; rfl)) ?_; (with_reducible refine (laws_heldVote.calls kj36 _ _ t258 t246 1 t259 _ ?side1 ?side2 A54.out).mono ?_); (case side1 => repeat (first | exact (Kd.R_reads' HO_249000.out).2.2 | (with_reducible refine Kd.C_alloc ?_ _) | (with_reducible refine Kd.C_drewN ?_ _) | (with_reducible refine Kd.C_drew ?_))); (case side2 => rw [show t258.length = t243.length from (Kd.R_reads' HO_249000.out).1.symm]; exact (Kd.R_reads' HO_249000.out).2.1); rintro e w60 ⟨rfl, hb⟩; refine ⟨_, rfl, ?_⟩; have n0_ := Aside0.mk (Kd.V_below (by (with_reducible repeat (first | apply Kd.V_alloc | apply Kd.V_drewN | apply Kd.V_drew)); exact HO_240000.out) hb); have n1_ := Aside0.mk (Kd.R_below (by (with_reducible repeat (first | apply Kd.R_alloc | apply Kd.R_drewN | apply Kd.R_drew)); exact HO_249000.out) hb); have n2_ := Aside0.mk (blk_below (g := gb239) (o := .cells #[.slice Ao13 t234.length co13, .int .i64 t237] 57 (0, 0)) (by (with_reducible repeat (first | refine blk_drewN ?_ _ | refine blk_drew ?_ | refine blk_alloc ?_ _)); exact BK239.out) hb); have n3_ := Aside0.mk (blk_below (g := gb248) (o := .cells #[.slice Ao19 t243.length co19, .int .i64 t246] 57 (0, 0)) (by (with_reducible repeat (first | refine blk_drewN ?_ _ | refine blk_drew ?_ | refine blk_alloc ?_ _)); exact BK248.out) hb); have n4_ := Aside0.mk (below_step (by repeat (first | (with_reducible first | exact HB.out | apply below_alloc | apply pw_below_drewN | apply below_drew1 | refine below_set ?_ GE239.out | refine below_set ?_ GE248.out) | exact HB.out)) hb); clear HO_240000; clear HO_249000; clear BK239; clear BK248; clear HB; have HO_240000 := n0_; have HO_249000 := n1_; have BK239 := n2_; have BK248 := n3_; have HB := n4_; clear n0_ n1_ n2_ n3_ n4_; (try clear hb); (try clear hb2); (try clear hk); (try clear hi)))
                    go_ret
                    exact ⟨by first | rfl | (simp [errW_none, errW_some] <;> rfl) | (simp [*, errW_none, errW_some] <;> rfl), by repeat (first | (with_reducible first | exact HB.out | apply below_alloc | apply pw_below_drewN | apply below_drew1 | refine below_set ?_ GE239.out | refine below_set ?_ GE248.out) | exact HB.out)⟩
                  · rw [if_neg c55] at H
                    have c55b0 : decide (t259 < 0) = false := decide_eq_false c55
                    clear c55
                    by_cases c61 : t259 = t257
                    · rw [if_pos c61] at H
                      have c61b0 : (t259 == t257) = true := beq_iff_eq.mpr c61
                      have c61b1 : (t259 != t257) = false := bne_eq_false_iff_eq.mpr c61
                      clear c61
                      replace H := Option.bind_eq_some_iff.mp H
                      obtain ⟨t260, A620, H⟩ := H
                      replace H : ((impl_VoteOf.f kj36 a0 t260).bind fun bt263 => ((laws_eqVote.f kj36 bt263.1 bt263.2.1 t234 t237).bind fun t269 => (if t269 = true then (laws_FnExactVoteOf.j2 kj36 t257 (bt263.2.2 != t238) t258 t246) else (laws_FnExactVoteOf.j2 kj36 t257 true t258 t246)))) = some r := H
                      have A62 := Aside0.mk A620
                      clear A620
                      replace H := Option.bind_eq_some_iff.mp H
                      obtain ⟨⟨t263, t266, t267⟩, A630, H⟩ := H
                      replace H : ((laws_eqVote.f kj36 t263 t266 t234 t237).bind fun t269 => (if t269 = true then (laws_FnExactVoteOf.j2 kj36 t257 (t267 != t238) t258 t246) else (laws_FnExactVoteOf.j2 kj36 t257 true t258 t246))) = some r := H
                      have A63 := Aside0.mk A630
                      clear A630
                      have HC64 := Aside0.mk H
                      clear H
                      have hnb65 := NB248_239.out
                      have hnc65 := NB239_248.out
                      have hcz66_0 : wc.cell? ⟨gb248, 0, none⟩ = some (.slice Ao19 t243.length co19) := (blk_cell BK248.out 0).trans rfl
                      have hcz66_1 : wc.cell? ⟨gb248, 1, none⟩ = some (.int .i64 t246) := (blk_cell BK248.out 1).trans rfl
                      have hfz66_0 := blk_frozen BK248.out 0
                      have hfz66_1 := blk_frozen BK248.out 1
                      go_upto_region 23 with (first | ((with_reducible refine gate_callee (f := 42) rfl ?_); refine goesL_ (some 65) rfl rfl Try.func42 (by kernel_rfl) rfl #[.agg #[.slice Ao19 t243.length co19, .int .i64 t246], .int .i64 1] rfl (by (try simp only [List.map_toArray, List.map_cons, List.map_nil]); first | done | rfl | (simp only [List.length_drop, List.length_take]; rfl)) ?_; (with_reducible refine (laws_markVote.calls kj36 (fun k_ => some k_ = (.slice Ao19 t243.length co19 : Value).ownBlock) (.slice Ao19 t243.length co19) t243 t246 1 t257 t258 w _ ?side1 ?side2 A53.out).mono ?_); (case side1 => repeat (first | (with_reducible first | exact HB.out | apply below_alloc | apply pw_below_drewN | apply below_drew1 | refine below_set ?_ GE239.out | refine below_set ?_ GE248.out) | exact HB.out)); (case side2 => exact Kd.R_tight rfl HO_249000.out); rintro e w67 ⟨rfl, hy0, hb, hkp⟩; refine ⟨_, rfl, ?_⟩; have n0_ := Aside0.mk (Kd.V_mono (ok' := fun k_ => some k_ ≠ (.slice Ao19 t243.length co19 : Value).ownBlock ∧ k_ ≠ gb239 ∧ k_ ≠ gb248) (Kd.V_keptB (HO_240000.out) hkp (fun k_ hk_ hs_ => (hk_.1) hs_)) (fun k_ hk_ => ⟨hk_.1.1, hk_.1.2.1, hk_.1.2.2⟩)); have n1_ := Aside0.mk (Kd.R_reok rfl hy0 (fun k_ e_ => HO_249000.out.1 k_ e_)); have n2_ := Aside0.mk (blk_kept (by (with_reducible repeat (first | refine blk_drewN ?_ _ | refine blk_drew ?_ | refine blk_alloc ?_ _)); exact BK239.out) hkp (fun hs_ => (fun e_ => (Kd.R_ne HO_249000.out BK239.out (by decide)) e_) hs_)); have n3_ := Aside0.mk (blk_kept (by (with_reducible repeat (first | refine blk_drewN ?_ _ | refine blk_drew ?_ | refine blk_alloc ?_ _)); exact BK248.out) hkp (fun hs_ => (fun e_ => (Kd.R_ne HO_249000.out BK248.out (by decide)) e_) hs_)); have n4_ := Aside0.mk (hb); clear HO_240000; clear HO_249000; clear BK239; clear BK248; clear HB; have HO_240000 := n0_; have HO_249000 := n1_; have BK239 := n2_; have BK248 := n3_; have HB := n4_; clear n0_ n1_ n2_ n3_ n4_; (try clear hb); (try clear hkp); (try clear hy0); have hcz68_0 : w67.cell? ⟨gb248, 0, none⟩ = some (.slice Ao19 t243.length co19) := (blk_cell BK248.out 0).trans rfl; have hcz68_1 : w67.cell? ⟨gb248, 1, none⟩ = some (.int .i64 t246) := (blk_cell BK248.out 1).trans rfl; have hfz68_0 := blk_frozen BK248.out 0; have hfz68_1 := blk_frozen BK248.out 1) | ((with_reducible refine gate_callee (f := 52) rfl ?_); refine goesL_ (some 68) rfl rfl Try.func52 (by kernel_rfl) rfl #[.agg #[.slice Ao19 t258.length co19, .int .i64 t246], .int .i64 1] rfl (by (try simp only [List.map_toArray, List.map_cons, List.map_nil]); first | done | (rw [show t258.length = t243.length from (Kd.R_reads' HO_249000.out).1.symm] <;> rfl) | rfl | (simp only [List.length_drop, List.length_take]; rfl)) ?_; (with_reducible refine (laws_heldVote.calls kj36 _ _ t258 t246 1 t259 _ ?side1 ?side2 A54.out).mono ?_); (case side1 => repeat (first | exact (Kd.R_reads' HO_249000.out).2.2 | (with_reducible refine Kd.C_alloc ?_ _) | (with_reducible refine Kd.C_drewN ?_ _) | (with_reducible refine Kd.C_drew ?_))); (case side2 => rw [show t258.length = t243.length from (Kd.R_reads' HO_249000.out).1.symm]; exact (Kd.R_reads' HO_249000.out).2.1); rintro e w69 ⟨rfl, hb⟩; refine ⟨_, rfl, ?_⟩; have n0_ := Aside0.mk (Kd.V_below (by (with_reducible repeat (first | apply Kd.V_alloc | apply Kd.V_drewN | apply Kd.V_drew)); exact HO_240000.out) hb); have n1_ := Aside0.mk (Kd.R_below (by (with_reducible repeat (first | apply Kd.R_alloc | apply Kd.R_drewN | apply Kd.R_drew)); exact HO_249000.out) hb); have n2_ := Aside0.mk (blk_below (g := gb239) (o := .cells #[.slice Ao13 t234.length co13, .int .i64 t237] 57 (0, 0)) (by (with_reducible repeat (first | refine blk_drewN ?_ _ | refine blk_drew ?_ | refine blk_alloc ?_ _)); exact BK239.out) hb); have n3_ := Aside0.mk (blk_below (g := gb248) (o := .cells #[.slice Ao19 t243.length co19, .int .i64 t246] 57 (0, 0)) (by (with_reducible repeat (first | refine blk_drewN ?_ _ | refine blk_drew ?_ | refine blk_alloc ?_ _)); exact BK248.out) hb); have n4_ := Aside0.mk (below_step (by repeat (first | (with_reducible first | exact HB.out | apply below_alloc | apply pw_below_drewN | apply below_drew1 | refine below_set ?_ GE239.out | refine below_set ?_ GE248.out) | exact HB.out)) hb); clear HO_240000; clear HO_249000; clear BK239; clear BK248; clear HB; have HO_240000 := n0_; have HO_249000 := n1_; have BK239 := n2_; have BK248 := n3_; have HB := n4_; clear n0_ n1_ n2_ n3_ n4_; (try clear hb); (try clear hb2); (try clear hk); (try clear hi)) | ((with_reducible refine gate_callee (f := 46) rfl ?_); refine goesL_ (some 77) rfl rfl Try.func46 (by kernel_rfl) rfl #[.slice A1 l1.length c1] rfl (by (try simp only [List.map_toArray, List.map_cons, List.map_nil]); first | done | rfl | (simp only [List.length_drop, List.length_take]; rfl)) ?_; (with_reducible refine (laws_toIntS.calls kj36 _ _ l1 t260 _ ?side1 ?side2 A62.out).mono ?_); (case side1 => repeat (first | exact (Kd.C_below HR1.out HB.out) | (with_reducible refine Kd.C_alloc ?_ _) | (with_reducible refine Kd.C_drewN ?_ _) | (with_reducible refine Kd.C_drew ?_))); (case side2 => exact HC1.out); rintro e w70 ⟨v261, rfl, ho0, hb⟩; refine ⟨_, rfl, ?_⟩; have n0_ := Aside0.mk (Kd.V_elder' (by (with_reducible repeat (first | apply Kd.V_alloc | apply Kd.V_drewN | apply Kd.V_drew)); exact HO_240000.out) (Kd.R_base ho0) hb); have n1_ := Aside0.mk (Kd.R_elder' (by (with_reducible repeat (first | apply Kd.R_alloc | apply Kd.R_drewN | apply Kd.R_drew)); exact HO_249000.out) (Kd.R_base ho0) hb); have n2_ := Aside0.mk (Kd.R_lower (Kd.R_new' ho0 (Kd.R_lt (by (with_reducible repeat (first | apply Kd.R_alloc | apply Kd.R_drewN | apply Kd.R_drew)); exact HO_249000.out))) (below_size (by repeat (first | (with_reducible first | exact HB.out | apply below_alloc | apply pw_below_drewN | apply below_drew1 | refine below_set ?_ GE239.out | refine below_set ?_ GE248.out) | exact HB.out)))); have n3_ := Aside0.mk (blk_below (g := gb239) (o := .cells #[.slice Ao13 t234.length co13, .int .i64 t237] 57 (0, 0)) (by (with_reducible repeat (first | refine blk_drewN ?_ _ | refine blk_drew ?_ | refine blk_alloc ?_ _)); exact BK239.out) hb); have n4_ := Aside0.mk (blk_below (g := gb248) (o := .cells #[.slice Ao19 t243.length co19, .int .i64 t246] 57 (0, 0)) (by (with_reducible repeat (first | refine blk_drewN ?_ _ | refine blk_drew ?_ | refine blk_alloc ?_ _)); exact BK248.out) hb); have n5_ := Aside0.mk (below_step (by repeat (first | (with_reducible first | exact HB.out | apply below_alloc | apply pw_below_drewN | apply below_drew1 | refine below_set ?_ GE239.out | refine below_set ?_ GE248.out) | exact HB.out)) hb); clear HO_240000; clear HO_249000; clear BK239; clear BK248; clear HB; have HO_240000 := n0_; have HO_249000 := n1_; have HO262 := n2_; have BK239 := n3_; have BK248 := n4_; have HB := n5_; clear n0_ n1_ n2_ n3_ n4_ n5_; (try clear hb); (try clear hb2); (try clear hk); (try clear hi); (try clear ho0); obtain ⟨Ao71, co71, eo71⟩ := Kd.R_slice HO262.out; subst eo71) | ((with_reducible refine gate_callee (f := 51) rfl ?_); refine goesL_ (some 78) rfl rfl Try.func51 (by kernel_rfl) rfl #[.int .i64 a0, .slice Ao71 t260.length co71] rfl (by (try simp only [List.map_toArray, List.map_cons, List.map_nil]); first | done | rfl | (simp only [List.length_drop, List.length_take]; rfl)) ?_; (with_reducible refine (impl_VoteOf.calls kj36 a0 _ _ t260 t263 t266 t267 _ ?side1 ?side2 A63.out).mono ?_); (case side1 => repeat (first | exact (Kd.R_reads' HO262.out).2.2 | (with_reducible refine Kd.C_alloc ?_ _) | (with_reducible refine Kd.C_drewN ?_ _) | (with_reducible refine Kd.C_drew ?_))); (case side2 => exact (Kd.R_reads' HO262.out).2.1); rintro e w72 ⟨v264, rfl, ho0, hb⟩; refine ⟨_, rfl, ?_⟩; have n0_ := Aside0.mk (Kd.V_elder' (by (with_reducible repeat (first | apply Kd.V_alloc | apply Kd.V_drewN | apply Kd.V_drew)); exact HO_240000.out) (Kd.R_base ho0) hb); have n1_ := Aside0.mk (Kd.R_elder' (by (with_reducible repeat (first | apply Kd.R_alloc | apply Kd.R_drewN | apply Kd.R_drew)); exact HO_249000.out) (Kd.R_base ho0) hb); have n2_ := Aside0.mk (Kd.R_elder' (by (with_reducible repeat (first | apply Kd.R_alloc | apply Kd.R_drewN | apply Kd.R_drew)); exact HO262.out) (Kd.R_base ho0) hb); have n3_ := Aside0.mk (Kd.R_lower (Kd.R_new' (Kd.R_new' ho0 (Kd.R_lt (by (with_reducible repeat (first | apply Kd.R_alloc | apply Kd.R_drewN | apply Kd.R_drew)); exact HO_249000.out))) (Kd.R_lt (by (with_reducible repeat (first | apply Kd.R_alloc | apply Kd.R_drewN | apply Kd.R_drew)); exact HO262.out))) (below_size (by repeat (first | (with_reducible first | exact HB.out | apply below_alloc | apply pw_below_drewN | apply below_drew1 | refine below_set ?_ GE239.out | refine below_set ?_ GE248.out) | exact HB.out)))); have n4_ := Aside0.mk (blk_below (g := gb239) (o := .cells #[.slice Ao13 t234.length co13, .int .i64 t237] 57 (0, 0)) (by (with_reducible repeat (first | refine blk_drewN ?_ _ | refine blk_drew ?_ | refine blk_alloc ?_ _)); exact BK239.out) hb); have n5_ := Aside0.mk (blk_below (g := gb248) (o := .cells #[.slice Ao19 t243.length co19, .int .i64 t246] 57 (0, 0)) (by (with_reducible repeat (first | refine blk_drewN ?_ _ | refine blk_drew ?_ | refine blk_alloc ?_ _)); exact BK248.out) hb); have n6_ := Aside0.mk (below_step (by repeat (first | (with_reducible first | exact HB.out | apply below_alloc | apply pw_below_drewN | apply below_drew1 | refine below_set ?_ GE239.out | refine below_set ?_ GE248.out) | exact HB.out)) hb); clear HO_240000; clear HO_249000; clear HO262; clear BK239; clear BK248; clear HB; have HO_240000 := n0_; have HO_249000 := n1_; have HO262 := n2_; have HO265 := n3_; have BK239 := n4_; have BK248 := n5_; have HB := n6_; clear n0_ n1_ n2_ n3_ n4_ n5_ n6_; (try clear hb); (try clear hb2); (try clear hk); (try clear hi); (try clear ho0)) | ((with_reducible refine gate_dst (N := 13) rfl ?_); refine box_event ?hg (N := 13) ?hd (cs := #[.slice none 0 0, .int .i64 0]) (t := 57) ?hr ?_; (case hd => rfl); (case hg => rfl); (case hr => first | (go_simp; done) | (go_simp; rfl)); intro gb268 hg w73 hbox hb; have n0_ := Aside0.mk (Kd.V_below (Kd.V_elderB (by (with_reducible repeat (first | apply Kd.V_alloc | apply Kd.V_drewN | apply Kd.V_drew)); exact HO_240000.out) gb268 (Nat.le_of_eq hg.symm)) hb); have n1_ := Aside0.mk (Kd.R_below (by (with_reducible repeat (first | apply Kd.R_alloc | apply Kd.R_drewN | apply Kd.R_drew)); exact HO_249000.out) hb); have n2_ := Aside0.mk (Kd.R_below (by (with_reducible repeat (first | apply Kd.R_alloc | apply Kd.R_drewN | apply Kd.R_drew)); exact HO262.out) hb); have n3_ := Aside0.mk (Kd.R_below (by (with_reducible repeat (first | apply Kd.R_alloc | apply Kd.R_drewN | apply Kd.R_drew)); exact HO265.out) hb); have n4_ := Aside0.mk (blk_below (g := gb239) (o := .cells #[.slice Ao13 t234.length co13, .int .i64 t237] 57 (0, 0)) (by (with_reducible repeat (first | refine blk_drewN ?_ _ | refine blk_drew ?_ | refine blk_alloc ?_ _)); exact BK239.out) hb); have n5_ := Aside0.mk (blk_below (g := gb248) (o := .cells #[.slice Ao19 t243.length co19, .int .i64 t246] 57 (0, 0)) (by (with_reducible repeat (first | refine blk_drewN ?_ _ | refine blk_drew ?_ | refine blk_alloc ?_ _)); exact BK248.out) hb); have n6_ := Aside0.mk (below_step (by repeat (first | (with_reducible first | exact HB.out | apply below_alloc | apply pw_below_drewN | apply below_drew1 | refine below_set ?_ GE239.out | refine below_set ?_ GE248.out) | exact HB.out)) hb); have n7_ := Aside0.mk (hbox); have n8_ := Aside0.mk ((by rw [hg]; exact (below_size (by repeat (first | (with_reducible first | exact HB.out | apply below_alloc | apply pw_below_drewN | apply below_drew1 | refine below_set ?_ GE239.out | refine below_set ?_ GE248.out) | exact HB.out))) : w.heap.size ≤ gb268)); have n9_ := Aside0.mk ((by rw [hg]; exact (below_size (by repeat (first | (with_reducible first | exact HB.out | apply below_alloc | apply pw_below_drewN | apply below_drew1 | refine below_set ?_ GE239.out | refine below_set ?_ GE248.out) | exact HB.out))) : w.heap.size ≤ gb268)); have n10_ := Aside0.mk ((by rw [hg]; exact Nat.ne_of_lt (blk_lt (g := gb239) (o := .cells #[.slice Ao13 t234.length co13, .int .i64 t237] 57 (0, 0)) (by (with_reducible repeat (first | refine blk_drewN ?_ _ | refine blk_drew ?_ | refine blk_alloc ?_ _)); exact BK239.out)) : gb239 ≠ gb268)); have n11_ := Aside0.mk ((by rw [hg]; exact Nat.ne_of_gt (blk_lt (g := gb239) (o := .cells #[.slice Ao13 t234.length co13, .int .i64 t237] 57 (0, 0)) (by (with_reducible repeat (first | refine blk_drewN ?_ _ | refine blk_drew ?_ | refine blk_alloc ?_ _)); exact BK239.out)) : gb268 ≠ gb239)); have n12_ := Aside0.mk ((by rw [hg]; exact Nat.ne_of_lt (blk_lt (g := gb248) (o := .cells #[.slice Ao19 t243.length co19, .int .i64 t246] 57 (0, 0)) (by (with_reducible repeat (first | refine blk_drewN ?_ _ | refine blk_drew ?_ | refine blk_alloc ?_ _)); exact BK248.out)) : gb248 ≠ gb268)); have n13_ := Aside0.mk ((by rw [hg]; exact Nat.ne_of_gt (blk_lt (g := gb248) (o := .cells #[.slice Ao19 t243.length co19, .int .i64 t246] 57 (0, 0)) (by (with_reducible repeat (first | refine blk_drewN ?_ _ | refine blk_drew ?_ | refine blk_alloc ?_ _)); exact BK248.out)) : gb268 ≠ gb248)); clear HO_240000; clear HO_249000; clear HO262; clear HO265; clear BK239; clear BK248; clear HB; have HO_240000 := n0_; have HO_249000 := n1_; have HO262 := n2_; have HO265 := n3_; have BK239 := n4_; have BK248 := n5_; have HB := n6_; have BK268 := n7_; have GW268 := n8_; have GE268 := n9_; have NB239_268 := n10_; have NB268_239 := n11_; have NB248_268 := n12_; have NB268_248 := n13_; clear n0_ n1_ n2_ n3_ n4_ n5_ n6_ n7_ n8_ n9_ n10_ n11_ n12_ n13_; clear hb hbox hg; obtain ⟨Ao74, co74, eo74⟩ := Kd.R_slice HO265.out; subst eo74; have hnb75 := NB268_239.out; have hnc75 := NB239_268.out; have hnb76 := NB268_248.out; have hnc76 := NB248_268.out; have hcz77_0 : w73.cell? ⟨gb268, 0, none⟩ = some (.slice none 0 0) := (blk_cell BK268.out 0).trans rfl; have hcz77_1 : w73.cell? ⟨gb268, 1, none⟩ = some (.int .i64 0) := (blk_cell BK268.out 1).trans rfl; have hfz77_0 := blk_frozen BK268.out 0; have hfz77_1 := blk_frozen BK268.out 1))
                      (try simp only [Act.put, List.setIfInBounds_toArray, List.set_cons_zero, List.set_cons_succ])
                      go_cut [89] (fun v89 wc => ∃ (kq : Nat) (x89_63 : Bool), v89 = .bool x89_63 ∧ Aside0 (laws_FnExactVoteOf.j2 kq t257 x89_63 t258 t246 = some r) ∧ Aside0 (kq ≤ kj36) ∧ Aside0 (Kd.V (Kd.int .i64) 3 wc w.heap.size (fun k_ => some k_ ≠ ((.slice Ao19 t243.length co19) : Value).ownBlock ∧ some k_ ≠ ((.slice Ao74 t263.length co74) : Value).ownBlock ∧ k_ ≠ gb239 ∧ k_ ≠ gb248 ∧ k_ ≠ gb268) (.slice Ao13 t234.length co13) t234) ∧ Aside0 (Kd.R (Kd.int .i64) 3 wc w.heap.size (fun k_ => some k_ ≠ ((.slice Ao74 t263.length co74) : Value).ownBlock) (.slice Ao19 t243.length co19) t258) ∧ Aside0 (Kd.R (Kd.int .i64) 3 wc w.heap.size (fun k_ => some k_ ≠ ((.slice Ao19 t243.length co19) : Value).ownBlock) (.slice Ao74 t263.length co74) t263) ∧ Aside0 (wc.heap[gb239]? = some (.cells #[(.slice Ao13 t234.length co13), .int .i64 t237] 57 (0, 0))) ∧ Aside0 (wc.heap[gb248]? = some (.cells #[(.slice Ao19 t243.length co19), .int .i64 t246] 57 (0, 0))) ∧ Aside0 (wc.heap[gb268]? = some (.cells #[(.slice Ao74 t263.length co74), .int .i64 t266] 57 (0, 0))) ∧ Aside0 (Below w.heap.size w wc))
                      case first =>
                        have H := HC64.out
                        clear HC64
                        replace H := Option.bind_eq_some_iff.mp H
                        obtain ⟨t269, A780, H⟩ := H
                        replace H : (if t269 = true then (laws_FnExactVoteOf.j2 kj36 t257 (t267 != t238) t258 t246) else (laws_FnExactVoteOf.j2 kj36 t257 true t258 t246)) = some r := H
                        have A78 := Aside0.mk A780
                        clear A780
                        by_cases c79 : t269 = true
                        · subst c79
                          have H1 : (laws_FnExactVoteOf.j2 kj36 t257 (t267 != t238) t258 t246) = some r := by rw [if_pos rfl] at H; exact H
                          clear H
                          have H := H1
                          clear H1
                          have H' := Aside0.mk H
                          clear H
                          have hnb80 := NB268_239.out
                          have hnc80 := NB239_268.out
                          have hnb81 := NB268_248.out
                          have hnc81 := NB248_268.out
                          have hcz82_0 : w73.cell? ⟨gb268, 0, none⟩ = some (.slice none 0 0) := (blk_cell BK268.out 0).trans rfl
                          have hcz82_1 : w73.cell? ⟨gb268, 1, none⟩ = some (.int .i64 0) := (blk_cell BK268.out 1).trans rfl
                          have hfz82_0 := blk_frozen BK268.out 0
                          have hfz82_1 := blk_frozen BK268.out 1
                          have hnb83 := NB239_248.out
                          have hnc83 := NB248_239.out
                          have hcz84_0 : w73.cell? ⟨gb239, 0, none⟩ = some (.slice Ao13 t234.length co13) := (blk_cell BK239.out 0).trans rfl
                          have hcz84_1 : w73.cell? ⟨gb239, 1, none⟩ = some (.int .i64 t237) := (blk_cell BK239.out 1).trans rfl
                          have hfz84_0 := blk_frozen BK239.out 0
                          have hfz84_1 := blk_frozen BK239.out 1
                          go_wp2_with (first | ((with_reducible refine gate_callee (f := 41) rfl ?_); refine goesL_ (some 83) rfl rfl Try.func41 (by kernel_rfl) rfl #[.agg #[.slice Ao74 t263.length co74, .int .i64 t266], .agg #[.slice Ao13 t234.length co13, .int .i64 t237]] rfl (by (try simp only [List.map_toArray, List.map_cons, List.map_nil]); first | done | rfl | (simp only [List.length_drop, List.length_take]; rfl)) ?_; (with_reducible refine (laws_eqVote.calls kj36 _ _ t263 t266 _ _ t234 t237 true _ ?side1 ?side2 ?side3 ?side4 A78.out).mono ?_); (case side1 => refine (Kd.R_reads' (e := 3) (base := w.heap.size) (ok := fun k_ => ((True ∧ some k_ ≠ (.slice Ao19 t243.length co19 : Value).ownBlock) ∧ some k_ ≠ (.slice Ao71 t260.length co71 : Value).ownBlock)) (n := t263.length) (c := co74) ?_).2.2; exact (by (with_reducible repeat (first | apply Kd.R_alloc | apply Kd.R_drewN | apply Kd.R_drew)); exact (Kd.R_mono (Kd.R_far (p := ⟨gb268, 1, none⟩) (Kd.R_far (p := ⟨gb268, 0, none⟩) (Kd.R_types HO265.out BK268.out (by decide)) (fun _ hk => hk.2) (.slice Ao74 t263.length co74)) (fun _ hk => hk.2) (.int .i64 t266)) (fun _ h_ => h_.1)))); (case side2 => exact (Kd.R_reads' HO265.out).2.1); (case side3 => refine (Kd.V_reads' (e := 3) (base := w.heap.size) (ok := fun k_ => ((((some k_ ≠ (.slice Ao19 t243.length co19 : Value).ownBlock ∧ (k_ ≠ gb239 ∧ k_ ≠ gb248)) ∧ some k_ ≠ (.slice Ao71 t260.length co71 : Value).ownBlock) ∧ some k_ ≠ (.slice Ao74 t263.length co74 : Value).ownBlock) ∧ k_ ≠ gb268)) (n := t234.length) (c := co13) ?_).2.2; exact (by (with_reducible repeat (first | apply Kd.V_alloc | apply Kd.V_drewN | apply Kd.V_drew)); exact (Kd.V_mono (Kd.V_far (p := ⟨gb268, 1, none⟩) (Kd.V_far (p := ⟨gb268, 0, none⟩) (Kd.V_mono HO_240000.out (fun k_ hk => (⟨hk, hk.2⟩ : _ ∧ k_ ≠ gb268))) (fun _ hk => hk.2) (.slice Ao74 t263.length co74)) (fun _ hk => hk.2) (.int .i64 t266)) (fun _ h_ => h_.1)))); (case side4 => exact (Kd.V_reads' HO_240000.out).2.1); rintro e w85 ⟨rfl, hb⟩; refine ⟨_, rfl, ?_⟩; have n0_ := Aside0.mk (Kd.V_below (by (with_reducible repeat (first | apply Kd.V_alloc | apply Kd.V_drewN | apply Kd.V_drew)); exact (Kd.V_mono (Kd.V_far (p := ⟨gb268, 1, none⟩) (Kd.V_far (p := ⟨gb268, 0, none⟩) (Kd.V_mono HO_240000.out (fun k_ hk => (⟨hk, hk.2⟩ : _ ∧ k_ ≠ gb268))) (fun _ hk => hk.2) (.slice Ao74 t263.length co74)) (fun _ hk => hk.2) (.int .i64 t266)) (fun _ h_ => h_.1))) hb); have n1_ := Aside0.mk (Kd.R_below (by (with_reducible repeat (first | apply Kd.R_alloc | apply Kd.R_drewN | apply Kd.R_drew)); exact (Kd.R_mono (Kd.R_far (p := ⟨gb268, 1, none⟩) (Kd.R_far (p := ⟨gb268, 0, none⟩) (Kd.R_types HO_249000.out BK268.out (by decide)) (fun _ hk => hk.2) (.slice Ao74 t263.length co74)) (fun _ hk => hk.2) (.int .i64 t266)) (fun _ h_ => h_.1))) hb); have n2_ := Aside0.mk (Kd.R_below (by (with_reducible repeat (first | apply Kd.R_alloc | apply Kd.R_drewN | apply Kd.R_drew)); exact (Kd.R_mono (Kd.R_far (p := ⟨gb268, 1, none⟩) (Kd.R_far (p := ⟨gb268, 0, none⟩) (Kd.R_types HO262.out BK268.out (by decide)) (fun _ hk => hk.2) (.slice Ao74 t263.length co74)) (fun _ hk => hk.2) (.int .i64 t266)) (fun _ h_ => h_.1))) hb); have n3_ := Aside0.mk (Kd.R_below (by (with_reducible repeat (first | apply Kd.R_alloc | apply Kd.R_drewN | apply Kd.R_drew)); exact (Kd.R_mono (Kd.R_far (p := ⟨gb268, 1, none⟩) (Kd.R_far (p := ⟨gb268, 0, none⟩) (Kd.R_types HO265.out BK268.out (by decide)) (fun _ hk => hk.2) (.slice Ao74 t263.length co74)) (fun _ hk => hk.2) (.int .i64 t266)) (fun _ h_ => h_.1))) hb); have n4_ := Aside0.mk (blk_below (g := gb239) (o := .cells #[.slice Ao13 t234.length co13, .int .i64 t237] 57 (0, 0)) (by (with_reducible repeat (first | refine blk_drewN ?_ _ | refine blk_drew ?_ | refine blk_alloc ?_ _)); refine blk_far ?_ NB239_268.out _; (with_reducible repeat (first | refine blk_drewN ?_ _ | refine blk_drew ?_ | refine blk_alloc ?_ _)); refine blk_far ?_ NB239_268.out _; (with_reducible repeat (first | refine blk_drewN ?_ _ | refine blk_drew ?_ | refine blk_alloc ?_ _)); exact BK239.out) hb); have n5_ := Aside0.mk (blk_below (g := gb248) (o := .cells #[.slice Ao19 t243.length co19, .int .i64 t246] 57 (0, 0)) (by (with_reducible repeat (first | refine blk_drewN ?_ _ | refine blk_drew ?_ | refine blk_alloc ?_ _)); refine blk_far ?_ NB248_268.out _; (with_reducible repeat (first | refine blk_drewN ?_ _ | refine blk_drew ?_ | refine blk_alloc ?_ _)); refine blk_far ?_ NB248_268.out _; (with_reducible repeat (first | refine blk_drewN ?_ _ | refine blk_drew ?_ | refine blk_alloc ?_ _)); exact BK248.out) hb); have n6_ := Aside0.mk (blk_below (g := gb268) (o := .cells #[.slice Ao74 t263.length co74, .int .i64 t266] 57 (0, 0)) (by (with_reducible repeat (first | refine blk_drewN ?_ _ | refine blk_drew ?_ | refine blk_alloc ?_ _)); refine blk_put (cs := #[.slice Ao74 t263.length co74, .int .i64 0]) ?_ 1 _ rfl; (with_reducible repeat (first | refine blk_drewN ?_ _ | refine blk_drew ?_ | refine blk_alloc ?_ _)); refine blk_put (cs := #[.slice none 0 0, .int .i64 0]) ?_ 0 _ rfl; (with_reducible repeat (first | refine blk_drewN ?_ _ | refine blk_drew ?_ | refine blk_alloc ?_ _)); exact BK268.out) hb); have n7_ := Aside0.mk (below_step (by repeat (first | (with_reducible first | exact HB.out | apply below_alloc | apply pw_below_drewN | apply below_drew1 | refine below_set ?_ GE239.out | refine below_set ?_ GE248.out | refine below_set ?_ GE268.out) | exact HB.out)) hb); clear HO_240000; clear HO_249000; clear HO262; clear HO265; clear BK239; clear BK248; clear BK268; clear HB; have HO_240000 := n0_; have HO_249000 := n1_; have HO262 := n2_; have HO265 := n3_; have BK239 := n4_; have BK248 := n5_; have BK268 := n6_; have HB := n7_; clear n0_ n1_ n2_ n3_ n4_ n5_ n6_ n7_; (try clear hb); (try clear hb2); (try clear hk); (try clear hi)))
                          go_meet
                          case rel => exact ⟨_, ((t267 != t238)), (by first | rfl | (simp; done) | (simp [*]; done)), H', ⟨by have := HJ7.out; have := HJ36.out; first | omega | exact Nat.le_refl _⟩, ⟨by (with_reducible repeat (first | apply Kd.V_alloc | apply Kd.V_drewN | apply Kd.V_drew)); exact Kd.V_mono HO_240000.out (fun _ hk => ⟨hk.1.1.1.1, ⟨hk.1.2, ⟨hk.1.1.1.2.1, ⟨hk.1.1.1.2.2, hk.2⟩⟩⟩⟩)⟩, ⟨by (with_reducible repeat (first | apply Kd.R_alloc | apply Kd.R_drewN | apply Kd.R_drew)); exact Kd.R_mono HO_249000.out (fun _ hk => hk.2)⟩, ⟨by (with_reducible repeat (first | apply Kd.R_alloc | apply Kd.R_drewN | apply Kd.R_drew)); exact Kd.R_mono HO265.out (fun _ hk => hk.1.2)⟩, ⟨by (with_reducible repeat (first | refine blk_drewN ?_ _ | refine blk_drew ?_ | refine blk_alloc ?_ _)); exact BK239.out⟩, ⟨by (with_reducible repeat (first | refine blk_drewN ?_ _ | refine blk_drew ?_ | refine blk_alloc ?_ _)); exact BK248.out⟩, ⟨by (with_reducible repeat (first | refine blk_drewN ?_ _ | refine blk_drew ?_ | refine blk_alloc ?_ _)); exact BK268.out⟩, ⟨by repeat (first | (with_reducible first | exact HB.out | apply below_alloc | apply pw_below_drewN | apply below_drew1 | refine below_set ?_ GE239.out | refine below_set ?_ GE248.out | refine below_set ?_ GE268.out) | exact HB.out)⟩⟩
                        · replace c79 := Bool.eq_false_iff.mpr c79
                          subst c79
                          have H1 : (laws_FnExactVoteOf.j2 kj36 t257 true t258 t246) = some r := by rw [if_neg (show ¬ (false = true) by decide)] at H; exact H
                          clear H
                          have H := H1
                          clear H1
                          have H' := Aside0.mk H
                          clear H
                          have hnb86 := NB268_239.out
                          have hnc86 := NB239_268.out
                          have hnb87 := NB268_248.out
                          have hnc87 := NB248_268.out
                          have hcz88_0 : w73.cell? ⟨gb268, 0, none⟩ = some (.slice none 0 0) := (blk_cell BK268.out 0).trans rfl
                          have hcz88_1 : w73.cell? ⟨gb268, 1, none⟩ = some (.int .i64 0) := (blk_cell BK268.out 1).trans rfl
                          have hfz88_0 := blk_frozen BK268.out 0
                          have hfz88_1 := blk_frozen BK268.out 1
                          have hnb89 := NB239_248.out
                          have hnc89 := NB248_239.out
                          have hcz90_0 : w73.cell? ⟨gb239, 0, none⟩ = some (.slice Ao13 t234.length co13) := (blk_cell BK239.out 0).trans rfl
                          have hcz90_1 : w73.cell? ⟨gb239, 1, none⟩ = some (.int .i64 t237) := (blk_cell BK239.out 1).trans rfl
                          have hfz90_0 := blk_frozen BK239.out 0
                          have hfz90_1 := blk_frozen BK239.out 1
                          go_wp2_with (first | ((with_reducible refine gate_callee (f := 41) rfl ?_); refine goesL_ (some 83) rfl rfl Try.func41 (by kernel_rfl) rfl #[.agg #[.slice Ao74 t263.length co74, .int .i64 t266], .agg #[.slice Ao13 t234.length co13, .int .i64 t237]] rfl (by (try simp only [List.map_toArray, List.map_cons, List.map_nil]); first | done | rfl | (simp only [List.length_drop, List.length_take]; rfl)) ?_; (with_reducible refine (laws_eqVote.calls kj36 _ _ t263 t266 _ _ t234 t237 false _ ?side1 ?side2 ?side3 ?side4 A78.out).mono ?_); (case side1 => refine (Kd.R_reads' (e := 3) (base := w.heap.size) (ok := fun k_ => ((True ∧ some k_ ≠ (.slice Ao19 t243.length co19 : Value).ownBlock) ∧ some k_ ≠ (.slice Ao71 t260.length co71 : Value).ownBlock)) (n := t263.length) (c := co74) ?_).2.2; exact (by (with_reducible repeat (first | apply Kd.R_alloc | apply Kd.R_drewN | apply Kd.R_drew)); exact (Kd.R_mono (Kd.R_far (p := ⟨gb268, 1, none⟩) (Kd.R_far (p := ⟨gb268, 0, none⟩) (Kd.R_types HO265.out BK268.out (by decide)) (fun _ hk => hk.2) (.slice Ao74 t263.length co74)) (fun _ hk => hk.2) (.int .i64 t266)) (fun _ h_ => h_.1)))); (case side2 => exact (Kd.R_reads' HO265.out).2.1); (case side3 => refine (Kd.V_reads' (e := 3) (base := w.heap.size) (ok := fun k_ => ((((some k_ ≠ (.slice Ao19 t243.length co19 : Value).ownBlock ∧ (k_ ≠ gb239 ∧ k_ ≠ gb248)) ∧ some k_ ≠ (.slice Ao71 t260.length co71 : Value).ownBlock) ∧ some k_ ≠ (.slice Ao74 t263.length co74 : Value).ownBlock) ∧ k_ ≠ gb268)) (n := t234.length) (c := co13) ?_).2.2; exact (by (with_reducible repeat (first | apply Kd.V_alloc | apply Kd.V_drewN | apply Kd.V_drew)); exact (Kd.V_mono (Kd.V_far (p := ⟨gb268, 1, none⟩) (Kd.V_far (p := ⟨gb268, 0, none⟩) (Kd.V_mono HO_240000.out (fun k_ hk => (⟨hk, hk.2⟩ : _ ∧ k_ ≠ gb268))) (fun _ hk => hk.2) (.slice Ao74 t263.length co74)) (fun _ hk => hk.2) (.int .i64 t266)) (fun _ h_ => h_.1)))); (case side4 => exact (Kd.V_reads' HO_240000.out).2.1); rintro e w91 ⟨rfl, hb⟩; refine ⟨_, rfl, ?_⟩; have n0_ := Aside0.mk (Kd.V_below (by (with_reducible repeat (first | apply Kd.V_alloc | apply Kd.V_drewN | apply Kd.V_drew)); exact (Kd.V_mono (Kd.V_far (p := ⟨gb268, 1, none⟩) (Kd.V_far (p := ⟨gb268, 0, none⟩) (Kd.V_mono HO_240000.out (fun k_ hk => (⟨hk, hk.2⟩ : _ ∧ k_ ≠ gb268))) (fun _ hk => hk.2) (.slice Ao74 t263.length co74)) (fun _ hk => hk.2) (.int .i64 t266)) (fun _ h_ => h_.1))) hb); have n1_ := Aside0.mk (Kd.R_below (by (with_reducible repeat (first | apply Kd.R_alloc | apply Kd.R_drewN | apply Kd.R_drew)); exact (Kd.R_mono (Kd.R_far (p := ⟨gb268, 1, none⟩) (Kd.R_far (p := ⟨gb268, 0, none⟩) (Kd.R_types HO_249000.out BK268.out (by decide)) (fun _ hk => hk.2) (.slice Ao74 t263.length co74)) (fun _ hk => hk.2) (.int .i64 t266)) (fun _ h_ => h_.1))) hb); have n2_ := Aside0.mk (Kd.R_below (by (with_reducible repeat (first | apply Kd.R_alloc | apply Kd.R_drewN | apply Kd.R_drew)); exact (Kd.R_mono (Kd.R_far (p := ⟨gb268, 1, none⟩) (Kd.R_far (p := ⟨gb268, 0, none⟩) (Kd.R_types HO262.out BK268.out (by decide)) (fun _ hk => hk.2) (.slice Ao74 t263.length co74)) (fun _ hk => hk.2) (.int .i64 t266)) (fun _ h_ => h_.1))) hb); have n3_ := Aside0.mk (Kd.R_below (by (with_reducible repeat (first | apply Kd.R_alloc | apply Kd.R_drewN | apply Kd.R_drew)); exact (Kd.R_mono (Kd.R_far (p := ⟨gb268, 1, none⟩) (Kd.R_far (p := ⟨gb268, 0, none⟩) (Kd.R_types HO265.out BK268.out (by decide)) (fun _ hk => hk.2) (.slice Ao74 t263.length co74)) (fun _ hk => hk.2) (.int .i64 t266)) (fun _ h_ => h_.1))) hb); have n4_ := Aside0.mk (blk_below (g := gb239) (o := .cells #[.slice Ao13 t234.length co13, .int .i64 t237] 57 (0, 0)) (by (with_reducible repeat (first | refine blk_drewN ?_ _ | refine blk_drew ?_ | refine blk_alloc ?_ _)); refine blk_far ?_ NB239_268.out _; (with_reducible repeat (first | refine blk_drewN ?_ _ | refine blk_drew ?_ | refine blk_alloc ?_ _)); refine blk_far ?_ NB239_268.out _; (with_reducible repeat (first | refine blk_drewN ?_ _ | refine blk_drew ?_ | refine blk_alloc ?_ _)); exact BK239.out) hb); have n5_ := Aside0.mk (blk_below (g := gb248) (o := .cells #[.slice Ao19 t243.length co19, .int .i64 t246] 57 (0, 0)) (by (with_reducible repeat (first | refine blk_drewN ?_ _ | refine blk_drew ?_ | refine blk_alloc ?_ _)); refine blk_far ?_ NB248_268.out _; (with_reducible repeat (first | refine blk_drewN ?_ _ | refine blk_drew ?_ | refine blk_alloc ?_ _)); refine blk_far ?_ NB248_268.out _; (with_reducible repeat (first | refine blk_drewN ?_ _ | refine blk_drew ?_ | refine blk_alloc ?_ _)); exact BK248.out) hb); have n6_ := Aside0.mk (blk_below (g := gb268) (o := .cells #[.slice Ao74 t263.length co74, .int .i64 t266] 57 (0, 0)) (by (with_reducible repeat (first | refine blk_drewN ?_ _ | refine blk_drew ?_ | refine blk_alloc ?_ _)); refine blk_put (cs := #[.slice Ao74 t263.length co74, .int .i64 0]) ?_ 1 _ rfl; (with_reducible repeat (first | refine blk_drewN ?_ _ | refine blk_drew ?_ | refine blk_alloc ?_ _)); refine blk_put (cs := #[.slice none 0 0, .int .i64 0]) ?_ 0 _ rfl; (with_reducible repeat (first | refine blk_drewN ?_ _ | refine blk_drew ?_ | refine blk_alloc ?_ _)); exact BK268.out) hb); have n7_ := Aside0.mk (below_step (by repeat (first | (with_reducible first | exact HB.out | apply below_alloc | apply pw_below_drewN | apply below_drew1 | refine below_set ?_ GE239.out | refine below_set ?_ GE248.out | refine below_set ?_ GE268.out) | exact HB.out)) hb); clear HO_240000; clear HO_249000; clear HO262; clear HO265; clear BK239; clear BK248; clear BK268; clear HB; have HO_240000 := n0_; have HO_249000 := n1_; have HO262 := n2_; have HO265 := n3_; have BK239 := n4_; have BK248 := n5_; have BK268 := n6_; have HB := n7_; clear n0_ n1_ n2_ n3_ n4_ n5_ n6_ n7_; (try clear hb); (try clear hb2); (try clear hk); (try clear hi)))
                          go_meet
                          case rel => exact ⟨_, (true), (by first | rfl | (simp; done) | (simp [*]; done)), H', ⟨by have := HJ7.out; have := HJ36.out; first | omega | exact Nat.le_refl _⟩, ⟨by (with_reducible repeat (first | apply Kd.V_alloc | apply Kd.V_drewN | apply Kd.V_drew)); exact Kd.V_mono HO_240000.out (fun _ hk => ⟨hk.1.1.1.1, ⟨hk.1.2, ⟨hk.1.1.1.2.1, ⟨hk.1.1.1.2.2, hk.2⟩⟩⟩⟩)⟩, ⟨by (with_reducible repeat (first | apply Kd.R_alloc | apply Kd.R_drewN | apply Kd.R_drew)); exact Kd.R_mono HO_249000.out (fun _ hk => hk.2)⟩, ⟨by (with_reducible repeat (first | apply Kd.R_alloc | apply Kd.R_drewN | apply Kd.R_drew)); exact Kd.R_mono HO265.out (fun _ hk => hk.1.2)⟩, ⟨by (with_reducible repeat (first | refine blk_drewN ?_ _ | refine blk_drew ?_ | refine blk_alloc ?_ _)); exact BK239.out⟩, ⟨by (with_reducible repeat (first | refine blk_drewN ?_ _ | refine blk_drew ?_ | refine blk_alloc ?_ _)); exact BK248.out⟩, ⟨by (with_reducible repeat (first | refine blk_drewN ?_ _ | refine blk_drew ?_ | refine blk_alloc ?_ _)); exact BK268.out⟩, ⟨by repeat (first | (with_reducible first | exact HB.out | apply below_alloc | apply pw_below_drewN | apply below_drew1 | refine below_set ?_ GE239.out | refine below_set ?_ GE248.out | refine below_set ?_ GE268.out) | exact HB.out)⟩⟩
                      case rest =>
                        clear HC64
                        try clear c1
                        try clear c2
                        try clear p2
                        try clear c3
                        try clear c3b0
                        try clear c3b1
                        try clear c4
                        try clear c5
                        try clear c6
                        try clear c7
                        try clear c8
                        try clear c10
                        try clear c20
                        try clear c23
                        try clear c24
                        try clear c28
                        try clear c32
                        try clear c35
                        try clear c40
                        try clear c41
                        try clear c41b0
                        try clear c42
                        try clear c43
                        try clear c44
                        try clear c46
                        try clear c48
                        try clear c50
                        try clear c51
                        try clear c52
                        try clear c55
                        try clear c55b0
                        try clear c56
                        try clear c61
                        try clear c61b0
                        try clear c61b1
                        try clear c65
                        try clear c75
                        try clear c76
                        try clear c79
                        try clear c80
                        try clear c81
                        try clear c83
                        try clear c86
                        try clear c87
                        try clear c89
                        try clear hcz14_0
                        try clear hcz14_1
                        try clear hcz21_0
                        try clear hcz21_1
                        try clear hcz25_0
                        try clear hcz25_1
                        try clear hcz26_0
                        try clear hcz26_1
                        try clear hcz29_0
                        try clear hcz29_1
                        try clear hcz30_0
                        try clear hcz30_1
                        try clear hcz45_0
                        try clear hcz45_1
                        try clear hcz46_0
                        try clear hcz46_1
                        try clear hcz49_0
                        try clear hcz49_1
                        try clear hcz50_0
                        try clear hcz50_1
                        try clear hcz57_0
                        try clear hcz57_1
                        try clear hcz59_0
                        try clear hcz59_1
                        try clear hcz66_0
                        try clear hcz66_1
                        try clear hcz68_0
                        try clear hcz68_1
                        try clear hcz77_0
                        try clear hcz77_1
                        try clear hcz82_0
                        try clear hcz82_1
                        try clear hcz84_0
                        try clear hcz84_1
                        try clear hcz88_0
                        try clear hcz88_1
                        try clear hcz90_0
                        try clear hcz90_1
                        try clear hfz14_0
                        try clear hfz14_1
                        try clear hfz21_0
                        try clear hfz21_1
                        try clear hfz25_0
                        try clear hfz25_1
                        try clear hfz26_0
                        try clear hfz26_1
                        try clear hfz29_0
                        try clear hfz29_1
                        try clear hfz30_0
                        try clear hfz30_1
                        try clear hfz45_0
                        try clear hfz45_1
                        try clear hfz46_0
                        try clear hfz46_1
                        try clear hfz49_0
                        try clear hfz49_1
                        try clear hfz50_0
                        try clear hfz50_1
                        try clear hfz57_0
                        try clear hfz57_1
                        try clear hfz59_0
                        try clear hfz59_1
                        try clear hfz66_0
                        try clear hfz66_1
                        try clear hfz68_0
                        try clear hfz68_1
                        try clear hfz77_0
                        try clear hfz77_1
                        try clear hfz82_0
                        try clear hfz82_1
                        try clear hfz84_0
                        try clear hfz84_1
                        try clear hfz88_0
                        try clear hfz88_1
                        try clear hfz90_0
                        try clear hfz90_1
                        try clear p2
                        obtain ⟨kq, x89_63, rfl, HA, HJ63, HO_240000, HO_249000, HO_269000, BK239, BK248, BK268, HB⟩ := hcut
                        have hl249000_63 := (Kd.R_reads' HO_249000.out).1
                        rw [hl249000_63] at HO_249000
                        (try simp only [hl249000_63])
                        (try simp only [hl249000_63] at BK239)
                        (try simp only [hl249000_63] at BK248)
                        (try simp only [hl249000_63] at BK268)
                        (try simp only [hl249000_63] at HO_240000)
                        (try simp only [hl249000_63] at HO_269000)
                        cases kq with
                        | zero => exact absurd HA.out (by simp [laws_FnExactVoteOf.j2])
                        | succ kj63 =>
                          have H := HA.out
                          clear HA
                          simp only [laws_FnExactVoteOf.j2] at H
                          by_cases c92 : x89_63 = true
                          · subst c92
                            have H1 : (some false) = some r := by rw [if_pos rfl] at H; exact H
                            clear H
                            have H := H1
                            clear H1
                            obtain rfl := Option.some.inj H
                            go_wp2
                            go_ret
                            exact ⟨by first | rfl | (simp [errW_none, errW_some] <;> rfl) | (simp [*, errW_none, errW_some] <;> rfl), by repeat (first | (with_reducible first | exact HB.out | apply below_alloc | apply pw_below_drewN | apply below_drew1 | refine below_set ?_ GE239.out | refine below_set ?_ GE248.out | refine below_set ?_ GE268.out) | exact HB.out)⟩
                          · replace c92 := Bool.eq_false_iff.mpr c92
                            subst c92
                            have H1 : ((laws_heldVote.f kj63 t258 t246 1).bind fun t270 => (if t270 < 0 then (some false) else (if t270 = t257 then (some true) else (some false)))) = some r := by rw [if_neg (show ¬ (false = true) by decide)] at H; exact H
                            clear H
                            have H := H1
                            clear H1
                            replace H := Option.bind_eq_some_iff.mp H
                            obtain ⟨t270, A930, H⟩ := H
                            replace H : (if t270 < 0 then (some false) else (if t270 = t257 then (some true) else (some false))) = some r := H
                            have A93 := Aside0.mk A930
                            clear A930
                            by_cases c94 : t270 < 0
                            · rw [if_pos c94] at H
                              have c94b0 : decide (t270 < 0) = true := decide_eq_true c94
                              clear c94
                              obtain rfl := Option.some.inj H
                              have hnb95 := NB248_239.out
                              have hnc95 := NB239_248.out
                              have hnb96 := NB248_268.out
                              have hnc96 := NB268_248.out
                              have hcz97_0 : wc.cell? ⟨gb248, 0, none⟩ = some (.slice Ao19 t258.length co19) := (blk_cell BK248.out 0).trans rfl
                              have hcz97_1 : wc.cell? ⟨gb248, 1, none⟩ = some (.int .i64 t246) := (blk_cell BK248.out 1).trans rfl
                              have hfz97_0 := blk_frozen BK248.out 0
                              have hfz97_1 := blk_frozen BK248.out 1
                              go_wp2_with (first | ((with_reducible refine gate_callee (f := 52) rfl ?_); refine goesL_ (some 92) rfl rfl Try.func52 (by kernel_rfl) rfl #[.agg #[.slice Ao19 t258.length co19, .int .i64 t246], .int .i64 1] rfl (by (try simp only [List.map_toArray, List.map_cons, List.map_nil]); first | done | rfl | (simp only [List.length_drop, List.length_take]; rfl)) ?_; (with_reducible refine (laws_heldVote.calls kj63 _ _ t258 t246 1 t270 _ ?side1 ?side2 A93.out).mono ?_); (case side1 => repeat (first | exact (Kd.R_reads' HO_249000.out).2.2 | (with_reducible refine Kd.C_alloc ?_ _) | (with_reducible refine Kd.C_drewN ?_ _) | (with_reducible refine Kd.C_drew ?_))); (case side2 => exact (Kd.R_reads' HO_249000.out).2.1); rintro e w98 ⟨rfl, hb⟩; refine ⟨_, rfl, ?_⟩; have n0_ := Aside0.mk (Kd.V_below (by (with_reducible repeat (first | apply Kd.V_alloc | apply Kd.V_drewN | apply Kd.V_drew)); exact HO_240000.out) hb); have n1_ := Aside0.mk (Kd.R_below (by (with_reducible repeat (first | apply Kd.R_alloc | apply Kd.R_drewN | apply Kd.R_drew)); exact HO_249000.out) hb); have n2_ := Aside0.mk (Kd.R_below (by (with_reducible repeat (first | apply Kd.R_alloc | apply Kd.R_drewN | apply Kd.R_drew)); exact HO_269000.out) hb); have n3_ := Aside0.mk (blk_below (g := gb239) (o := .cells #[.slice Ao13 t234.length co13, .int .i64 t237] 57 (0, 0)) (by (with_reducible repeat (first | refine blk_drewN ?_ _ | refine blk_drew ?_ | refine blk_alloc ?_ _)); exact BK239.out) hb); have n4_ := Aside0.mk (blk_below (g := gb248) (o := .cells #[.slice Ao19 t258.length co19, .int .i64 t246] 57 (0, 0)) (by (with_reducible repeat (first | refine blk_drewN ?_ _ | refine blk_drew ?_ | refine blk_alloc ?_ _)); exact BK248.out) hb); have n5_ := Aside0.mk (blk_below (g := gb268) (o := .cells #[.slice Ao74 t263.length co74, .int .i64 t266] 57 (0, 0)) (by (with_reducible repeat (first | refine blk_drewN ?_ _ | refine blk_drew ?_ | refine blk_alloc ?_ _)); exact BK268.out) hb); have n6_ := Aside0.mk (below_step (by repeat (first | (with_reducible first | exact HB.out | apply below_alloc | apply pw_below_drewN | apply below_drew1 | refine below_set ?_ GE239.out | refine below_set ?_ GE248.out | refine below_set ?_ GE268.out) | exact HB.out)) hb); clear HO_240000; clear HO_249000; clear HO_269000; clear BK239; clear BK248; clear BK268; clear HB; have HO_240000 := n0_; have HO_249000 := n1_; have HO_269000 := n2_; have BK239 := n3_; have BK248 := n4_; have BK268 := n5_; have HB := n6_; clear n0_ n1_ n2_ n3_ n4_ n5_ n6_; (try clear hb); (try clear hb2); (try clear hk); (try clear hi)))
                              go_ret
                              exact ⟨by first | rfl | (simp [errW_none, errW_some] <;> rfl) | (simp [*, errW_none, errW_some] <;> rfl), by repeat (first | (with_reducible first | exact HB.out | apply below_alloc | apply pw_below_drewN | apply below_drew1 | refine below_set ?_ GE239.out | refine below_set ?_ GE248.out | refine below_set ?_ GE268.out) | exact HB.out)⟩
                            · rw [if_neg c94] at H
                              have c94b0 : decide (t270 < 0) = false := decide_eq_false c94
                              clear c94
                              by_cases c99 : t270 = t257
                              · rw [if_pos c99] at H
                                have c99b0 : (t270 == t257) = true := beq_iff_eq.mpr c99
                                have c99b1 : (t270 != t257) = false := bne_eq_false_iff_eq.mpr c99
                                clear c99
                                obtain rfl := Option.some.inj H
                                have hnb100 := NB248_239.out
                                have hnc100 := NB239_248.out
                                have hnb101 := NB248_268.out
                                have hnc101 := NB268_248.out
                                have hcz102_0 : wc.cell? ⟨gb248, 0, none⟩ = some (.slice Ao19 t258.length co19) := (blk_cell BK248.out 0).trans rfl
                                have hcz102_1 : wc.cell? ⟨gb248, 1, none⟩ = some (.int .i64 t246) := (blk_cell BK248.out 1).trans rfl
                                have hfz102_0 := blk_frozen BK248.out 0
                                have hfz102_1 := blk_frozen BK248.out 1
                                go_wp2_with (first | ((with_reducible refine gate_callee (f := 52) rfl ?_); refine goesL_ (some 92) rfl rfl Try.func52 (by kernel_rfl) rfl #[.agg #[.slice Ao19 t258.length co19, .int .i64 t246], .int .i64 1] rfl (by (try simp only [List.map_toArray, List.map_cons, List.map_nil]); first | done | rfl | (simp only [List.length_drop, List.length_take]; rfl)) ?_; (with_reducible refine (laws_heldVote.calls kj63 _ _ t258 t246 1 t270 _ ?side1 ?side2 A93.out).mono ?_); (case side1 => repeat (first | exact (Kd.R_reads' HO_249000.out).2.2 | (with_reducible refine Kd.C_alloc ?_ _) | (with_reducible refine Kd.C_drewN ?_ _) | (with_reducible refine Kd.C_drew ?_))); (case side2 => exact (Kd.R_reads' HO_249000.out).2.1); rintro e w103 ⟨rfl, hb⟩; refine ⟨_, rfl, ?_⟩; have n0_ := Aside0.mk (Kd.V_below (by (with_reducible repeat (first | apply Kd.V_alloc | apply Kd.V_drewN | apply Kd.V_drew)); exact HO_240000.out) hb); have n1_ := Aside0.mk (Kd.R_below (by (with_reducible repeat (first | apply Kd.R_alloc | apply Kd.R_drewN | apply Kd.R_drew)); exact HO_249000.out) hb); have n2_ := Aside0.mk (Kd.R_below (by (with_reducible repeat (first | apply Kd.R_alloc | apply Kd.R_drewN | apply Kd.R_drew)); exact HO_269000.out) hb); have n3_ := Aside0.mk (blk_below (g := gb239) (o := .cells #[.slice Ao13 t234.length co13, .int .i64 t237] 57 (0, 0)) (by (with_reducible repeat (first | refine blk_drewN ?_ _ | refine blk_drew ?_ | refine blk_alloc ?_ _)); exact BK239.out) hb); have n4_ := Aside0.mk (blk_below (g := gb248) (o := .cells #[.slice Ao19 t258.length co19, .int .i64 t246] 57 (0, 0)) (by (with_reducible repeat (first | refine blk_drewN ?_ _ | refine blk_drew ?_ | refine blk_alloc ?_ _)); exact BK248.out) hb); have n5_ := Aside0.mk (blk_below (g := gb268) (o := .cells #[.slice Ao74 t263.length co74, .int .i64 t266] 57 (0, 0)) (by (with_reducible repeat (first | refine blk_drewN ?_ _ | refine blk_drew ?_ | refine blk_alloc ?_ _)); exact BK268.out) hb); have n6_ := Aside0.mk (below_step (by repeat (first | (with_reducible first | exact HB.out | apply below_alloc | apply pw_below_drewN | apply below_drew1 | refine below_set ?_ GE239.out | refine below_set ?_ GE248.out | refine below_set ?_ GE268.out) | exact HB.out)) hb); clear HO_240000; clear HO_249000; clear HO_269000; clear BK239; clear BK248; clear BK268; clear HB; have HO_240000 := n0_; have HO_249000 := n1_; have HO_269000 := n2_; have BK239 := n3_; have BK248 := n4_; have BK268 := n5_; have HB := n6_; clear n0_ n1_ n2_ n3_ n4_ n5_ n6_; (try clear hb); (try clear hb2); (try clear hk); (try clear hi)))
                                go_ret
                                exact ⟨by first | rfl | (simp [errW_none, errW_some] <;> rfl) | (simp [*, errW_none, errW_some] <;> rfl), by repeat (first | (with_reducible first | exact HB.out | apply below_alloc | apply pw_below_drewN | apply below_drew1 | refine below_set ?_ GE239.out | refine below_set ?_ GE248.out | refine below_set ?_ GE268.out) | exact HB.out)⟩
                              · rw [if_neg c99] at H
                                have c99b0 : (t270 == t257) = false := beq_eq_false_iff_ne.mpr c99
                                have c99b1 : (t270 != t257) = true := bne_iff_ne.mpr c99
                                obtain rfl := Option.some.inj H
                                have hnb104 := NB248_239.out
                                have hnc104 := NB239_248.out
                                have hnb105 := NB248_268.out
                                have hnc105 := NB268_248.out
                                have hcz106_0 : wc.cell? ⟨gb248, 0, none⟩ = some (.slice Ao19 t258.length co19) := (blk_cell BK248.out 0).trans rfl
                                have hcz106_1 : wc.cell? ⟨gb248, 1, none⟩ = some (.int .i64 t246) := (blk_cell BK248.out 1).trans rfl
                                have hfz106_0 := blk_frozen BK248.out 0
                                have hfz106_1 := blk_frozen BK248.out 1
                                go_wp2_with (first | ((with_reducible refine gate_callee (f := 52) rfl ?_); refine goesL_ (some 92) rfl rfl Try.func52 (by kernel_rfl) rfl #[.agg #[.slice Ao19 t258.length co19, .int .i64 t246], .int .i64 1] rfl (by (try simp only [List.map_toArray, List.map_cons, List.map_nil]); first | done | rfl | (simp only [List.length_drop, List.length_take]; rfl)) ?_; (with_reducible refine (laws_heldVote.calls kj63 _ _ t258 t246 1 t270 _ ?side1 ?side2 A93.out).mono ?_); (case side1 => repeat (first | exact (Kd.R_reads' HO_249000.out).2.2 | (with_reducible refine Kd.C_alloc ?_ _) | (with_reducible refine Kd.C_drewN ?_ _) | (with_reducible refine Kd.C_drew ?_))); (case side2 => exact (Kd.R_reads' HO_249000.out).2.1); rintro e w107 ⟨rfl, hb⟩; refine ⟨_, rfl, ?_⟩; have n0_ := Aside0.mk (Kd.V_below (by (with_reducible repeat (first | apply Kd.V_alloc | apply Kd.V_drewN | apply Kd.V_drew)); exact HO_240000.out) hb); have n1_ := Aside0.mk (Kd.R_below (by (with_reducible repeat (first | apply Kd.R_alloc | apply Kd.R_drewN | apply Kd.R_drew)); exact HO_249000.out) hb); have n2_ := Aside0.mk (Kd.R_below (by (with_reducible repeat (first | apply Kd.R_alloc | apply Kd.R_drewN | apply Kd.R_drew)); exact HO_269000.out) hb); have n3_ := Aside0.mk (blk_below (g := gb239) (o := .cells #[.slice Ao13 t234.length co13, .int .i64 t237] 57 (0, 0)) (by (with_reducible repeat (first | refine blk_drewN ?_ _ | refine blk_drew ?_ | refine blk_alloc ?_ _)); exact BK239.out) hb); have n4_ := Aside0.mk (blk_below (g := gb248) (o := .cells #[.slice Ao19 t258.length co19, .int .i64 t246] 57 (0, 0)) (by (with_reducible repeat (first | refine blk_drewN ?_ _ | refine blk_drew ?_ | refine blk_alloc ?_ _)); exact BK248.out) hb); have n5_ := Aside0.mk (blk_below (g := gb268) (o := .cells #[.slice Ao74 t263.length co74, .int .i64 t266] 57 (0, 0)) (by (with_reducible repeat (first | refine blk_drewN ?_ _ | refine blk_drew ?_ | refine blk_alloc ?_ _)); exact BK268.out) hb); have n6_ := Aside0.mk (below_step (by repeat (first | (with_reducible first | exact HB.out | apply below_alloc | apply pw_below_drewN | apply below_drew1 | refine below_set ?_ GE239.out | refine below_set ?_ GE248.out | refine below_set ?_ GE268.out) | exact HB.out)) hb); clear HO_240000; clear HO_249000; clear HO_269000; clear BK239; clear BK248; clear BK268; clear HB; have HO_240000 := n0_; have HO_249000 := n1_; have HO_269000 := n2_; have BK239 := n3_; have BK248 := n4_; have BK268 := n5_; have HB := n6_; clear n0_ n1_ n2_ n3_ n4_ n5_ n6_; (try clear hb); (try clear hb2); (try clear hk); (try clear hi)))
                                go_ret
                                exact ⟨by first | rfl | (simp [errW_none, errW_some] <;> rfl) | (simp [*, errW_none, errW_some] <;> rfl), by repeat (first | (with_reducible first | exact HB.out | apply below_alloc | apply pw_below_drewN | apply below_drew1 | refine below_set ?_ GE239.out | refine below_set ?_ GE248.out | refine below_set ?_ GE268.out) | exact HB.out)⟩
                    · rw [if_neg c61] at H
                      have c61b0 : (t259 == t257) = false := beq_eq_false_iff_ne.mpr c61
                      have c61b1 : (t259 != t257) = true := bne_iff_ne.mpr c61
                      obtain rfl := Option.some.inj H
                      have hnb108 := NB248_239.out
                      have hnc108 := NB239_248.out
                      have hcz109_0 : wc.cell? ⟨gb248, 0, none⟩ = some (.slice Ao19 t243.length co19) := (blk_cell BK248.out 0).trans rfl
                      have hcz109_1 : wc.cell? ⟨gb248, 1, none⟩ = some (.int .i64 t246) := (blk_cell BK248.out 1).trans rfl
                      have hfz109_0 := blk_frozen BK248.out 0
                      have hfz109_1 := blk_frozen BK248.out 1
                      go_wp2_with (first | ((with_reducible refine gate_callee (f := 42) rfl ?_); refine goesL_ (some 65) rfl rfl Try.func42 (by kernel_rfl) rfl #[.agg #[.slice Ao19 t243.length co19, .int .i64 t246], .int .i64 1] rfl (by (try simp only [List.map_toArray, List.map_cons, List.map_nil]); first | done | rfl | (simp only [List.length_drop, List.length_take]; rfl)) ?_; (with_reducible refine (laws_markVote.calls kj36 (fun k_ => some k_ = (.slice Ao19 t243.length co19 : Value).ownBlock) (.slice Ao19 t243.length co19) t243 t246 1 t257 t258 w _ ?side1 ?side2 A53.out).mono ?_); (case side1 => repeat (first | (with_reducible first | exact HB.out | apply below_alloc | apply pw_below_drewN | apply below_drew1 | refine below_set ?_ GE239.out | refine below_set ?_ GE248.out) | exact HB.out)); (case side2 => exact Kd.R_tight rfl HO_249000.out); rintro e w110 ⟨rfl, hy0, hb, hkp⟩; refine ⟨_, rfl, ?_⟩; have n0_ := Aside0.mk (Kd.V_mono (ok' := fun k_ => some k_ ≠ (.slice Ao19 t243.length co19 : Value).ownBlock ∧ k_ ≠ gb239 ∧ k_ ≠ gb248) (Kd.V_keptB (HO_240000.out) hkp (fun k_ hk_ hs_ => (hk_.1) hs_)) (fun k_ hk_ => ⟨hk_.1.1, hk_.1.2.1, hk_.1.2.2⟩)); have n1_ := Aside0.mk (Kd.R_reok rfl hy0 (fun k_ e_ => HO_249000.out.1 k_ e_)); have n2_ := Aside0.mk (blk_kept (by (with_reducible repeat (first | refine blk_drewN ?_ _ | refine blk_drew ?_ | refine blk_alloc ?_ _)); exact BK239.out) hkp (fun hs_ => (fun e_ => (Kd.R_ne HO_249000.out BK239.out (by decide)) e_) hs_)); have n3_ := Aside0.mk (blk_kept (by (with_reducible repeat (first | refine blk_drewN ?_ _ | refine blk_drew ?_ | refine blk_alloc ?_ _)); exact BK248.out) hkp (fun hs_ => (fun e_ => (Kd.R_ne HO_249000.out BK248.out (by decide)) e_) hs_)); have n4_ := Aside0.mk (hb); clear HO_240000; clear HO_249000; clear BK239; clear BK248; clear HB; have HO_240000 := n0_; have HO_249000 := n1_; have BK239 := n2_; have BK248 := n3_; have HB := n4_; clear n0_ n1_ n2_ n3_ n4_; (try clear hb); (try clear hkp); (try clear hy0); have hcz111_0 : w110.cell? ⟨gb248, 0, none⟩ = some (.slice Ao19 t243.length co19) := (blk_cell BK248.out 0).trans rfl; have hcz111_1 : w110.cell? ⟨gb248, 1, none⟩ = some (.int .i64 t246) := (blk_cell BK248.out 1).trans rfl; have hfz111_0 := blk_frozen BK248.out 0; have hfz111_1 := blk_frozen BK248.out 1) | ((with_reducible refine gate_callee (f := 52) rfl ?_); refine goesL_ (some 68) rfl rfl Try.func52 (by kernel_rfl) rfl #[.agg #[.slice Ao19 t258.length co19, .int .i64 t246], .int .i64 1] rfl (by (try simp only [List.map_toArray, List.map_cons, List.map_nil]); first | done | (rw [show t258.length = t243.length from (Kd.R_reads' HO_249000.out).1.symm] <;> rfl) | rfl | (simp only [List.length_drop, List.length_take]; rfl)) ?_; (with_reducible refine (laws_heldVote.calls kj36 _ _ t258 t246 1 t259 _ ?side1 ?side2 A54.out).mono ?_); (case side1 => repeat (first | exact (Kd.R_reads' HO_249000.out).2.2 | (with_reducible refine Kd.C_alloc ?_ _) | (with_reducible refine Kd.C_drewN ?_ _) | (with_reducible refine Kd.C_drew ?_))); (case side2 => rw [show t258.length = t243.length from (Kd.R_reads' HO_249000.out).1.symm]; exact (Kd.R_reads' HO_249000.out).2.1); rintro e w112 ⟨rfl, hb⟩; refine ⟨_, rfl, ?_⟩; have n0_ := Aside0.mk (Kd.V_below (by (with_reducible repeat (first | apply Kd.V_alloc | apply Kd.V_drewN | apply Kd.V_drew)); exact HO_240000.out) hb); have n1_ := Aside0.mk (Kd.R_below (by (with_reducible repeat (first | apply Kd.R_alloc | apply Kd.R_drewN | apply Kd.R_drew)); exact HO_249000.out) hb); have n2_ := Aside0.mk (blk_below (g := gb239) (o := .cells #[.slice Ao13 t234.length co13, .int .i64 t237] 57 (0, 0)) (by (with_reducible repeat (first | refine blk_drewN ?_ _ | refine blk_drew ?_ | refine blk_alloc ?_ _)); exact BK239.out) hb); have n3_ := Aside0.mk (blk_below (g := gb248) (o := .cells #[.slice Ao19 t243.length co19, .int .i64 t246] 57 (0, 0)) (by (with_reducible repeat (first | refine blk_drewN ?_ _ | refine blk_drew ?_ | refine blk_alloc ?_ _)); exact BK248.out) hb); have n4_ := Aside0.mk (below_step (by repeat (first | (with_reducible first | exact HB.out | apply below_alloc | apply pw_below_drewN | apply below_drew1 | refine below_set ?_ GE239.out | refine below_set ?_ GE248.out) | exact HB.out)) hb); clear HO_240000; clear HO_249000; clear BK239; clear BK248; clear HB; have HO_240000 := n0_; have HO_249000 := n1_; have BK239 := n2_; have BK248 := n3_; have HB := n4_; clear n0_ n1_ n2_ n3_ n4_; (try clear hb); (try clear hb2); (try clear hk); (try clear hi)))
                      go_ret
                      exact ⟨by first | rfl | (simp [errW_none, errW_some] <;> rfl) | (simp [*, errW_none, errW_some] <;> rfl), by repeat (first | (with_reducible first | exact HB.out | apply below_alloc | apply pw_below_drewN | apply below_drew1 | refine below_set ?_ GE239.out | refine below_set ?_ GE248.out) | exact HB.out)⟩
          · replace c35 := Bool.eq_false_iff.mpr c35
            subst c35
            have H1 : (some false) = some r := by rw [if_neg (show ¬ (false = true) by decide)] at H; exact H
            clear H
            have H := H1
            clear H1
            obtain rfl := Option.some.inj H
            go_wp2_with (first | ((with_reducible refine gate_callee (f := 46) rfl ?_); refine goesL_ (some 44) rfl rfl Try.func46 (by kernel_rfl) rfl #[.slice A1 l1.length c1] rfl (by (try simp only [List.map_toArray, List.map_cons, List.map_nil]); first | done | rfl | (simp only [List.length_drop, List.length_take]; rfl)) ?_; (with_reducible refine (laws_toIntS.calls kj7 _ _ l1 t250 _ ?side1 ?side2 A33.out).mono ?_); (case side1 => repeat (first | exact (Kd.C_below HR1.out HB.out) | (with_reducible refine Kd.C_alloc ?_ _) | (with_reducible refine Kd.C_drewN ?_ _) | (with_reducible refine Kd.C_drew ?_))); (case side2 => exact HC1.out); rintro e w113 ⟨v251, rfl, ho0, hb⟩; refine ⟨_, rfl, ?_⟩; have n0_ := Aside0.mk (Kd.R_elder' (by (with_reducible repeat (first | apply Kd.R_alloc | apply Kd.R_drewN | apply Kd.R_drew)); exact HO_7.out) (Kd.R_base ho0) hb); have n1_ := Aside0.mk (Kd.V_elder' (by (with_reducible repeat (first | apply Kd.V_alloc | apply Kd.V_drewN | apply Kd.V_drew)); exact HO_240000.out) (Kd.R_base ho0) hb); have n2_ := Aside0.mk (Kd.R_elder' (by (with_reducible repeat (first | apply Kd.R_alloc | apply Kd.R_drewN | apply Kd.R_drew)); exact HO_249000.out) (Kd.R_base ho0) hb); have n3_ := Aside0.mk (Kd.R_lower (Kd.R_new' (Kd.R_new' ho0 (Kd.R_lt (by (with_reducible repeat (first | apply Kd.R_alloc | apply Kd.R_drewN | apply Kd.R_drew)); exact HO_7.out))) (Kd.R_lt (by (with_reducible repeat (first | apply Kd.R_alloc | apply Kd.R_drewN | apply Kd.R_drew)); exact HO_249000.out))) (below_size (by repeat (first | (with_reducible first | exact HB.out | apply below_alloc | apply pw_below_drewN | apply below_drew1 | refine below_set ?_ GE239.out | refine below_set ?_ GE248.out) | exact HB.out)))); have n4_ := Aside0.mk (blk_below (g := gb239) (o := .cells #[.slice Ao13 t234.length co13, .int .i64 t237] 57 (0, 0)) (by (with_reducible repeat (first | refine blk_drewN ?_ _ | refine blk_drew ?_ | refine blk_alloc ?_ _)); exact BK239.out) hb); have n5_ := Aside0.mk (blk_below (g := gb248) (o := .cells #[.slice Ao19 t243.length co19, .int .i64 t246] 57 (0, 0)) (by (with_reducible repeat (first | refine blk_drewN ?_ _ | refine blk_drew ?_ | refine blk_alloc ?_ _)); exact BK248.out) hb); have n6_ := Aside0.mk (below_step (by repeat (first | (with_reducible first | exact HB.out | apply below_alloc | apply pw_below_drewN | apply below_drew1 | refine below_set ?_ GE239.out | refine below_set ?_ GE248.out) | exact HB.out)) hb); clear HO_7; clear HO_240000; clear HO_249000; clear BK239; clear BK248; clear HB; have HO_7 := n0_; have HO_240000 := n1_; have HO_249000 := n2_; have HO252 := n3_; have BK239 := n4_; have BK248 := n5_; have HB := n6_; clear n0_ n1_ n2_ n3_ n4_ n5_ n6_; (try clear hb); (try clear hb2); (try clear hk); (try clear hi); (try clear ho0); obtain ⟨Ao114, co114, eo114⟩ := Kd.R_slice HO252.out; subst eo114) | ((with_reducible refine gate_callee (f := 40) rfl ?_); refine goesL_ (some 45) rfl rfl Try.func40 (by kernel_rfl) rfl #[.slice Ao16 t240.length co16, .slice Ao114 t250.length co114] rfl (by (try simp only [List.map_toArray, List.map_cons, List.map_nil]); first | done | rfl | (simp only [List.length_drop, List.length_take]; rfl)) ?_; (with_reducible refine (laws_eqIntS.calls kj7 _ _ t240 _ _ t250 false _ ?side1 ?side2 ?side3 ?side4 A34.out).mono ?_); (case side1 => repeat (first | exact (Kd.R_reads' HO_7.out).2.2 | (with_reducible refine Kd.C_alloc ?_ _) | (with_reducible refine Kd.C_drewN ?_ _) | (with_reducible refine Kd.C_drew ?_))); (case side2 => exact (Kd.R_reads' HO_7.out).2.1); (case side3 => repeat (first | exact (Kd.R_reads' HO252.out).2.2 | (with_reducible refine Kd.C_alloc ?_ _) | (with_reducible refine Kd.C_drewN ?_ _) | (with_reducible refine Kd.C_drew ?_))); (case side4 => exact (Kd.R_reads' HO252.out).2.1); rintro e w' ⟨rfl, ⟨nd, rfl⟩⟩; refine ⟨_, rfl, ?_⟩))
            go_ret
            exact ⟨by first | rfl | (simp [errW_none, errW_some] <;> rfl) | (simp [*, errW_none, errW_some] <;> rfl), by repeat (first | (with_reducible first | exact HB.out | apply below_alloc | apply pw_below_drewN | apply below_drew1 | refine below_set ?_ GE239.out | refine below_set ?_ GE248.out) | exact HB.out)⟩

/-- THE ONE PURE STATEMENT of laws_FnExactVoteOf: yours. -/
def laws_FnExactVoteOf.Pure : Prop := ∀ (a0 : Int) (l1 : List Int), (Lit.int .i64 a0).wf = true → l1.length ≤ maxLen → l1.length * 8 ≤ 140737488351232 → (∀ x ∈ l1, (Lit.int .i64 x).wf = true) → ∃ k, laws_FnExactVoteOf.f k a0 l1 = some true
theorem laws_FnExactVoteOf.walk (P : laws_FnExactVoteOf.Pure) (a0 : Int) (a1 : Option Addr) (len1 cap1 : Nat) (z1 : List Int) (w : World) (w0 : (Lit.int .i64 a0).wf = true) (w1 : (a1 = none ∧ len1 = 0 ∧ cap1 = 0 ∧ z1 = []) ∨ ∃ x, a1 = some x ∧ len1 ≤ cap1 ∧ cap1 ≤ maxLen ∧ z1.length = cap1 ∧ (∀ i, i < z1.length → w.cell? (x.add i) = some (.int .i64 (z1.getD i 0))) ∧ ∀ n ∈ z1, (Lit.int .i64 n).wf = true) (y1 : len1 * 8 ≤ 140737488351232) :
    Calls Try.prog 10 #[.int .i64 a0, .slice a1 len1 cap1] w fun e w' => e = .returned (.bool true) ∧ Below w.heap.size w w' := by
  obtain ⟨l1, rfl, hr1, hm1, hw1, hc1⟩ := ReadsInt.ofRowC w1
  obtain ⟨k, h⟩ := P a0 l1 w0 hm1 y1 hw1
  refine (laws_FnExactVoteOf.calls k a0 _ _ l1 true w (Kd.C_of_reads (d := (0 : Int)) (h1 := fun _ => rfl) hr1) hc1 h).mono ?_
  rintro e w' ⟨rfl, hd⟩
  exact ⟨rfl, hd⟩

end Go.Proofs.Ythfkgbkhkahmdaa.PFnExactVoteOf
