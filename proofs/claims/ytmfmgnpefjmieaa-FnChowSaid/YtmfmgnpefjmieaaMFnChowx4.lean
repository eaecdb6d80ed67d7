-- Laid for this claim by a program of the session's own (wip/tool/myprint.py).
import Derived.Test.YtmfmgnpefjmieaaMFnChowx0
import Derived.Test.YtmfmgnpefjmieaaMFnChowx3
namespace Go.Proofs.Ytmfmgnpefjmieaa.PFnChow
open Go.RowKit Go.Proofs.YtmfmgnpefjmieaaW.PrintWords Go.Proofs.YtmfmgnpefjmieaaW.PrintLast Go.Proofs.YtmfmgnpefjmieaaW.PrintMore
attribute [local go_sem] max2_int min2_int max_two min_two max_three min_three max_four min_four
set_option linter.unusedVariables false
set_option linter.unusedSimpArgs false
def spec_l1Cur_plane.l0 : Nat → Int → Int → Int → List Int → Int → Int → List Int → Int → Option (List Int × Int × Int × Int)
 | 0, _, _, _, _, _, _, _, _ => none
 | k + 1, x1, x6, x7, x1000, x1001, x1002, x175000, x175001 => if x7 < x1 then ((spec_l1Cur_pick.f x1000 x1001 x1002 (wrap64 ((wrap64 (2 * x6)) + 1))).bind fun bt175 => (if x175000.length < 17592186044416 then (spec_l1Cur_plane.l0 k x1 x6 (wrap64 (x7 + 1)) x1000 bt175.2.1 bt175.2.2 (x175000 ++ [wrap64 (bt175.1 - x6)]) x175001) else (none))) else ((spec_l1Cur_pick.f x1000 x1001 x1002 (wrap64 ((wrap64 (2 * x6)) + 3))).bind fun bt181 => ((spec_l1Cur_pick.f x1000 bt181.2.1 bt181.2.2 60).bind fun bt184 => (if bt184.1 = 0 then ((spec_l1Cur_among.f x1000 bt184.2.1 bt184.2.2 (([99, (-99), 100, (-100), 4611686018427387904] : List Int))).bind fun bt190 => (some (x175000, bt190.1, bt190.2.1, bt190.2.2))) else (if bt184.1 = 1 then (if x1 > 0 then ((spec_l1Cur_pick.f x1000 bt184.2.1 bt184.2.2 x1).bind fun bt193 => ((spec_l1Cur_among.f x1000 bt193.2.1 bt193.2.2 (([99, (-99), 100, (-100)] : List Int))).bind fun bt199 => (if 0 ≤ bt193.1 then (if bt193.1 < (x175000.length : Int) then (some ((x175000.set (bt193.1 : Int).toNat bt199.1), wrap64 ((wrap64 (bt181.1 - x6)) - 1), bt199.2.1, bt199.2.2)) else (none)) else (none)))) else (some (x175000, wrap64 ((wrap64 (bt181.1 - x6)) - 1), bt184.2.1, bt184.2.2))) else (if bt184.1 = 2 then (if x175000.length < 17592186044416 then (some ((x175000 ++ [1]), wrap64 ((wrap64 (bt181.1 - x6)) - 1), bt184.2.1, bt184.2.2)) else (none)) else (some (x175000, wrap64 ((wrap64 (bt181.1 - x6)) - 1), bt184.2.1, bt184.2.2)))))))
def spec_l1Cur_plane.f (k : Nat) (s0_0 : List Int) (s0_1 : Int) (s0_2 : Int) (a1 : Int) : Option (List Int × Int × Int × Int) := (spec_l1Cur_among.f s0_0 s0_1 s0_2 (([1, 3, 5, 20] : List Int))).bind fun bt171 => (spec_l1Cur_plane.l0 k a1 bt171.1 0 s0_0 bt171.2.1 bt171.2.2 ([] : List Int) 0)
theorem spec_l1Cur_plane.mono_l : ∀ k, (∀ y0 y1 y2 y3 y4 y5 y6 y7, LeO (spec_l1Cur_plane.l0 k y0 y1 y2 y3 y4 y5 y6 y7) (spec_l1Cur_plane.l0 (k + 1) y0 y1 y2 y3 y4 y5 y6 y7))
 | 0 => fun _ _ _ _ _ _ _ _ r h => by simp [spec_l1Cur_plane.l0] at h
 | k + 1 => by
  have ih0 := spec_l1Cur_plane.mono_l k
  ·
   intro y0 y1 y2 y3 y4 y5 y6 y7
   unfold spec_l1Cur_plane.l0
   repeat' first
   | (with_reducible exact ih0 _ _ _ _ _ _ _ _)
   | (with_reducible exact LeO.refl _)
   | (with_reducible exact LeO.none _)
   | (with_reducible refine LeO.ite ?_ ?_)
   | (with_reducible refine LeO.bind ?_ (fun _ => ?_))
   | exact ih0 _ _ _ _ _ _ _ _
   | exact LeO.none _
   | refine LeO.ite ?_ ?_
   | refine LeO.bind ?_ (fun _ => ?_)
theorem spec_l1Cur_plane.mono : ∀ a0 a1 a2 a3 k, LeO (spec_l1Cur_plane.f k a0 a1 a2 a3) (spec_l1Cur_plane.f (k + 1) a0 a1 a2 a3) := by
 intro a0 a1 a2 a3 k
 have ih0 := spec_l1Cur_plane.mono_l k
 unfold spec_l1Cur_plane.f
 repeat' first
   | (with_reducible exact ih0 _ _ _ _ _ _ _ _)
   | (with_reducible exact LeO.refl _)
   | (with_reducible exact LeO.none _)
   | (with_reducible refine LeO.ite ?_ ?_)
   | (with_reducible refine LeO.bind ?_ (fun _ => ?_))
   | exact ih0 _ _ _ _ _ _ _ _
   | exact LeO.none _
   | refine LeO.ite ?_ ?_
   | refine LeO.bind ?_ (fun _ => ?_)
def spec_l1Cur_plane.T5 : Bool × List (List Nat × List Nat) := (true, [([], []), ([0], [0]), ([], []), ([], []), ([3], [3]), ([4], [4]), ([2, 5], [2, 5]), ([], []), ([6, 7], [6, 7]), ([8], [8]), ([1, 9, 6], [1, 9]), ([0, 1, 2, 3, 4, 5, 6, 7, 8, 9, 10], []), ([11, 10, 10, 0, 1, 2, 3, 4, 5, 6, 7, 8, 9, 10], [10, 11])])
def spec_l1Cur_plane.B5 : List Nat := [0, 1, 0, 0, 8, 24, 60, 0, 252, 508, 1023, 2047, 4095]
theorem spec_l1Cur_plane.tab5 : rtab .any (opsOf Try.f143 5) = spec_l1Cur_plane.T5 := by kernel_rfl
theorem spec_l1Cur_plane.bits5 : waitsOk spec_l1Cur_plane.T5.2 spec_l1Cur_plane.B5 = true := by kernel_rfl
def spec_l1Cur_plane.T12 : Bool × List (List Nat × List Nat) := (true, [([], []), ([0], [0]), ([], []), ([], []), ([2, 3], [2, 3]), ([], []), ([], []), ([5, 6, 4], [5, 6]), ([1, 4, 0, 1, 2, 3, 4, 5, 6, 7], [1, 4]), ([8, 7, 7, 0, 1, 2, 3, 4, 5, 6, 7], [7, 8])])
def spec_l1Cur_plane.B12 : List Nat := [0, 1, 0, 0, 12, 0, 0, 124, 255, 511]
theorem spec_l1Cur_plane.tab12 : rtab .any (opsOf Try.f143 12) = spec_l1Cur_plane.T12 := by kernel_rfl
theorem spec_l1Cur_plane.bits12 : waitsOk spec_l1Cur_plane.T12.2 spec_l1Cur_plane.B12 = true := by kernel_rfl
set_option maxHeartbeats 8000000 in
set_option maxRecDepth 100000 in
theorem spec_l1Cur_plane.calls (k : Nat) (g : Nat) (s0_0 : List Int) (s0_1 : Int) (s0_2 : Int) (a1 : Int) (r1 : List Int) (r2 : Int) (r3 : Int) (r4 : Int) (w0 w : World) (hI : IsS78 w0 w g s0_0 s0_1 s0_2) (hB : Below w0.heap.size w0 w) (h : spec_l1Cur_plane.f k s0_0 s0_1 s0_2 a1 = some (r1, r2, r3, r4)) :
  Calls Try.prog 143 #[.pointer (some ⟨g, 0, none⟩), .int .i64 a1] w fun e w' => ∃ v0_ : Value, e = .returned (.agg #[v0_, .int .i64 r2]) ∧ Kd.R (Kd.int .i64) 3 w' w.heap.size (fun _ => True) v0_ r1 ∧ IsS78 w0 w' g s0_0 r3 r4 ∧ Below w0.heap.size w0 w' ∧ KeepBut w w' g none := by
 have hu28 := Try.underlying28
 have HI0 := aM hI
 have HK := aM (KeepBut.refl w g none)
 have HL := aM hB.size
 clear hI
 have HW0 := aM hB.size
 have HB := aM hB
 clear hB
 have H : ((spec_l1Cur_among.f s0_0 s0_1 s0_2 (([1, 3, 5, 20] : List Int))).bind fun bt171 => (spec_l1Cur_plane.l0 k a1 bt171.1 0 s0_0 bt171.2.1 bt171.2.2 ([] : List Int) 0)) = some (r1, r2, r3, r4) := h
 clear h
 obtain ⟨y168, hy168⟩ : ∃ y_ : List Int, y_ = (([1, 3, 5, 20] : List Int)) := ⟨_, rfl⟩
 replace H : ((spec_l1Cur_among.f s0_0 s0_1 s0_2 y168).bind fun bt171 => (spec_l1Cur_plane.l0 k a1 bt171.1 0 s0_0 bt171.2.1 bt171.2.2 ([] : List Int) 0)) = some (r1, r2, r3, r4) := by first | (rw [hy168]; with_reducible exact H) | (have H2_ := (Option.bind_some _ _).symm.trans H; rw [hy168]; with_reducible exact H2_) | (have H2_ := (Option.bind_some _ _).symm.trans H; with_reducible exact H2_) | with_reducible exact H | (rw [hy168]; exact H) | exact H
 have Ny168 := aM hy168
 clear hy168
 replace H := oB.mp H
 obtain ⟨⟨t171, t172, t173⟩, A30, H⟩ := H
 replace H : (spec_l1Cur_plane.l0 k a1 t171 0 s0_0 t172 t173 ([] : List Int) 0) = some (r1, r2, r3, r4) := H
 have A3 := aM A30
 clear A30
 have H' := aM H
 clear H
 go_enter Try.func143, Try.ntmps143
 go_wp2_with (first | ((with_reducible refine gate_dst (N := 4) rfl ?_); refine box_event ?hg (N := 4) ?hd (cs := #[.slice none 0 0, .int .i64 0]) (t := 28) ?hr ?_; (case hd => rfl); (case hg => rfl); (case hr => first | (go_simp; done) | (go_simp; rfl)); intro gb167 hg w4 hbox hb; have n0_ := aM (IsS78.below (by first | ((repeat (first | (with_reducible first | exact HI0.out | apply IsS78.alloc | apply IsS78.drewN | apply IsS78.drew | apply IsS78.set_1 | apply IsS78.set_2) | exact HI0.out)); done) | (simp only [Int.add_zero]; (repeat (first | (with_reducible first | exact HI0.out | apply IsS78.alloc | apply IsS78.drewN | apply IsS78.drew | apply IsS78.set_1 | apply IsS78.set_2) | exact HI0.out)))) hb); have n1_ := aM (KeepBut.trans (by repeat (first | (with_reducible first | exact HK.out | apply KeepBut.set_ | apply keep_drewN | apply keep_drew | apply keep_alloc) | exact HK.out)) (KeepBut.of_below hb g none) (.inl rfl)); have n2_ := aM (below_step (by repeat (first | (with_reducible first | exact HB.out | apply eA | apply eN | apply eD | refine eS ?_ (IsS78.ge HI0.out)) | exact HB.out)) hb); have n3_ := aM (hbox); have n4_ := aM ((by rw [hg]; exact (keep_size (w := w) (g := g) (row := none) (by repeat (first | (with_reducible first | exact HK.out | apply KeepBut.set_ | apply keep_drewN | apply keep_drew | apply keep_alloc) | exact HK.out))) : w.heap.size ≤ gb167)); have n5_ := aM ((Nat.le_trans HW0.out (by rw [hg]; exact (keep_size (w := w) (g := g) (row := none) (by repeat (first | (with_reducible first | exact HK.out | apply KeepBut.set_ | apply keep_drewN | apply keep_drew | apply keep_alloc) | exact HK.out))) : w.heap.size ≤ gb167) : w0.heap.size ≤ gb167)); have n6_ := aM ((by rw [hg]; exact Nat.ne_of_lt (IsS78.lt (show IsS78 w0 _ g s0_0 s0_1 s0_2 from by first | ((repeat (first | (with_reducible first | exact HI0.out | apply IsS78.alloc | apply IsS78.drewN | apply IsS78.drew | apply IsS78.set_1 | apply IsS78.set_2) | exact HI0.out)); done) | (simp only [Int.add_zero]; (repeat (first | (with_reducible first | exact HI0.out | apply IsS78.alloc | apply IsS78.drewN | apply IsS78.drew | apply IsS78.set_1 | apply IsS78.set_2) | exact HI0.out))))) : g ≠ gb167)); have n7_ := aM ((by rw [hg]; exact Nat.ne_of_gt (IsS78.lt (show IsS78 w0 _ g s0_0 s0_1 s0_2 from by first | ((repeat (first | (with_reducible first | exact HI0.out | apply IsS78.alloc | apply IsS78.drewN | apply IsS78.drew | apply IsS78.set_1 | apply IsS78.set_2) | exact HI0.out)); done) | (simp only [Int.add_zero]; (repeat (first | (with_reducible first | exact HI0.out | apply IsS78.alloc | apply IsS78.drewN | apply IsS78.drew | apply IsS78.set_1 | apply IsS78.set_2) | exact HI0.out))))) : gb167 ≠ g)); clear HI0; clear HK; clear HB; have HI0 := n0_; have HK := n1_; have HB := n2_; have BK167 := n3_; have GW167 := n4_; have GE167 := n5_; have NB0_167 := n6_; have NB167_0 := n7_; clear n0_ n1_ n2_ n3_ n4_ n5_ n6_ n7_; clear hb hbox hg) | ((with_reducible refine gate_dst (N := 10) rfl ?_); refine Kd.R_lit (Kd.int .i64) _ 3 ?hg (N := 10) ?hd (xs := ([1, 3, 5, 20] : List Int)) (inner := [.int .i64 1, .int .i64 3, .int .i64 5, .int .i64 20]) (ok := fun _ => True) (okp := fun _ => True) ?hr ?hp (fun _ hk => hk) trivial (Below.refl _ _) (Nat.le_refl _) (by simp) ?_; (case hd => rfl); (case hg => rfl); (case hr => first | (go_simp; done) | (go_simp; rfl)); (case hp => exact (Reps.one (show Kd.M (Kd.int .i64) _ _ _ 1 [.int .i64 1] from rfl) (Reps.one (show Kd.M (Kd.int .i64) _ _ _ 3 [.int .i64 3] from rfl) (Reps.one (show Kd.M (Kd.int .i64) _ _ _ 5 [.int .i64 5] from rfl) (Reps.one (show Kd.M (Kd.int .i64) _ _ _ 20 [.int .i64 20] from rfl) (Reps.none _ _)))))); intro v169 w5 ho6 hb hg_ hnew_; clear hg_ hnew_; (first | rw [← Ny168.out] at ho6 | (simp only [Int.reduceToNat] at ho6; rw [← Ny168.out] at ho6)); have n0_ := aM (Kd.R_lower ho6 (keep_size (w := w) (g := g) (row := none) (by repeat (first | (with_reducible first | exact HK.out | apply KeepBut.set_ | apply keep_drewN | apply keep_drew | apply keep_alloc | refine keep_far ?_ GW167.out _) | exact HK.out)))); have n1_ := aM (IsS78.below (by first | ((repeat (first | (with_reducible first | exact HI0.out | apply IsS78.alloc | apply IsS78.drewN | apply IsS78.drew | apply IsS78.set_1 | apply IsS78.set_2 | refine IsS78.far ?_ NB0_167.out _) | exact HI0.out)); done) | (simp only [Int.add_zero]; (repeat (first | (with_reducible first | exact HI0.out | apply IsS78.alloc | apply IsS78.drewN | apply IsS78.drew | apply IsS78.set_1 | apply IsS78.set_2 | refine IsS78.far ?_ NB0_167.out _) | exact HI0.out)))) hb); have n2_ := aM (bB (g := gb167) (o := .cells #[.slice none 0 0, .int .i64 0] 28 (0, 0)) (by (with_reducible repeat (first | refine bN ?_ _ | refine bD ?_ | refine bA ?_ _)); exact BK167.out) hb); have n3_ := aM (KeepBut.trans (by repeat (first | (with_reducible first | exact HK.out | apply KeepBut.set_ | apply keep_drewN | apply keep_drew | apply keep_alloc | refine keep_far ?_ GW167.out _) | exact HK.out)) (KeepBut.of_below hb g none) (.inl rfl)); have n4_ := aM (below_step (by repeat (first | (with_reducible first | exact HB.out | apply eA | apply eN | apply eD | refine eS ?_ (IsS78.ge HI0.out) | refine eS ?_ GE167.out) | exact HB.out)) hb); clear HI0; clear BK167; clear HK; clear HB; have HO170 := n0_; have HI0 := n1_; have BK167 := n2_; have HK := n3_; have HB := n4_; clear n0_ n1_ n2_ n3_ n4_; clear hb ho6; obtain ⟨Ao7, co7, eo7⟩ := Kd.R_slice HO170.out; subst eo7) | ((with_reducible refine gate_callee (f := 87) rfl ?_); refine goesL_ (some 11) rfl rfl Try.func87 (by kernel_rfl) rfl #[.pointer (some ⟨g, 0, none⟩), .slice Ao7 y168.length co7] rfl (by (try simp only [List.map_toArray, List.map_cons, List.map_nil]); first | done | rfl | (simp only [List.length_drop, List.length_take]; rfl)) ?_; (with_reducible refine (spec_l1Cur_among.calls g s0_0 s0_1 s0_2 _ _ y168 t171 t172 t173 w0 _ ?side1 ?side2 ?side3 ?side4 ?side5 A3.out).mono ?_); (case side1 => repeat (first | (with_reducible first | exact HI0.out | apply IsS78.alloc | apply IsS78.drewN | apply IsS78.drew | apply IsS78.set_1 | apply IsS78.set_2 | refine IsS78.far ?_ NB0_167.out _) | exact HI0.out)); (case side2 => repeat (first | (with_reducible first | exact HB.out | apply eA | apply eN | apply eD | refine eS ?_ (IsS78.ge HI0.out) | refine eS ?_ GE167.out) | exact HB.out)); (case side3 => repeat (first | exact (Kd.R_reads' HO170.out).2.2 | (with_reducible refine Kd.C_alloc ?_ _) | (with_reducible refine Kd.C_drewN ?_ _) | (with_reducible refine Kd.C_drew ?_))); (case side4 => exact (Kd.R_reads' HO170.out).2.1); (case side5 => exact far_slice (IsS78.own_ne HI0.out HO170.out (by decide))); rintro e w8 ⟨rfl, hi, hb, hk⟩; refine ⟨_, rfl, ?_⟩; have n0_ := aM (KeepBut.blk hk (g' := gb167) (o := .cells #[.slice none 0 0, .int .i64 0] 28 (0, 0)) (by (with_reducible repeat (first | refine bN ?_ _ | refine bD ?_ | refine bA ?_ _)); exact BK167.out) NB167_0.out (by simp)); have n1_ := aM (rM (Kd.R_keep (IsS78.apart (show IsS78 w0 _ g s0_0 s0_1 s0_2 from by first | ((repeat (first | (with_reducible first | exact HI0.out | apply IsS78.alloc | apply IsS78.drewN | apply IsS78.drew | apply IsS78.set_1 | apply IsS78.set_2 | refine IsS78.far ?_ NB0_167.out _) | exact HI0.out)); done) | (simp only [Int.add_zero]; (repeat (first | (with_reducible first | exact HI0.out | apply IsS78.alloc | apply IsS78.drewN | apply IsS78.drew | apply IsS78.set_1 | apply IsS78.set_2 | refine IsS78.far ?_ NB0_167.out _) | exact HI0.out)))) (by (with_reducible repeat (first | apply rA | apply rN | apply rD)); exact HO170.out) (by decide)) hk (fun _ h => h.2)) (fun _ h => h.1)); have n2_ := aM (KeepBut.trans (by repeat (first | (with_reducible first | exact HK.out | apply KeepBut.set_ | apply keep_drewN | apply keep_drew | apply keep_alloc | refine keep_far ?_ GW167.out _) | exact HK.out)) hk (.inl rfl)); have n3_ := aM (hb); have n4_ := aM (hi); clear BK167; clear HO170; clear HK; clear HB; clear HI0; have BK167 := n0_; have HO170 := n1_; have HK := n2_; have HB := n3_; have HI0 := n4_; clear n0_ n1_ n2_ n3_ n4_; (try clear hb); (try clear hb2); (try clear hk); (try clear hi)) | ((with_reducible refine gate_dst (N := 5) rfl ?_); refine box_event ?hg (N := 5) ?hd (cs := #[.slice none 0 0, .int .i64 0]) (t := 28) ?hr ?_; (case hd => rfl); (case hg => rfl); (case hr => first | (go_simp; done) | (go_simp; rfl)); intro gb174 hg w9 hbox hb; have n0_ := aM (Kd.R_below (by (with_reducible repeat (first | apply rA | apply rN | apply rD)); exact HO170.out) hb); have n1_ := aM (IsS78.below (by first | ((repeat (first | (with_reducible first | exact HI0.out | apply IsS78.alloc | apply IsS78.drewN | apply IsS78.drew | apply IsS78.set_1 | apply IsS78.set_2 | refine IsS78.far ?_ NB0_167.out _) | exact HI0.out)); done) | (simp only [Int.add_zero]; (repeat (first | (with_reducible first | exact HI0.out | apply IsS78.alloc | apply IsS78.drewN | apply IsS78.drew | apply IsS78.set_1 | apply IsS78.set_2 | refine IsS78.far ?_ NB0_167.out _) | exact HI0.out)))) hb); have n2_ := aM (bB (g := gb167) (o := .cells #[.slice none 0 0, .int .i64 0] 28 (0, 0)) (by (with_reducible repeat (first | refine bN ?_ _ | refine bD ?_ | refine bA ?_ _)); exact BK167.out) hb); have n3_ := aM (KeepBut.trans (by repeat (first | (with_reducible first | exact HK.out | apply KeepBut.set_ | apply keep_drewN | apply keep_drew | apply keep_alloc | refine keep_far ?_ GW167.out _) | exact HK.out)) (KeepBut.of_below hb g none) (.inl rfl)); have n4_ := aM (below_step (by repeat (first | (with_reducible first | exact HB.out | apply eA | apply eN | apply eD | refine eS ?_ (IsS78.ge HI0.out) | refine eS ?_ GE167.out) | exact HB.out)) hb); have n5_ := aM (hbox); have n6_ := aM ((by rw [hg]; exact (keep_size (w := w) (g := g) (row := none) (by repeat (first | (with_reducible first | exact HK.out | apply KeepBut.set_ | apply keep_drewN | apply keep_drew | apply keep_alloc | refine keep_far ?_ GW167.out _) | exact HK.out))) : w.heap.size ≤ gb174)); have n7_ := aM ((Nat.le_trans HW0.out (by rw [hg]; exact (keep_size (w := w) (g := g) (row := none) (by repeat (first | (with_reducible first | exact HK.out | apply KeepBut.set_ | apply keep_drewN | apply keep_drew | apply keep_alloc | refine keep_far ?_ GW167.out _) | exact HK.out))) : w.heap.size ≤ gb174) : w0.heap.size ≤ gb174)); have n8_ := aM ((by rw [hg]; exact Nat.ne_of_lt (blk_lt (g := gb167) (o := .cells #[.slice none 0 0, .int .i64 0] 28 (0, 0)) (by (with_reducible repeat (first | refine bN ?_ _ | refine bD ?_ | refine bA ?_ _)); exact BK167.out)) : gb167 ≠ gb174)); have n9_ := aM ((by rw [hg]; exact Nat.ne_of_gt (blk_lt (g := gb167) (o := .cells #[.slice none 0 0, .int .i64 0] 28 (0, 0)) (by (with_reducible repeat (first | refine bN ?_ _ | refine bD ?_ | refine bA ?_ _)); exact BK167.out)) : gb174 ≠ gb167)); have n10_ := aM ((by rw [hg]; exact Nat.ne_of_lt (IsS78.lt (show IsS78 w0 _ g s0_0 t172 t173 from by first | ((repeat (first | (with_reducible first | exact HI0.out | apply IsS78.alloc | apply IsS78.drewN | apply IsS78.drew | apply IsS78.set_1 | apply IsS78.set_2 | refine IsS78.far ?_ NB0_167.out _) | exact HI0.out)); done) | (simp only [Int.add_zero]; (repeat (first | (with_reducible first | exact HI0.out | apply IsS78.alloc | apply IsS78.drewN | apply IsS78.drew | apply IsS78.set_1 | apply IsS78.set_2 | refine IsS78.far ?_ NB0_167.out _) | exact HI0.out))))) : g ≠ gb174)); have n11_ := aM ((by rw [hg]; exact Nat.ne_of_gt (IsS78.lt (show IsS78 w0 _ g s0_0 t172 t173 from by first | ((repeat (first | (with_reducible first | exact HI0.out | apply IsS78.alloc | apply IsS78.drewN | apply IsS78.drew | apply IsS78.set_1 | apply IsS78.set_2 | refine IsS78.far ?_ NB0_167.out _) | exact HI0.out)); done) | (simp only [Int.add_zero]; (repeat (first | (with_reducible first | exact HI0.out | apply IsS78.alloc | apply IsS78.drewN | apply IsS78.drew | apply IsS78.set_1 | apply IsS78.set_2 | refine IsS78.far ?_ NB0_167.out _) | exact HI0.out))))) : gb174 ≠ g)); clear HO170; clear HI0; clear BK167; clear HK; clear HB; have HO170 := n0_; have HI0 := n1_; have BK167 := n2_; have HK := n3_; have HB := n4_; have BK174 := n5_; have GW174 := n6_; have GE174 := n7_; have NB167_174 := n8_; have NB174_167 := n9_; have NB0_174 := n10_; have NB174_0 := n11_; clear n0_ n1_ n2_ n3_ n4_ n5_ n6_ n7_ n8_ n9_ n10_ n11_; clear hb hbox hg; have hnb10 := NB174_167.out; have hnc10 := NB167_174.out; have hnb11 := NB174_0.out; have hnc11 := NB0_174.out; have hcz12_0 : w9.cell? ⟨gb174, 0, none⟩ = some (.slice none 0 0) := (bC BK174.out 0).trans rfl; have hcz12_1 : w9.cell? ⟨gb174, 1, none⟩ = some (.int .i64 0) := (bC BK174.out 1).trans rfl; have hfz12_0 := bF BK174.out 0; have hfz12_1 := bF BK174.out 1))
 go_loopg [7] k (fun kq v7 w' => ∃ (x7_1 : Int) (x1001_1 : Int) (x1002_1 : Int) (x175000_1 : List Int) (u175000 : Value), v7 = .int .i64 x7_1 ∧ Aside0 (spec_l1Cur_plane.l0 kq a1 t171 x7_1 s0_0 x1001_1 x1002_1 x175000_1 0 = some (r1, r2, r3, r4)) ∧ Aside0 (kq ≤ k) ∧ Aside0 (Kd.R (Kd.int .i64) 3 w' w.heap.size (fun _ => True) u175000 x175000_1) ∧ Aside0 (w'.heap[gb167]? = some (.cells #[(.slice none 0 0), .int .i64 0] 28 (0, 0))) ∧ Aside0 (w'.heap[gb174]? = some (.cells #[u175000, .int .i64 0] 28 (0, 0))) ∧ Aside0 (IsS78 w0 w' g s0_0 x1001_1 x1002_1) ∧ Aside0 (KeepBut w w' g none) ∧ Aside0 (Below w0.heap.size w0 w'))
 case atStart => exact ⟨(0), (t172), (t173), (([] : List Int)), (.slice none 0 0), (by first | rfl | (simp; done) | (simp [*]; done)), H', ⟨Nat.le_refl _⟩, ⟨by first | exact Kd.R_nil _ _ _ _ _ | exact Kd.N_nil _ _ _ _ _ | exact Kd.V_nil _ _ _ _ _ | exact Kd.Q_nil _ _ _ _ _ | exact Kd.S_nil _ _ _ _ _⟩, ⟨by (with_reducible repeat (first | refine bN ?_ _ | refine bD ?_ | refine bA ?_ _)); refine blk_far ?_ NB167_174.out _; (with_reducible repeat (first | refine bN ?_ _ | refine bD ?_ | refine bA ?_ _)); refine blk_far ?_ NB167_174.out _; (with_reducible repeat (first | refine bN ?_ _ | refine bD ?_ | refine bA ?_ _)); exact BK167.out⟩, ⟨by (with_reducible repeat (first | refine bN ?_ _ | refine bD ?_ | refine bA ?_ _)); refine blk_put (cs := #[.slice none 0 0, .int .i64 0]) ?_ 1 _ rfl; (with_reducible repeat (first | refine bN ?_ _ | refine bD ?_ | refine bA ?_ _)); refine blk_put (cs := #[.slice none 0 0, .int .i64 0]) ?_ 0 _ rfl; (with_reducible repeat (first | refine bN ?_ _ | refine bD ?_ | refine bA ?_ _)); exact BK174.out⟩, ⟨by first | ((repeat (first | (with_reducible first | exact HI0.out | apply IsS78.alloc | apply IsS78.drewN | apply IsS78.drew | apply IsS78.set_1 | apply IsS78.set_2 | refine IsS78.far ?_ NB0_167.out _ | refine IsS78.far ?_ NB0_174.out _) | exact HI0.out)); done) | (simp only [Int.add_zero]; (repeat (first | (with_reducible first | exact HI0.out | apply IsS78.alloc | apply IsS78.drewN | apply IsS78.drew | apply IsS78.set_1 | apply IsS78.set_2 | refine IsS78.far ?_ NB0_167.out _ | refine IsS78.far ?_ NB0_174.out _) | exact HI0.out)))⟩, ⟨by repeat (first | (with_reducible first | exact HK.out | apply KeepBut.set_ | apply keep_drewN | apply keep_drew | apply keep_alloc | refine keep_far ?_ GW167.out _ | refine keep_far ?_ GW174.out _) | exact HK.out)⟩, ⟨by repeat (first | (with_reducible first | exact HB.out | apply eA | apply eN | apply eD | refine eS ?_ (IsS78.ge HI0.out) | refine eS ?_ GE167.out | refine eS ?_ GE174.out) | exact HB.out)⟩⟩
 case round =>
  clear H'
  try clear c1; try clear p2; try clear c8; try clear c10; try clear c11; try clear hcz12_0; try clear hcz12_1; try clear hfz12_0; try clear hfz12_1
  obtain ⟨x7_1, x1001_1, x1002_1, x175000_1, u175000, rfl, HA, HK1, HO_175000, BK167, BK174, HI0, HK, HB⟩ := hrel
  cases gk with
  | zero => exact absurd HA.out (by simp [spec_l1Cur_plane.l0])
  | succ k1 =>
   have H := HA.out
   clear HA
   simp only [spec_l1Cur_plane.l0] at H
   by_cases c13 : x7_1 < a1
   ·
    rw [if_pos c13] at H
    have c13b0 : decide (x7_1 < a1) = true := decide_eq_true c13
    clear c13
    replace H := oB.mp H
    obtain ⟨⟨t175, t176, t177⟩, A140, H⟩ := H
    replace H : (if x175000_1.length < 17592186044416 then (spec_l1Cur_plane.l0 k1 a1 t171 (wrap64 (x7_1 + 1)) s0_0 t176 t177 (x175000_1 ++ [wrap64 (t175 - t171)]) 0) else (none)) = some (r1, r2, r3, r4) := H
    have A14 := aM A140
    clear A140
    by_cases c15 : x175000_1.length < 17592186044416
    ·
     rw [if_pos c15] at H
     have LMc15 := aM c15
     clear c15
     obtain ⟨y178, hy178⟩ : ∃ y_ : List Int, y_ = (x175000_1 ++ [wrap64 (t175 - t171)]) := ⟨_, rfl⟩
     replace H : (spec_l1Cur_plane.l0 k1 a1 t171 (wrap64 (x7_1 + 1)) s0_0 t176 t177 y178 0) = some (r1, r2, r3, r4) := by first | (rw [hy178]; with_reducible exact H) | (have H2_ := (Option.bind_some _ _).symm.trans H; rw [hy178]; with_reducible exact H2_) | (have H2_ := (Option.bind_some _ _).symm.trans H; with_reducible exact H2_) | with_reducible exact H | (rw [hy178]; exact H) | exact H
     have Ny178 := aM hy178
     clear hy178
     have H' := aM H
     clear H
     try go_wp2
     have n0_ := aM (rD HO_175000.out)
     have n1_ := aM (bD BK167.out)
     have n2_ := aM (bD BK174.out)
     have n3_ := aM (IsS78.drew HI0.out)
     have n4_ := aM (keep_drew HK.out)
     have n5_ := aM (eD HB.out)
     clear HO_175000 BK167 BK174 HI0 HK HB
     have HO_175000 := n0_
     have BK167 := n1_
     have BK174 := n2_
     have HI0 := n3_
     have HK := n4_
     have HB := n5_
     clear n0_ n1_ n2_ n3_ n4_ n5_
     refine start_ (n := 13) (S := fun w' => w'.cell? ⟨gb174, 0, none⟩ = some (u175000) ∧ w'.cell? ⟨gb174, 1, none⟩ = some (.int .i64 0)) (ds := [12]) #[false, false, false, false, false, false, false, false, false, false, false, false, false] (by kernel_rfl) rfl rfl ⟨(bC BK174.out 0).trans rfl, (bC BK174.out 1).trans rfl⟩ (fun hHeld => ?_); refine with_tabW spec_l1Cur_plane.tab5 spec_l1Cur_plane.bits5 (fun HT_ HW_ => ?_)
     generalize wr.drew = w16 at HO_175000 BK167 BK174 HI0 HK HB hHeld ⊢
     refine pure_ (i := 0) (N := some 17) (v := ?_) (a' := ?_) #[true, false, false, false, false, false, false, false, false, false, false, false, false] rfl rfl (any_of HT_.out (by kernel_rfl)) (fun _ _ _ h => h) (Or.inl ⟨by rfl, ?_⟩) ?_ ?_
     rotate_left
     ·
      intro w'
      go_simp
      with_reducible rfl
     rotate_left
     ·
      simp only [Act.put, sA, sZ, sU, i64_w, i32_w]
      rfl
     refine pure_ (i := 2) (N := some 19) (v := ?_) (a' := ?_) #[true, false, true, false, false, false, false, false, false, false, false, false, false] rfl rfl (any_of HT_.out (by kernel_rfl)) (fun _ _ _ h => h) (Or.inl ⟨by rfl, ?_⟩) ?_ ?_
     rotate_left
     ·
      intro w'
      go_simp
      with_reducible rfl
     rotate_left
     ·
      simp only [Act.put, sA, sZ, sU, i64_w, i32_w]
      rfl
     refine pure_ (i := 3) (N := some 20) (v := ?_) (a' := ?_) #[true, false, true, true, false, false, false, false, false, false, false, false, false] rfl rfl (any_of HT_.out (by kernel_rfl)) (fun _ _ _ h => h) (Or.inl ⟨by rfl, ?_⟩) ?_ ?_
     rotate_left
     ·
      intro w'
      go_simp
      with_reducible rfl
     rotate_left
     ·
      simp only [Act.put, sA, sZ, sU, i64_w, i32_w]
      rfl
     refine pure_ (i := 4) (N := some 21) (v := ?_) (a' := ?_) #[true, false, true, true, true, false, false, false, false, false, false, false, false] rfl rfl (any_of HT_.out (by kernel_rfl)) (fun _ _ _ h => h) (Or.inl ⟨by rfl, ?_⟩) ?_ ?_
     rotate_left
     ·
      intro w'
      go_simp
      with_reducible rfl
     rotate_left
     ·
      simp only [Act.put, sA, sZ, sU, i64_w, i32_w]
      rfl
     refine pure_ (i := 5) (N := some 22) (v := ?_) (a' := ?_) #[true, false, true, true, true, true, false, false, false, false, false, false, false] rfl rfl (any_of HT_.out (by kernel_rfl)) (fun _ _ _ h => h) (Or.inl ⟨by rfl, ?_⟩) ?_ ?_
     rotate_left
     ·
      intro w'
      go_simp
      with_reducible rfl
     rotate_left
     ·
      simp only [Act.put, sA, sZ, sU, i64_w, i32_w]
      rfl
     refine pure_ (i := 7) (N := some 24) (v := ?_) (a' := ?_) #[true, false, true, true, true, true, false, true, false, false, false, false, false] rfl rfl (any_of HT_.out (by kernel_rfl)) (fun _ _ _ h => h) (Or.inl ⟨by rfl, ?_⟩) ?_ ?_
     rotate_left
     ·
      intro w'
      go_simp
      with_reducible rfl
     rotate_left
     ·
      simp only [Act.put, sA, sZ, sU, i64_w, i32_w]
      rfl
     refine take_ (i := 1) (N := some 18) (v := ?_) (a' := ?_) #[true, true, true, true, true, true, false, true, false, false, false, false, false] rfl rfl (take_ofW HT_.out HW_.out (by kernel_rfl)) (fun _ _ _ h => h) (Or.inl ⟨by rfl, ?_⟩) hHeld ?_ ?_
     rotate_left
     ·
      rintro w' ⟨s0, s1⟩
      first | (go_simp; with_reducible rfl) | (simp only [add_plain] at s0 s1; go_simp; with_reducible rfl)
     rotate_left
     ·
      simp only [Act.put, sA, sZ, sU, i64_w, i32_w]
      rfl
     refine one_ (i := 6) (N := some 23) #[true, true, true, true, true, true, true, true, false, false, false, false, false] rfl rfl (one_of HT_.out (by kernel_rfl)) (by decide) (fun K hK => ?_)
     refine goes_ Try.func85 (by kernel_rfl) rfl #[.pointer (some ⟨g, 0, none⟩), .int .i64 (wrap64 ((wrap64 (2 * t171)) + 1))] (by rfl) rfl rfl (by (try simp only [List.map_toArray, List.map_cons, List.map_nil]); first | done | rfl | (simp only [List.length_drop, List.length_take]; rfl)) ?_
     with_reducible refine (spec_l1Cur_pick.calls g s0_0 x1001_1 x1002_1 (wrap64 ((wrap64 (2 * t171)) + 1)) t175 t176 t177 w0 _ ?side1 ?side2 A14.out).mono ?_
     (case side1 => repeat (first | (with_reducible first | exact HI0.out | apply IsS78.alloc | apply IsS78.drewN | apply IsS78.drew | apply IsS78.set_1 | apply IsS78.set_2 | refine IsS78.far ?_ NB0_167.out _ | refine IsS78.far ?_ NB0_174.out _) | exact HI0.out))
     (case side2 => repeat (first | (with_reducible first | exact HB.out | apply eA | apply eN | apply eD | refine eS ?_ (IsS78.ge HI0.out) | refine eS ?_ GE167.out | refine eS ?_ GE174.out) | exact HB.out))
     rintro e w17 ⟨rfl, hi, hb, hk⟩
     refine ⟨_, rfl, ?_⟩
     have n0_ := aM (rM (Kd.R_keep (IsS78.apart (show IsS78 w0 _ g s0_0 x1001_1 x1002_1 from by first | ((repeat (first | (with_reducible first | exact HI0.out | apply IsS78.alloc | apply IsS78.drewN | apply IsS78.drew | apply IsS78.set_1 | apply IsS78.set_2 | refine IsS78.far ?_ NB0_167.out _ | refine IsS78.far ?_ NB0_174.out _) | exact HI0.out)); done) | (simp only [Int.add_zero]; (repeat (first | (with_reducible first | exact HI0.out | apply IsS78.alloc | apply IsS78.drewN | apply IsS78.drew | apply IsS78.set_1 | apply IsS78.set_2 | refine IsS78.far ?_ NB0_167.out _ | refine IsS78.far ?_ NB0_174.out _) | exact HI0.out)))) (by (with_reducible repeat (first | apply rA | apply rN | apply rD)); exact HO_175000.out) (by decide)) hk (fun _ h => h.2)) (fun _ h => h.1))
     have n1_ := aM (KeepBut.blk hk (g' := gb167) (o := .cells #[.slice none 0 0, .int .i64 0] 28 (0, 0)) (by (with_reducible repeat (first | refine bN ?_ _ | refine bD ?_ | refine bA ?_ _)); exact BK167.out) NB167_0.out (by simp))
     have n2_ := aM (KeepBut.blk hk (g' := gb174) (o := .cells #[u175000, .int .i64 0] 28 (0, 0)) (by (with_reducible repeat (first | refine bN ?_ _ | refine bD ?_ | refine bA ?_ _)); exact BK174.out) NB174_0.out (by simp))
     have n3_ := aM (KeepBut.trans (by repeat (first | (with_reducible first | exact HK.out | apply KeepBut.set_ | apply keep_drewN | apply keep_drew | apply keep_alloc | refine keep_far ?_ GW167.out _ | refine keep_far ?_ GW174.out _) | exact HK.out)) hk (.inl rfl))
     have n4_ := aM (hb)
     have n5_ := aM (hi)
     clear HO_175000 BK167 BK174 HK HB HI0
     have HO_175000 := n0_
     have BK167 := n1_
     have BK174 := n2_
     have HK := n3_
     have HB := n4_
     have HI0 := n5_
     clear n0_ n1_ n2_ n3_ n4_ n5_
     (try clear hb)
     (try clear hb2)
     (try clear hk)
     (try clear hi)
     refine hK.out _ _ ⟨(bC BK174.out 0).trans rfl, (bC BK174.out 1).trans rfl⟩ (fun hHeld => ?_)
     clear hK K
     refine norm_ (a' := ?_) ?_ ?_
     rotate_left
     ·
      show Act.put _ (some 23) _ = _
      simp only [Act.put, sA, sZ, sU, i64_w, i32_w]
      rfl
     refine pure_ (i := 8) (N := some 25) (v := ?_) (a' := ?_) #[true, true, true, true, true, true, true, true, true, false, false, false, false] rfl rfl (any_of HT_.out (by kernel_rfl)) (fun _ _ _ h => h) (Or.inl ⟨by rfl, ?_⟩) ?_ ?_
     rotate_left
     ·
      intro w'
      go_simp
      with_reducible rfl
     rotate_left
     ·
      simp only [Act.put, sA, sZ, sU, i64_w, i32_w]
      rfl
     refine one_ (i := 9) (N := some 26) #[true, true, true, true, true, true, true, true, true, true, false, false, false] rfl rfl (one_of HT_.out (by kernel_rfl)) (by decide) (fun K hK => ?_)
     refine value_ (w1 := ?_) (v := ?_) (by rfl) rfl ?_ ?_
     rotate_left 2
     ·
      go_simp
      constructor
      ·
       rfl
      ·
       rfl
     refine hK.out _ _ ⟨(bC (bA BK174.out _) 0).trans rfl, (bC (bA BK174.out _) 1).trans rfl⟩ (fun hHeld => ?_)
     clear hK K
     refine norm_ (a' := ?_) ?_ ?_
     rotate_left
     ·
      show Act.put _ (some 26) _ = _
      simp only [Act.put, sA, sZ, sU, i64_w, i32_w]
      rfl
     refine one_ (i := 10) (N := some 27) #[true, true, true, true, true, true, true, true, true, true, true, false, false] rfl rfl (one_of HT_.out (by kernel_rfl)) (by decide) (fun K hK => ?_)
     refine Kd.R_append_step (Kd.int .i64) w.heap.size (by rfl) (.tmp 18) (.tmp 26) 24 3 (.int .i64 0) 8 rfl Try.underlying24 info3 rfl (by decide) (by omega) u175000 x175000_1 (wrap64 (t175 - t171)) [.int .i64 (wrap64 (t175 - t171))] (fun _ => True) (fun _ => False) rfl rfl ?aP (fun _ hk => hk.elim) ?aF ?aO (Below.refl _ _) ?aS ?aL ?_
     (case aP => exact rfl)
     (case aF => exact (fun _ _ => trivial))
     (case aO => exact (by (with_reducible repeat (first | apply rA | apply rN | apply rD)); exact HO_175000.out))
     (case aS => exact (keep_size (w := w) (g := g) (row := none) (by repeat (first | (with_reducible first | exact HK.out | apply KeepBut.set_ | apply keep_drewN | apply keep_drew | apply keep_alloc | refine keep_far ?_ GW167.out _ | refine keep_far ?_ GW174.out _) | exact HK.out))))
     (case aL => have := LMc15.out; omega)
     intro v179 w18 ho hb hg hat
     rw [← Ny178.out] at ho
     have n0_ := aM (blk_grown (g := gb167) (o := .cells #[.slice none 0 0, .int .i64 0] 28 (0, 0)) (by (with_reducible repeat (first | refine bN ?_ _ | refine bD ?_ | refine bA ?_ _)); exact BK167.out) hg (Kd.R_ne HO_175000.out BK167.out (by decide)))
     have n1_ := aM (blk_grown (g := gb174) (o := .cells #[u175000, .int .i64 0] 28 (0, 0)) (by (with_reducible repeat (first | refine bN ?_ _ | refine bD ?_ | refine bA ?_ _)); exact BK174.out) hg (Kd.R_ne HO_175000.out BK174.out (by decide)))
     have n2_ := aM (IsS78.grown (by first | ((repeat (first | (with_reducible first | exact HI0.out | apply IsS78.alloc | apply IsS78.drewN | apply IsS78.drew | apply IsS78.set_1 | apply IsS78.set_2 | refine IsS78.far ?_ NB0_167.out _ | refine IsS78.far ?_ NB0_174.out _) | exact HI0.out)); done) | (simp only [Int.add_zero]; (repeat (first | (with_reducible first | exact HI0.out | apply IsS78.alloc | apply IsS78.drewN | apply IsS78.drew | apply IsS78.set_1 | apply IsS78.set_2 | refine IsS78.far ?_ NB0_167.out _ | refine IsS78.far ?_ NB0_174.out _) | exact HI0.out)))) hg (IsS78.own_ne HI0.out HO_175000.out (by decide)))
     have n3_ := aM (below_weaken (by repeat (first | (with_reducible first | exact HB.out | apply eA | apply eN | apply eD | refine eS ?_ (IsS78.ge HI0.out) | refine eS ?_ GE167.out | refine eS ?_ GE174.out) | exact HB.out)) HL.out hb)
     have n4_ := aM (KeepBut.trans (by repeat (first | (with_reducible first | exact HK.out | apply KeepBut.set_ | apply keep_drewN | apply keep_drew | apply keep_alloc | refine keep_far ?_ GW167.out _ | refine keep_far ?_ GW174.out _) | exact HK.out)) (KeepBut.of_grown hg g) (Kd.R_base2 HO_175000.out))
     have n5_ := aM (ho)
     clear BK167 BK174 HI0 HB HK HO_175000
     have BK167 := n0_
     have BK174 := n1_
     have HI0 := n2_
     have HB := n3_
     have HK := n4_
     have HO180 := n5_
     clear n0_ n1_ n2_ n3_ n4_ n5_ ho hb hg hat
     obtain ⟨Ao19, co19, eo19⟩ := Kd.R_slice HO180.out
     (first | subst eo19 | (injection eo19 with f1_ f2_ f3_; have f4_ := f1_.symm; have f5_ := f3_.symm; clear f1_ f2_ f3_; subst f4_; subst f5_))
     refine hK.out _ _ ⟨(bC BK174.out 0).trans rfl, (bC BK174.out 1).trans rfl⟩ (fun hHeld => ?_)
     clear hK K
     refine norm_ (a' := ?_) ?_ ?_
     rotate_left
     ·
      show Act.put _ (some 27) _ = _
      simp only [Act.put, sA, sZ, sU, i64_w, i32_w]
      rfl
     refine pure_ (i := 11) (N := some 28) (v := ?_) (a' := ?_) #[true, true, true, true, true, true, true, true, true, true, true, true, false] rfl rfl (any_of HT_.out (by kernel_rfl)) (fun _ _ _ h => h) (Or.inl ⟨by rfl, ?_⟩) ?_ ?_
     rotate_left
     ·
      intro w'
      go_simp
      with_reducible rfl
     rotate_left
     ·
      simp only [Act.put, sA, sZ, sU, i64_w, i32_w]
      rfl
     refine last_ (i := 12) (N := none) #[true, true, true, true, true, true, true, true, true, true, true, true, true] rfl rfl (one_of HT_.out (by kernel_rfl)) (by decide) (fun K hK => ?_)
     have hs20 : w18.cell? ⟨gb174, 0, none⟩ = some (u175000) := (bC BK174.out 0).trans rfl
     have hfs20 := bF BK174.out 0
     have hns20_0 := NB167_174.out
     have hms20_0 := NB174_167.out
     refine skip_ (w1 := ?_) (by rfl) rfl ?_ ?_
     rotate_left
     ·
      go_simp
      rfl
     refine hK.out _ _ ?_
     clear hK K
     refine done_ (done_of HT_.out (by kernel_rfl)) ?_
     try go_wp2
     go_roundg k1
     case measure => have := HK1.out; omega
     case rel => exact ⟨(wrap64 (x7_1 + 1)), (t176), (t177), (y178), (.slice Ao19 y178.length co19), (by first | rfl | (simp; done) | (simp [*]; done)), H', ⟨by have := HK1.out; omega⟩, ⟨by (with_reducible repeat (first | apply rA | apply rN | apply rD)); exact rM (Kd.R_far (p := ⟨gb174, 0, none⟩) (Kd.R_types HO180.out BK174.out (by decide)) (fun _ hk => hk.2) (.slice Ao19 y178.length co19)) (fun _ hk => trivial)⟩, ⟨by (with_reducible repeat (first | refine bN ?_ _ | refine bD ?_ | refine bA ?_ _)); refine blk_far ?_ NB167_174.out _; (with_reducible repeat (first | refine bN ?_ _ | refine bD ?_ | refine bA ?_ _)); exact BK167.out⟩, ⟨by (with_reducible repeat (first | refine bN ?_ _ | refine bD ?_ | refine bA ?_ _)); refine blk_put (cs := #[u175000, .int .i64 0]) ?_ 0 _ rfl; (with_reducible repeat (first | refine bN ?_ _ | refine bD ?_ | refine bA ?_ _)); exact BK174.out⟩, ⟨by first | ((repeat (first | (with_reducible first | exact HI0.out | apply IsS78.alloc | apply IsS78.drewN | apply IsS78.drew | apply IsS78.set_1 | apply IsS78.set_2 | refine IsS78.far ?_ NB0_167.out _ | refine IsS78.far ?_ NB0_174.out _) | exact HI0.out)); done) | (simp only [Int.add_zero]; (repeat (first | (with_reducible first | exact HI0.out | apply IsS78.alloc | apply IsS78.drewN | apply IsS78.drew | apply IsS78.set_1 | apply IsS78.set_2 | refine IsS78.far ?_ NB0_167.out _ | refine IsS78.far ?_ NB0_174.out _) | exact HI0.out)))⟩, ⟨by repeat (first | (with_reducible first | exact HK.out | apply KeepBut.set_ | apply keep_drewN | apply keep_drew | apply keep_alloc | refine keep_far ?_ GW167.out _ | refine keep_far ?_ GW174.out _) | exact HK.out)⟩, ⟨by repeat (first | (with_reducible first | exact HB.out | apply eA | apply eN | apply eD | refine eS ?_ (IsS78.ge HI0.out) | refine eS ?_ GE167.out | refine eS ?_ GE174.out) | exact HB.out)⟩⟩
    ·
     rw [if_neg c15] at H
     exact absurd H (by simp)
   ·
    rw [if_neg c13] at H
    have c13b0 : decide (x7_1 < a1) = false := decide_eq_false c13
    clear c13
    replace H := oB.mp H
    obtain ⟨⟨t181, t182, t183⟩, A210, H⟩ := H
    replace H : ((spec_l1Cur_pick.f s0_0 t182 t183 60).bind fun bt184 => (if bt184.1 = 0 then ((spec_l1Cur_among.f s0_0 bt184.2.1 bt184.2.2 (([99, (-99), 100, (-100), 4611686018427387904] : List Int))).bind fun bt190 => (some (x175000_1, bt190.1, bt190.2.1, bt190.2.2))) else (if bt184.1 = 1 then (if a1 > 0 then ((spec_l1Cur_pick.f s0_0 bt184.2.1 bt184.2.2 a1).bind fun bt193 => ((spec_l1Cur_among.f s0_0 bt193.2.1 bt193.2.2 (([99, (-99), 100, (-100)] : List Int))).bind fun bt199 => (if 0 ≤ bt193.1 then (if bt193.1 < (x175000_1.length : Int) then (some ((x175000_1.set (bt193.1 : Int).toNat bt199.1), wrap64 ((wrap64 (t181 - t171)) - 1), bt199.2.1, bt199.2.2)) else (none)) else (none)))) else (some (x175000_1, wrap64 ((wrap64 (t181 - t171)) - 1), bt184.2.1, bt184.2.2))) else (if bt184.1 = 2 then (if x175000_1.length < 17592186044416 then (some ((x175000_1 ++ [1]), wrap64 ((wrap64 (t181 - t171)) - 1), bt184.2.1, bt184.2.2)) else (none)) else (some (x175000_1, wrap64 ((wrap64 (t181 - t171)) - 1), bt184.2.1, bt184.2.2)))))) = some (r1, r2, r3, r4) := H
    have A21 := aM A210
    clear A210
    replace H := oB.mp H
    obtain ⟨⟨t184, t185, t186⟩, A220, H⟩ := H
    replace H : (if t184 = 0 then ((spec_l1Cur_among.f s0_0 t185 t186 (([99, (-99), 100, (-100), 4611686018427387904] : List Int))).bind fun bt190 => (some (x175000_1, bt190.1, bt190.2.1, bt190.2.2))) else (if t184 = 1 then (if a1 > 0 then ((spec_l1Cur_pick.f s0_0 t185 t186 a1).bind fun bt193 => ((spec_l1Cur_among.f s0_0 bt193.2.1 bt193.2.2 (([99, (-99), 100, (-100)] : List Int))).bind fun bt199 => (if 0 ≤ bt193.1 then (if bt193.1 < (x175000_1.length : Int) then (some ((x175000_1.set (bt193.1 : Int).toNat bt199.1), wrap64 ((wrap64 (t181 - t171)) - 1), bt199.2.1, bt199.2.2)) else (none)) else (none)))) else (some (x175000_1, wrap64 ((wrap64 (t181 - t171)) - 1), t185, t186))) else (if t184 = 2 then (if x175000_1.length < 17592186044416 then (some ((x175000_1 ++ [1]), wrap64 ((wrap64 (t181 - t171)) - 1), t185, t186)) else (none)) else (some (x175000_1, wrap64 ((wrap64 (t181 - t171)) - 1), t185, t186))))) = some (r1, r2, r3, r4) := H
    have A22 := aM A220
    clear A220
    by_cases c23 : t184 = 0
    ·
     rw [if_pos c23] at H
     have c23b0 : (t184 == 0) = true := beq_iff_eq.mpr c23
     have c23b1 : (t184 != 0) = false := bne_eq_false_iff_eq.mpr c23
     clear c23
     obtain ⟨y187, hy187⟩ : ∃ y_ : List Int, y_ = (([99, (-99), 100, (-100), 4611686018427387904] : List Int)) := ⟨_, rfl⟩
     replace H : ((spec_l1Cur_among.f s0_0 t185 t186 y187).bind fun bt190 => (some (x175000_1, bt190.1, bt190.2.1, bt190.2.2))) = some (r1, r2, r3, r4) := by first | (rw [hy187]; with_reducible exact H) | (have H2_ := (Option.bind_some _ _).symm.trans H; rw [hy187]; with_reducible exact H2_) | (have H2_ := (Option.bind_some _ _).symm.trans H; with_reducible exact H2_) | with_reducible exact H | (rw [hy187]; exact H) | exact H
     have Ny187 := aM hy187
     clear hy187
     replace H := oB.mp H
     obtain ⟨⟨t190, t191, t192⟩, A240, H⟩ := H
     replace H : (some (x175000_1, t190, t191, t192)) = some (r1, r2, r3, r4) := H
     have A24 := aM A240
     clear A240
     simp only [Option.some.injEq, Prod.mk.injEq] at H
     obtain ⟨rfl, rfl, rfl, rfl⟩ := H
     go_wp2_with (first | ((with_reducible refine gate_callee (f := 85) rfl ?_); refine goesL_ (some 33) rfl rfl Try.func85 (by kernel_rfl) rfl #[.pointer (some ⟨g, 0, none⟩), .int .i64 (wrap64 ((wrap64 (2 * t171)) + 3))] rfl (by (try simp only [List.map_toArray, List.map_cons, List.map_nil]); first | done | rfl | (simp only [List.length_drop, List.length_take]; rfl)) ?_; (with_reducible refine (spec_l1Cur_pick.calls g s0_0 x1001_1 x1002_1 (wrap64 ((wrap64 (2 * t171)) + 3)) t181 t182 t183 w0 _ ?side1 ?side2 A21.out).mono ?_); (case side1 => repeat (first | (with_reducible first | exact HI0.out | apply IsS78.alloc | apply IsS78.drewN | apply IsS78.drew | apply IsS78.set_1 | apply IsS78.set_2 | refine IsS78.far ?_ NB0_167.out _ | refine IsS78.far ?_ NB0_174.out _) | exact HI0.out)); (case side2 => repeat (first | (with_reducible first | exact HB.out | apply eA | apply eN | apply eD | refine eS ?_ (IsS78.ge HI0.out) | refine eS ?_ GE167.out | refine eS ?_ GE174.out) | exact HB.out)); rintro e w25 ⟨rfl, hi, hb, hk⟩; refine ⟨_, rfl, ?_⟩; have n0_ := aM (rM (Kd.R_keep (IsS78.apart (show IsS78 w0 _ g s0_0 x1001_1 x1002_1 from by first | ((repeat (first | (with_reducible first | exact HI0.out | apply IsS78.alloc | apply IsS78.drewN | apply IsS78.drew | apply IsS78.set_1 | apply IsS78.set_2 | refine IsS78.far ?_ NB0_167.out _ | refine IsS78.far ?_ NB0_174.out _) | exact HI0.out)); done) | (simp only [Int.add_zero]; (repeat (first | (with_reducible first | exact HI0.out | apply IsS78.alloc | apply IsS78.drewN | apply IsS78.drew | apply IsS78.set_1 | apply IsS78.set_2 | refine IsS78.far ?_ NB0_167.out _ | refine IsS78.far ?_ NB0_174.out _) | exact HI0.out)))) (by (with_reducible repeat (first | apply rA | apply rN | apply rD)); exact HO_175000.out) (by decide)) hk (fun _ h => h.2)) (fun _ h => h.1)); have n1_ := aM (KeepBut.blk hk (g' := gb167) (o := .cells #[.slice none 0 0, .int .i64 0] 28 (0, 0)) (by (with_reducible repeat (first | refine bN ?_ _ | refine bD ?_ | refine bA ?_ _)); exact BK167.out) NB167_0.out (by simp)); have n2_ := aM (KeepBut.blk hk (g' := gb174) (o := .cells #[u175000, .int .i64 0] 28 (0, 0)) (by (with_reducible repeat (first | refine bN ?_ _ | refine bD ?_ | refine bA ?_ _)); exact BK174.out) NB174_0.out (by simp)); have n3_ := aM (KeepBut.trans (by repeat (first | (with_reducible first | exact HK.out | apply KeepBut.set_ | apply keep_drewN | apply keep_drew | apply keep_alloc | refine keep_far ?_ GW167.out _ | refine keep_far ?_ GW174.out _) | exact HK.out)) hk (.inl rfl)); have n4_ := aM (hb); have n5_ := aM (hi); clear HO_175000; clear BK167; clear BK174; clear HK; clear HB; clear HI0; have HO_175000 := n0_; have BK167 := n1_; have BK174 := n2_; have HK := n3_; have HB := n4_; have HI0 := n5_; clear n0_ n1_ n2_ n3_ n4_ n5_; (try clear hb); (try clear hb2); (try clear hk); (try clear hi); have hnb26 := NB174_167.out; have hnc26 := NB167_174.out; have hnb27 := NB174_0.out; have hnc27 := NB0_174.out; have hcz28_0 : w25.cell? ⟨gb174, 0, none⟩ = some (u175000) := (bC BK174.out 0).trans rfl; have hcz28_1 : w25.cell? ⟨gb174, 1, none⟩ = some (.int .i64 0) := (bC BK174.out 1).trans rfl; have hfz28_0 := bF BK174.out 0; have hfz28_1 := bF BK174.out 1) | ((with_reducible refine gate_callee (f := 85) rfl ?_); refine goesL_ (some 39) rfl rfl Try.func85 (by kernel_rfl) rfl #[.pointer (some ⟨g, 0, none⟩), .int .i64 60] rfl (by (try simp only [List.map_toArray, List.map_cons, List.map_nil]); first | done | rfl | (simp only [List.length_drop, List.length_take]; rfl)) ?_; (with_reducible refine (spec_l1Cur_pick.calls g s0_0 t182 t183 60 t184 t185 t186 w0 _ ?side1 ?side2 A22.out).mono ?_); (case side1 => repeat (first | (with_reducible first | exact HI0.out | apply IsS78.alloc | apply IsS78.drewN | apply IsS78.drew | apply IsS78.set_1 | apply IsS78.set_2 | refine IsS78.far ?_ NB0_167.out _ | refine IsS78.far ?_ NB0_174.out _) | exact HI0.out)); (case side2 => repeat (first | (with_reducible first | exact HB.out | apply eA | apply eN | apply eD | refine eS ?_ (IsS78.ge HI0.out) | refine eS ?_ GE167.out | refine eS ?_ GE174.out) | exact HB.out)); rintro e w29 ⟨rfl, hi, hb, hk⟩; refine ⟨_, rfl, ?_⟩; have n0_ := aM (rM (Kd.R_keep (IsS78.apart (show IsS78 w0 _ g s0_0 t182 t183 from by first | ((repeat (first | (with_reducible first | exact HI0.out | apply IsS78.alloc | apply IsS78.drewN | apply IsS78.drew | apply IsS78.set_1 | apply IsS78.set_2 | refine IsS78.far ?_ NB0_167.out _ | refine IsS78.far ?_ NB0_174.out _) | exact HI0.out)); done) | (simp only [Int.add_zero]; (repeat (first | (with_reducible first | exact HI0.out | apply IsS78.alloc | apply IsS78.drewN | apply IsS78.drew | apply IsS78.set_1 | apply IsS78.set_2 | refine IsS78.far ?_ NB0_167.out _ | refine IsS78.far ?_ NB0_174.out _) | exact HI0.out)))) (by (with_reducible repeat (first | apply rA | apply rN | apply rD)); exact (rM (Kd.R_far (p := ⟨gb174, 1, none⟩) (Kd.R_types HO_175000.out BK174.out (by decide)) (fun _ hk => hk.2) (.int .i64 (wrap64 ((wrap64 (t181 - t171)) - 1)))) (fun _ h_ => h_.1))) (by decide)) hk (fun _ h => h.2)) (fun _ h => h.1)); have n1_ := aM (KeepBut.blk hk (g' := gb167) (o := .cells #[.slice none 0 0, .int .i64 0] 28 (0, 0)) (by (with_reducible repeat (first | refine bN ?_ _ | refine bD ?_ | refine bA ?_ _)); refine blk_far ?_ NB167_174.out _; (with_reducible repeat (first | refine bN ?_ _ | refine bD ?_ | refine bA ?_ _)); exact BK167.out) NB167_0.out (by simp)); have n2_ := aM (KeepBut.blk hk (g' := gb174) (o := .cells #[u175000, .int .i64 (wrap64 ((wrap64 (t181 - t171)) - 1))] 28 (0, 0)) (by (with_reducible repeat (first | refine bN ?_ _ | refine bD ?_ | refine bA ?_ _)); refine blk_put (cs := #[u175000, .int .i64 0]) ?_ 1 _ rfl; (with_reducible repeat (first | refine bN ?_ _ | refine bD ?_ | refine bA ?_ _)); exact BK174.out) NB174_0.out (by simp)); have n3_ := aM (KeepBut.trans (by repeat (first | (with_reducible first | exact HK.out | apply KeepBut.set_ | apply keep_drewN | apply keep_drew | apply keep_alloc | refine keep_far ?_ GW167.out _ | refine keep_far ?_ GW174.out _) | exact HK.out)) hk (.inl rfl)); have n4_ := aM (hb); have n5_ := aM (hi); clear HO_175000; clear BK167; clear BK174; clear HK; clear HB; clear HI0; have HO_175000 := n0_; have BK167 := n1_; have BK174 := n2_; have HK := n3_; have HB := n4_; have HI0 := n5_; clear n0_ n1_ n2_ n3_ n4_ n5_; (try clear hb); (try clear hb2); (try clear hk); (try clear hi)) | ((with_reducible refine gate_dst (N := 43) rfl ?_); refine Kd.R_lit (Kd.int .i64) _ 3 ?hg (N := 43) ?hd (xs := ([99, (-99), 100, (-100), 4611686018427387904] : List Int)) (inner := [.int .i64 99, .int .i64 (-99), .int .i64 100, .int .i64 (-100), .int .i64 4611686018427387904]) (ok := fun _ => True) (okp := fun _ => True) ?hr ?hp (fun _ hk => hk) trivial (Below.refl _ _) (Nat.le_refl _) (by simp) ?_; (case hd => rfl); (case hg => rfl); (case hr => first | (go_simp; done) | (go_simp; rfl)); (case hp => exact (Reps.one (show Kd.M (Kd.int .i64) _ _ _ 99 [.int .i64 99] from rfl) (Reps.one (show Kd.M (Kd.int .i64) _ _ _ (-99) [.int .i64 (-99)] from rfl) (Reps.one (show Kd.M (Kd.int .i64) _ _ _ 100 [.int .i64 100] from rfl) (Reps.one (show Kd.M (Kd.int .i64) _ _ _ (-100) [.int .i64 (-100)] from rfl) (Reps.one (show Kd.M (Kd.int .i64) _ _ _ 4611686018427387904 [.int .i64 4611686018427387904] from rfl) (Reps.none _ _))))))); intro v188 w30 ho31 hb hg_ hnew_; clear hg_ hnew_; (first | rw [← Ny187.out] at ho31 | (simp only [Int.reduceToNat] at ho31; rw [← Ny187.out] at ho31)); have n0_ := aM (Kd.R_elder' (by (with_reducible repeat (first | apply rA | apply rN | apply rD)); exact HO_175000.out) (Kd.R_base ho31) hb); have n1_ := aM (Kd.R_lower (Kd.R_new' ho31 (Kd.R_lt (by (with_reducible repeat (first | apply rA | apply rN | apply rD)); exact HO_175000.out))) (keep_size (w := w) (g := g) (row := none) (by repeat (first | (with_reducible first | exact HK.out | apply KeepBut.set_ | apply keep_drewN | apply keep_drew | apply keep_alloc | refine keep_far ?_ GW167.out _ | refine keep_far ?_ GW174.out _) | exact HK.out)))); have n2_ := aM (bB (g := gb167) (o := .cells #[.slice none 0 0, .int .i64 0] 28 (0, 0)) (by (with_reducible repeat (first | refine bN ?_ _ | refine bD ?_ | refine bA ?_ _)); exact BK167.out) hb); have n3_ := aM (bB (g := gb174) (o := .cells #[u175000, .int .i64 (wrap64 ((wrap64 (t181 - t171)) - 1))] 28 (0, 0)) (by (with_reducible repeat (first | refine bN ?_ _ | refine bD ?_ | refine bA ?_ _)); exact BK174.out) hb); have n4_ := aM (IsS78.below (by first | ((repeat (first | (with_reducible first | exact HI0.out | apply IsS78.alloc | apply IsS78.drewN | apply IsS78.drew | apply IsS78.set_1 | apply IsS78.set_2 | refine IsS78.far ?_ NB0_167.out _ | refine IsS78.far ?_ NB0_174.out _) | exact HI0.out)); done) | (simp only [Int.add_zero]; (repeat (first | (with_reducible first | exact HI0.out | apply IsS78.alloc | apply IsS78.drewN | apply IsS78.drew | apply IsS78.set_1 | apply IsS78.set_2 | refine IsS78.far ?_ NB0_167.out _ | refine IsS78.far ?_ NB0_174.out _) | exact HI0.out)))) hb); have n5_ := aM (KeepBut.trans (by repeat (first | (with_reducible first | exact HK.out | apply KeepBut.set_ | apply keep_drewN | apply keep_drew | apply keep_alloc | refine keep_far ?_ GW167.out _ | refine keep_far ?_ GW174.out _) | exact HK.out)) (KeepBut.of_below hb g none) (.inl rfl)); have n6_ := aM (below_step (by repeat (first | (with_reducible first | exact HB.out | apply eA | apply eN | apply eD | refine eS ?_ (IsS78.ge HI0.out) | refine eS ?_ GE167.out | refine eS ?_ GE174.out) | exact HB.out)) hb); clear HO_175000; clear BK167; clear BK174; clear HI0; clear HK; clear HB; have HO_175000 := n0_; have HO189 := n1_; have BK167 := n2_; have BK174 := n3_; have HI0 := n4_; have HK := n5_; have HB := n6_; clear n0_ n1_ n2_ n3_ n4_ n5_ n6_; clear hb ho31; obtain ⟨Ao32, co32, eo32⟩ := Kd.R_slice HO189.out; subst eo32) | ((with_reducible refine gate_callee (f := 87) rfl ?_); refine goesL_ (some 44) rfl rfl Try.func87 (by kernel_rfl) rfl #[.pointer (some ⟨g, 0, none⟩), .slice Ao32 y187.length co32] rfl (by (try simp only [List.map_toArray, List.map_cons, List.map_nil]); first | done | rfl | (simp only [List.length_drop, List.length_take]; rfl)) ?_; (with_reducible refine (spec_l1Cur_among.calls g s0_0 t185 t186 _ _ y187 t190 t191 t192 w0 _ ?side1 ?side2 ?side3 ?side4 ?side5 A24.out).mono ?_); (case side1 => repeat (first | (with_reducible first | exact HI0.out | apply IsS78.alloc | apply IsS78.drewN | apply IsS78.drew | apply IsS78.set_1 | apply IsS78.set_2 | refine IsS78.far ?_ NB0_167.out _ | refine IsS78.far ?_ NB0_174.out _) | exact HI0.out)); (case side2 => repeat (first | (with_reducible first | exact HB.out | apply eA | apply eN | apply eD | refine eS ?_ (IsS78.ge HI0.out) | refine eS ?_ GE167.out | refine eS ?_ GE174.out) | exact HB.out)); (case side3 => repeat (first | exact (Kd.R_reads' HO189.out).2.2 | (with_reducible refine Kd.C_alloc ?_ _) | (with_reducible refine Kd.C_drewN ?_ _) | (with_reducible refine Kd.C_drew ?_))); (case side4 => exact (Kd.R_reads' HO189.out).2.1); (case side5 => exact far_slice (IsS78.own_ne HI0.out HO189.out (by decide))); rintro e w33 ⟨rfl, hi, hb, hk⟩; refine ⟨_, rfl, ?_⟩; have n0_ := aM (rM (Kd.R_keep (IsS78.apart (show IsS78 w0 _ g s0_0 t185 t186 from by first | ((repeat (first | (with_reducible first | exact HI0.out | apply IsS78.alloc | apply IsS78.drewN | apply IsS78.drew | apply IsS78.set_1 | apply IsS78.set_2 | refine IsS78.far ?_ NB0_167.out _ | refine IsS78.far ?_ NB0_174.out _) | exact HI0.out)); done) | (simp only [Int.add_zero]; (repeat (first | (with_reducible first | exact HI0.out | apply IsS78.alloc | apply IsS78.drewN | apply IsS78.drew | apply IsS78.set_1 | apply IsS78.set_2 | refine IsS78.far ?_ NB0_167.out _ | refine IsS78.far ?_ NB0_174.out _) | exact HI0.out)))) (by (with_reducible repeat (first | apply rA | apply rN | apply rD)); exact HO_175000.out) (by decide)) hk (fun _ h => h.2)) (fun _ h => h.1)); have n1_ := aM (KeepBut.blk hk (g' := gb167) (o := .cells #[.slice none 0 0, .int .i64 0] 28 (0, 0)) (by (with_reducible repeat (first | refine bN ?_ _ | refine bD ?_ | refine bA ?_ _)); exact BK167.out) NB167_0.out (by simp)); have n2_ := aM (KeepBut.blk hk (g' := gb174) (o := .cells #[u175000, .int .i64 (wrap64 ((wrap64 (t181 - t171)) - 1))] 28 (0, 0)) (by (with_reducible repeat (first | refine bN ?_ _ | refine bD ?_ | refine bA ?_ _)); exact BK174.out) NB174_0.out (by simp)); have n3_ := aM (rM (Kd.R_keep (IsS78.apart (show IsS78 w0 _ g s0_0 t185 t186 from by first | ((repeat (first | (with_reducible first | exact HI0.out | apply IsS78.alloc | apply IsS78.drewN | apply IsS78.drew | apply IsS78.set_1 | apply IsS78.set_2 | refine IsS78.far ?_ NB0_167.out _ | refine IsS78.far ?_ NB0_174.out _) | exact HI0.out)); done) | (simp only [Int.add_zero]; (repeat (first | (with_reducible first | exact HI0.out | apply IsS78.alloc | apply IsS78.drewN | apply IsS78.drew | apply IsS78.set_1 | apply IsS78.set_2 | refine IsS78.far ?_ NB0_167.out _ | refine IsS78.far ?_ NB0_174.out _) | exact HI0.out)))) (by (with_reducible repeat (first | apply rA | apply rN | apply rD)); exact HO189.out) (by decide)) hk (fun _ h => h.2)) (fun _ h => h.1)); have n4_ := aM (KeepBut.trans (by repeat (first | (with_reducible first | exact HK.out | apply KeepBut.set_ | apply keep_drewN | apply keep_drew | apply keep_alloc | refine keep_far ?_ GW167.out _ | refine keep_far ?_ GW174.out _) | exact HK.out)) hk (.inl rfl)); have n5_ := aM (hb); have n6_ := aM (hi); clear HO_175000; clear BK167; clear BK174; clear HO189; clear HK; clear HB; clear HI0; have HO_175000 := n0_; have BK167 := n1_; have BK174 := n2_; have HO189 := n3_; have HK := n4_; have HB := n5_; have HI0 := n6_; clear n0_ n1_ n2_ n3_ n4_ n5_ n6_; (try clear hb); (try clear hb2); (try clear hk); (try clear hi); have hcz34_0 : w33.cell? ⟨gb174, 0, none⟩ = some (u175000) := (bC BK174.out 0).trans rfl; have hcz34_1 : w33.cell? ⟨gb174, 1, none⟩ = some (.int .i64 (wrap64 ((wrap64 (t181 - t171)) - 1))) := (bC BK174.out 1).trans rfl; have hfz34_0 := bF BK174.out 0; have hfz34_1 := bF BK174.out 1; obtain ⟨Ao35, co35, eo35⟩ := Kd.R_slice HO_175000.out; subst eo35; have hnb36 := NB167_0.out; have hnc36 := NB0_167.out; have hcz37_0 : w33.cell? ⟨gb167, 0, none⟩ = some (.slice none 0 0) := (bC BK167.out 0).trans rfl; have hcz37_1 : w33.cell? ⟨gb167, 1, none⟩ = some (.int .i64 0) := (bC BK167.out 1).trans rfl; have hfz37_0 := bF BK167.out 0; have hfz37_1 := bF BK167.out 1))
     refine bodyPost_ret (results_cell_row rfl _ _ gb167 28 #[.slice Ao35 x175000_1.length co35, .int .i64 t190] (0, 0) _ rfl (by (with_reducible repeat (first | refine bN ?_ _ | refine bD ?_ | refine bA ?_ _)); refine blk_put (cs := #[.slice Ao35 x175000_1.length co35, .int .i64 0]) ?_ 1 _ rfl; (with_reducible repeat (first | refine bN ?_ _ | refine bD ?_ | refine bA ?_ _)); refine blk_put (cs := #[.slice none 0 0, .int .i64 0]) ?_ 0 _ rfl; (with_reducible repeat (first | refine bN ?_ _ | refine bD ?_ | refine bA ?_ _)); refine blk_far ?_ NB167_174.out _; (with_reducible repeat (first | refine bN ?_ _ | refine bD ?_ | refine bA ?_ _)); exact BK167.out) Try.underlying28 rfl (by kernel_rfl)) rfl ?_
     exact ⟨_, by first | rfl | (simp [errW_none, errW_some] <;> rfl) | (simp [*, errW_none, errW_some] <;> rfl), by (with_reducible repeat (first | apply rA | apply rN | apply rD)); exact rM (Kd.R_far (p := ⟨gb167, 1, none⟩) (Kd.R_far (p := ⟨gb167, 0, none⟩) (Kd.R_far (p := ⟨gb174, 1, none⟩) (Kd.R_types (Kd.R_types HO_175000.out BK174.out (by decide)) BK167.out (by decide)) (fun _ hk => hk.1.2) (.int .i64 t190)) (fun _ hk => hk.2) (.slice Ao35 x175000_1.length co35)) (fun _ hk => hk.2) (.int .i64 t190)) (fun _ hk => trivial), by first | ((repeat (first | (with_reducible first | exact HI0.out | apply IsS78.alloc | apply IsS78.drewN | apply IsS78.drew | apply IsS78.set_1 | apply IsS78.set_2 | refine IsS78.far ?_ NB0_167.out _ | refine IsS78.far ?_ NB0_174.out _) | exact HI0.out)); done) | (simp only [Int.add_zero]; (repeat (first | (with_reducible first | exact HI0.out | apply IsS78.alloc | apply IsS78.drewN | apply IsS78.drew | apply IsS78.set_1 | apply IsS78.set_2 | refine IsS78.far ?_ NB0_167.out _ | refine IsS78.far ?_ NB0_174.out _) | exact HI0.out))), by repeat (first | (with_reducible first | exact HB.out | apply eA | apply eN | apply eD | refine eS ?_ (IsS78.ge HI0.out) | refine eS ?_ GE167.out | refine eS ?_ GE174.out) | exact HB.out), by repeat (first | (with_reducible first | exact HK.out | apply KeepBut.set_ | apply keep_drewN | apply keep_drew | apply keep_alloc | refine keep_far ?_ GW167.out _ | refine keep_far ?_ GW174.out _) | exact HK.out)⟩
    ·
     rw [if_neg c23] at H
     have c23b0 : (t184 == 0) = false := beq_eq_false_iff_ne.mpr c23
     have c23b1 : (t184 != 0) = true := bne_iff_ne.mpr c23
     by_cases c38 : t184 = 1
     ·
      rw [if_pos c38] at H
      have c38b0 : (t184 == 1) = true := beq_iff_eq.mpr c38
      have c38b1 : (t184 != 1) = false := bne_eq_false_iff_eq.mpr c38
      clear c38
      by_cases c39 : a1 > 0
      ·
       rw [if_pos c39] at H
       have c39b0 : decide (0 < a1) = true := decide_eq_true c39
       clear c39
       replace H := oB.mp H
       obtain ⟨⟨t193, t194, t195⟩, A400, H⟩ := H
       replace H : ((spec_l1Cur_among.f s0_0 t194 t195 (([99, (-99), 100, (-100)] : List Int))).bind fun bt199 => (if 0 ≤ t193 then (if t193 < (x175000_1.length : Int) then (some ((x175000_1.set (t193 : Int).toNat bt199.1), wrap64 ((wrap64 (t181 - t171)) - 1), bt199.2.1, bt199.2.2)) else (none)) else (none))) = some (r1, r2, r3, r4) := H
       have A40 := aM A400
       clear A400
       obtain ⟨y196, hy196⟩ : ∃ y_ : List Int, y_ = (([99, (-99), 100, (-100)] : List Int)) := ⟨_, rfl⟩
       replace H : ((spec_l1Cur_among.f s0_0 t194 t195 y196).bind fun bt199 => (if 0 ≤ t193 then (if t193 < (x175000_1.length : Int) then (some ((x175000_1.set (t193 : Int).toNat bt199.1), wrap64 ((wrap64 (t181 - t171)) - 1), bt199.2.1, bt199.2.2)) else (none)) else (none))) = some (r1, r2, r3, r4) := by first | (rw [hy196]; with_reducible exact H) | (have H2_ := (Option.bind_some _ _).symm.trans H; rw [hy196]; with_reducible exact H2_) | (have H2_ := (Option.bind_some _ _).symm.trans H; with_reducible exact H2_) | with_reducible exact H | (rw [hy196]; exact H) | exact H
       have Ny196 := aM hy196
       clear hy196
       replace H := oB.mp H
       obtain ⟨⟨t199, t200, t201⟩, A410, H⟩ := H
       replace H : (if 0 ≤ t193 then (if t193 < (x175000_1.length : Int) then (some ((x175000_1.set (t193 : Int).toNat t199), wrap64 ((wrap64 (t181 - t171)) - 1), t200, t201)) else (none)) else (none)) = some (r1, r2, r3, r4) := H
       have A41 := aM A410
       clear A410
       by_cases c42 : 0 ≤ t193
       ·
        rw [if_pos c42] at H
        have c42b0 : decide (0 ≤ t193) = true := decide_eq_true c42
        clear c42
        by_cases c43 : t193 < (x175000_1.length : Int)
        ·
         rw [if_pos c43] at H
         have c43b0 : decide (t193 < (x175000_1.length : Int)) = true := decide_eq_true c43
         clear c43
         obtain ⟨y202, hy202⟩ : ∃ y_ : List Int, y_ = (x175000_1.set (t193 : Int).toNat t199) := ⟨_, rfl⟩
         replace H : (some (y202, wrap64 ((wrap64 (t181 - t171)) - 1), t200, t201)) = some (r1, r2, r3, r4) := by first | (rw [hy202]; with_reducible exact H) | (have H2_ := (Option.bind_some _ _).symm.trans H; rw [hy202]; with_reducible exact H2_) | (have H2_ := (Option.bind_some _ _).symm.trans H; with_reducible exact H2_) | with_reducible exact H | (rw [hy202]; exact H) | exact H
         have Ny202 := aM hy202
         clear hy202
         simp only [Option.some.injEq, Prod.mk.injEq] at H
         obtain ⟨rfl, rfl, rfl, rfl⟩ := H
         try go_wp2_with (first | ((with_reducible refine gate_callee (f := 85) rfl ?_); refine goesL_ (some 33) rfl rfl Try.func85 (by kernel_rfl) rfl #[.pointer (some ⟨g, 0, none⟩), .int .i64 (wrap64 ((wrap64 (2 * t171)) + 3))] rfl (by (try simp only [List.map_toArray, List.map_cons, List.map_nil]); first | done | rfl | (simp only [List.length_drop, List.length_take]; rfl)) ?_; (with_reducible refine (spec_l1Cur_pick.calls g s0_0 x1001_1 x1002_1 (wrap64 ((wrap64 (2 * t171)) + 3)) t181 t182 t183 w0 _ ?side1 ?side2 A21.out).mono ?_); (case side1 => repeat (first | (with_reducible first | exact HI0.out | apply IsS78.alloc | apply IsS78.drewN | apply IsS78.drew | apply IsS78.set_1 | apply IsS78.set_2 | refine IsS78.far ?_ NB0_167.out _ | refine IsS78.far ?_ NB0_174.out _) | exact HI0.out)); (case side2 => repeat (first | (with_reducible first | exact HB.out | apply eA | apply eN | apply eD | refine eS ?_ (IsS78.ge HI0.out) | refine eS ?_ GE167.out | refine eS ?_ GE174.out) | exact HB.out)); rintro e w45 ⟨rfl, hi, hb, hk⟩; refine ⟨_, rfl, ?_⟩; have n0_ := aM (rM (Kd.R_keep (IsS78.apart (show IsS78 w0 _ g s0_0 x1001_1 x1002_1 from by first | ((repeat (first | (with_reducible first | exact HI0.out | apply IsS78.alloc | apply IsS78.drewN | apply IsS78.drew | apply IsS78.set_1 | apply IsS78.set_2 | refine IsS78.far ?_ NB0_167.out _ | refine IsS78.far ?_ NB0_174.out _) | exact HI0.out)); done) | (simp only [Int.add_zero]; (repeat (first | (with_reducible first | exact HI0.out | apply IsS78.alloc | apply IsS78.drewN | apply IsS78.drew | apply IsS78.set_1 | apply IsS78.set_2 | refine IsS78.far ?_ NB0_167.out _ | refine IsS78.far ?_ NB0_174.out _) | exact HI0.out)))) (by (with_reducible repeat (first | apply rA | apply rN | apply rD)); exact HO_175000.out) (by decide)) hk (fun _ h => h.2)) (fun _ h => h.1)); have n1_ := aM (KeepBut.blk hk (g' := gb167) (o := .cells #[.slice none 0 0, .int .i64 0] 28 (0, 0)) (by (with_reducible repeat (first | refine bN ?_ _ | refine bD ?_ | refine bA ?_ _)); exact BK167.out) NB167_0.out (by simp)); have n2_ := aM (KeepBut.blk hk (g' := gb174) (o := .cells #[u175000, .int .i64 0] 28 (0, 0)) (by (with_reducible repeat (first | refine bN ?_ _ | refine bD ?_ | refine bA ?_ _)); exact BK174.out) NB174_0.out (by simp)); have n3_ := aM (KeepBut.trans (by repeat (first | (with_reducible first | exact HK.out | apply KeepBut.set_ | apply keep_drewN | apply keep_drew | apply keep_alloc | refine keep_far ?_ GW167.out _ | refine keep_far ?_ GW174.out _) | exact HK.out)) hk (.inl rfl)); have n4_ := aM (hb); have n5_ := aM (hi); clear HO_175000; clear BK167; clear BK174; clear HK; clear HB; clear HI0; have HO_175000 := n0_; have BK167 := n1_; have BK174 := n2_; have HK := n3_; have HB := n4_; have HI0 := n5_; clear n0_ n1_ n2_ n3_ n4_ n5_; (try clear hb); (try clear hb2); (try clear hk); (try clear hi); have hnb46 := NB174_167.out; have hnc46 := NB167_174.out; have hnb47 := NB174_0.out; have hnc47 := NB0_174.out; have hcz48_0 : w45.cell? ⟨gb174, 0, none⟩ = some (u175000) := (bC BK174.out 0).trans rfl; have hcz48_1 : w45.cell? ⟨gb174, 1, none⟩ = some (.int .i64 0) := (bC BK174.out 1).trans rfl; have hfz48_0 := bF BK174.out 0; have hfz48_1 := bF BK174.out 1) | ((with_reducible refine gate_callee (f := 85) rfl ?_); refine goesL_ (some 39) rfl rfl Try.func85 (by kernel_rfl) rfl #[.pointer (some ⟨g, 0, none⟩), .int .i64 60] rfl (by (try simp only [List.map_toArray, List.map_cons, List.map_nil]); first | done | rfl | (simp only [List.length_drop, List.length_take]; rfl)) ?_; (with_reducible refine (spec_l1Cur_pick.calls g s0_0 t182 t183 60 t184 t185 t186 w0 _ ?side1 ?side2 A22.out).mono ?_); (case side1 => repeat (first | (with_reducible first | exact HI0.out | apply IsS78.alloc | apply IsS78.drewN | apply IsS78.drew | apply IsS78.set_1 | apply IsS78.set_2 | refine IsS78.far ?_ NB0_167.out _ | refine IsS78.far ?_ NB0_174.out _) | exact HI0.out)); (case side2 => repeat (first | (with_reducible first | exact HB.out | apply eA | apply eN | apply eD | refine eS ?_ (IsS78.ge HI0.out) | refine eS ?_ GE167.out | refine eS ?_ GE174.out) | exact HB.out)); rintro e w49 ⟨rfl, hi, hb, hk⟩; refine ⟨_, rfl, ?_⟩; have n0_ := aM (rM (Kd.R_keep (IsS78.apart (show IsS78 w0 _ g s0_0 t182 t183 from by first | ((repeat (first | (with_reducible first | exact HI0.out | apply IsS78.alloc | apply IsS78.drewN | apply IsS78.drew | apply IsS78.set_1 | apply IsS78.set_2 | refine IsS78.far ?_ NB0_167.out _ | refine IsS78.far ?_ NB0_174.out _) | exact HI0.out)); done) | (simp only [Int.add_zero]; (repeat (first | (with_reducible first | exact HI0.out | apply IsS78.alloc | apply IsS78.drewN | apply IsS78.drew | apply IsS78.set_1 | apply IsS78.set_2 | refine IsS78.far ?_ NB0_167.out _ | refine IsS78.far ?_ NB0_174.out _) | exact HI0.out)))) (by (with_reducible repeat (first | apply rA | apply rN | apply rD)); exact (rM (Kd.R_far (p := ⟨gb174, 1, none⟩) (Kd.R_types HO_175000.out BK174.out (by decide)) (fun _ hk => hk.2) (.int .i64 (wrap64 ((wrap64 (t181 - t171)) - 1)))) (fun _ h_ => h_.1))) (by decide)) hk (fun _ h => h.2)) (fun _ h => h.1)); have n1_ := aM (KeepBut.blk hk (g' := gb167) (o := .cells #[.slice none 0 0, .int .i64 0] 28 (0, 0)) (by (with_reducible repeat (first | refine bN ?_ _ | refine bD ?_ | refine bA ?_ _)); refine blk_far ?_ NB167_174.out _; (with_reducible repeat (first | refine bN ?_ _ | refine bD ?_ | refine bA ?_ _)); exact BK167.out) NB167_0.out (by simp)); have n2_ := aM (KeepBut.blk hk (g' := gb174) (o := .cells #[u175000, .int .i64 (wrap64 ((wrap64 (t181 - t171)) - 1))] 28 (0, 0)) (by (with_reducible repeat (first | refine bN ?_ _ | refine bD ?_ | refine bA ?_ _)); refine blk_put (cs := #[u175000, .int .i64 0]) ?_ 1 _ rfl; (with_reducible repeat (first | refine bN ?_ _ | refine bD ?_ | refine bA ?_ _)); exact BK174.out) NB174_0.out (by simp)); have n3_ := aM (KeepBut.trans (by repeat (first | (with_reducible first | exact HK.out | apply KeepBut.set_ | apply keep_drewN | apply keep_drew | apply keep_alloc | refine keep_far ?_ GW167.out _ | refine keep_far ?_ GW174.out _) | exact HK.out)) hk (.inl rfl)); have n4_ := aM (hb); have n5_ := aM (hi); clear HO_175000; clear BK167; clear BK174; clear HK; clear HB; clear HI0; have HO_175000 := n0_; have BK167 := n1_; have BK174 := n2_; have HK := n3_; have HB := n4_; have HI0 := n5_; clear n0_ n1_ n2_ n3_ n4_ n5_; (try clear hb); (try clear hb2); (try clear hk); (try clear hi)))
         have n0_ := aM (rD HO_175000.out)
         have n1_ := aM (bD BK167.out)
         have n2_ := aM (bD BK174.out)
         have n3_ := aM (IsS78.drew HI0.out)
         have n4_ := aM (keep_drew HK.out)
         have n5_ := aM (eD HB.out)
         clear HO_175000 BK167 BK174 HI0 HK HB
         have HO_175000 := n0_
         have BK167 := n1_
         have BK174 := n2_
         have HI0 := n3_
         have HK := n4_
         have HB := n5_
         clear n0_ n1_ n2_ n3_ n4_ n5_
         refine start_ (n := 10) (S := fun w' => w'.cell? ⟨gb174, 0, none⟩ = some (u175000) ∧ w'.cell? ⟨gb174, 1, none⟩ = some (.int .i64 (wrap64 ((wrap64 (t181 - t171)) - 1)))) (ds := [9]) #[false, false, false, false, false, false, false, false, false, false] (by kernel_rfl) rfl rfl ⟨(bC BK174.out 0).trans rfl, (bC BK174.out 1).trans rfl⟩ (fun hHeld => ?_); refine with_tabW spec_l1Cur_plane.tab12 spec_l1Cur_plane.bits12 (fun HT_ HW_ => ?_)
         generalize w49.drew = w50 at HO_175000 BK167 BK174 HI0 HK HB hHeld ⊢
         refine pure_ (i := 0) (N := some 50) (v := ?_) (a' := ?_) #[true, false, false, false, false, false, false, false, false, false] rfl rfl (any_of HT_.out (by kernel_rfl)) (fun _ _ _ h => h) (Or.inl ⟨by rfl, ?_⟩) ?_ ?_
         rotate_left
         ·
          intro w'
          go_simp
          with_reducible rfl
         rotate_left
         ·
          simp only [Act.put, sA, sZ, sU, i64_w, i32_w]
          rfl
         refine pure_ (i := 2) (N := some 52) (v := ?_) (a' := ?_) #[true, false, true, false, false, false, false, false, false, false] rfl rfl (any_of HT_.out (by kernel_rfl)) (fun _ _ _ h => h) (Or.inl ⟨by rfl, ?_⟩) ?_ ?_
         rotate_left
         ·
          intro w'
          go_simp
          with_reducible rfl
         rotate_left
         ·
          simp only [Act.put, sA, sZ, sU, i64_w, i32_w]
          rfl
         refine pure_ (i := 3) (N := some 53) (v := ?_) (a' := ?_) #[true, false, true, true, false, false, false, false, false, false] rfl rfl (any_of HT_.out (by kernel_rfl)) (fun _ _ _ h => h) (Or.inl ⟨by rfl, ?_⟩) ?_ ?_
         rotate_left
         ·
          intro w'
          go_simp
          with_reducible rfl
         rotate_left
         ·
          simp only [Act.put, sA, sZ, sU, i64_w, i32_w]
          rfl
         refine pure_ (i := 5) (N := some 55) (v := ?_) (a' := ?_) #[true, false, true, true, false, true, false, false, false, false] rfl rfl (any_of HT_.out (by kernel_rfl)) (fun _ _ _ h => h) (Or.inl ⟨by rfl, ?_⟩) ?_ ?_
         rotate_left
         ·
          intro w'
          go_simp
          with_reducible rfl
         rotate_left
         ·
          simp only [Act.put, sA, sZ, sU, i64_w, i32_w]
          rfl
         refine take_ (i := 1) (N := some 51) (v := ?_) (a' := ?_) #[true, true, true, true, false, true, false, false, false, false] rfl rfl (take_ofW HT_.out HW_.out (by kernel_rfl)) (fun _ _ _ h => h) (Or.inl ⟨by rfl, ?_⟩) hHeld ?_ ?_
         rotate_left
         ·
          rintro w' ⟨s0, s1⟩
          first | (go_simp; with_reducible rfl) | (simp only [add_plain] at s0 s1; go_simp; with_reducible rfl)
         rotate_left
         ·
          simp only [Act.put, sA, sZ, sU, i64_w, i32_w]
          rfl
         refine join_ (σ := Value) 3 #[true, true, true, true, true, true, true, false, false, false] (fun s_ => [(54, .int .i64 t193), (56, s_)]) (fun s_ w' => (w'.cell? ⟨gb174, 0, none⟩ = some (u175000) ∧ w'.cell? ⟨gb174, 1, none⟩ = some (.int .i64 (wrap64 ((wrap64 (t181 - t171)) - 1)))) ∧ (Kd.R (Kd.int .i64) 3 w' w.heap.size (fun k_ => some k_ ≠ (u175000 : Value).ownBlock) s_ y196) ∧ (Kd.R (Kd.int .i64) 3 w' w.heap.size (fun k_ => some k_ ≠ (s_ : Value).ownBlock) u175000 x175000_1) ∧ (w'.heap[gb167]? = some (.cells #[.slice none 0 0, .int .i64 0] 28 (0, 0))) ∧ (w'.heap[gb174]? = some (.cells #[u175000, .int .i64 (wrap64 ((wrap64 (t181 - t171)) - 1))] 28 (0, 0))) ∧ (IsS78 w0 w' g s0_0 t194 t195) ∧ (KeepBut w w' g none) ∧ (Below w0.heap.size w0 w')) ?_ ?_
         rotate_left
         ·
          intro hCont
          refine two_ (i := 4) (j := 6) (Ni := some 54) (Nj := some 56) #[true, true, true, true, true, true, false, false, false, false] #[true, true, true, true, false, true, true, false, false, false] rfl rfl rfl rfl (two_of HT_.out (by kernel_rfl)) (by decide) (by decide) (fun K hK => ?_) (fun K hK => ?_)
          ·
           skip
           refine goes_ Try.func85 (by kernel_rfl) rfl #[.pointer (some ⟨g, 0, none⟩), .int .i64 a1] (by rfl) rfl rfl (by (try simp only [List.map_toArray, List.map_cons, List.map_nil]); first | done | rfl | (simp only [List.length_drop, List.length_take]; rfl)) ?_
           with_reducible refine (spec_l1Cur_pick.calls g s0_0 t185 t186 a1 t193 t194 t195 w0 _ ?side1 ?side2 A40.out).mono ?_
           (case side1 => repeat (first | (with_reducible first | exact HI0.out | apply IsS78.alloc | apply IsS78.drewN | apply IsS78.drew | apply IsS78.set_1 | apply IsS78.set_2 | refine IsS78.far ?_ NB0_167.out _ | refine IsS78.far ?_ NB0_174.out _) | exact HI0.out))
           (case side2 => repeat (first | (with_reducible first | exact HB.out | apply eA | apply eN | apply eD | refine eS ?_ (IsS78.ge HI0.out) | refine eS ?_ GE167.out | refine eS ?_ GE174.out) | exact HB.out))
           rintro e w51 ⟨rfl, hi, hb, hk⟩
           refine ⟨_, rfl, ?_⟩
           have n0_ := aM (rM (Kd.R_keep (IsS78.apart (show IsS78 w0 _ g s0_0 t185 t186 from by first | ((repeat (first | (with_reducible first | exact HI0.out | apply IsS78.alloc | apply IsS78.drewN | apply IsS78.drew | apply IsS78.set_1 | apply IsS78.set_2 | refine IsS78.far ?_ NB0_167.out _ | refine IsS78.far ?_ NB0_174.out _) | exact HI0.out)); done) | (simp only [Int.add_zero]; (repeat (first | (with_reducible first | exact HI0.out | apply IsS78.alloc | apply IsS78.drewN | apply IsS78.drew | apply IsS78.set_1 | apply IsS78.set_2 | refine IsS78.far ?_ NB0_167.out _ | refine IsS78.far ?_ NB0_174.out _) | exact HI0.out)))) (by (with_reducible repeat (first | apply rA | apply rN | apply rD)); exact HO_175000.out) (by decide)) hk (fun _ h => h.2)) (fun _ h => h.1))
           have n1_ := aM (KeepBut.blk hk (g' := gb167) (o := .cells #[.slice none 0 0, .int .i64 0] 28 (0, 0)) (by (with_reducible repeat (first | refine bN ?_ _ | refine bD ?_ | refine bA ?_ _)); exact BK167.out) NB167_0.out (by simp))
           have n2_ := aM (KeepBut.blk hk (g' := gb174) (o := .cells #[u175000, .int .i64 (wrap64 ((wrap64 (t181 - t171)) - 1))] 28 (0, 0)) (by (with_reducible repeat (first | refine bN ?_ _ | refine bD ?_ | refine bA ?_ _)); exact BK174.out) NB174_0.out (by simp))
           have n3_ := aM (KeepBut.trans (by repeat (first | (with_reducible first | exact HK.out | apply KeepBut.set_ | apply keep_drewN | apply keep_drew | apply keep_alloc | refine keep_far ?_ GW167.out _ | refine keep_far ?_ GW174.out _) | exact HK.out)) hk (.inl rfl))
           have n4_ := aM (hb)
           have n5_ := aM (hi)
           clear HO_175000 BK167 BK174 HK HB HI0
           have HO_175000 := n0_
           have BK167 := n1_
           have BK174 := n2_
           have HK := n3_
           have HB := n4_
           have HI0 := n5_
           clear n0_ n1_ n2_ n3_ n4_ n5_
           (try clear hb)
           (try clear hb2)
           (try clear hk)
           (try clear hi)
           refine hK.out _ _ ⟨(bC BK174.out 0).trans rfl, (bC BK174.out 1).trans rfl⟩ (fun hHeld => ?_)
           clear hK K
           refine norm_ (a' := ?_) ?_ ?_
           rotate_left
           ·
            show Act.put _ (some 54) _ = _
            simp only [Act.put, sA, sZ, sU, i64_w, i32_w]
            rfl
           refine one_ (i := 6) (N := some 56) #[true, true, true, true, true, true, true, false, false, false] rfl rfl (one_of HT_.out (by kernel_rfl)) (by decide) (fun K hK => ?_)
           refine Kd.R_lit_step (Kd.int .i64) _ 3 ?hg (N := 56) ?hd (xs := ([99, (-99), 100, (-100)] : List Int)) (inner := [.int .i64 99, .int .i64 (-99), .int .i64 100, .int .i64 (-100)]) (ok := fun _ => True) (okp := fun _ => True) ?hr ?hp (fun _ hk => hk) trivial (Below.refl _ _) (Nat.le_refl _) (by simp) ?_; (case hd => rfl); (case hg => rfl); (case hr => first | (go_simp; done) | (go_simp; rfl)); (case hp => exact (Reps.one (show Kd.M (Kd.int .i64) _ _ _ 99 [.int .i64 99] from rfl) (Reps.one (show Kd.M (Kd.int .i64) _ _ _ (-99) [.int .i64 (-99)] from rfl) (Reps.one (show Kd.M (Kd.int .i64) _ _ _ 100 [.int .i64 100] from rfl) (Reps.one (show Kd.M (Kd.int .i64) _ _ _ (-100) [.int .i64 (-100)] from rfl) (Reps.none _ _))))))
           intro v197 w52 ho53 hb hg_ hnew_
           clear hg_ hnew_
           (first | rw [← Ny196.out] at ho53 | (simp only [Int.reduceToNat] at ho53; rw [← Ny196.out] at ho53))
           have n0_ := aM (Kd.R_elder' (by (with_reducible repeat (first | apply rA | apply rN | apply rD)); exact HO_175000.out) (Kd.R_base ho53) hb)
           have n1_ := aM (Kd.R_lower (Kd.R_new' ho53 (Kd.R_lt (by (with_reducible repeat (first | apply rA | apply rN | apply rD)); exact HO_175000.out))) (keep_size (w := w) (g := g) (row := none) (by repeat (first | (with_reducible first | exact HK.out | apply KeepBut.set_ | apply keep_drewN | apply keep_drew | apply keep_alloc | refine keep_far ?_ GW167.out _ | refine keep_far ?_ GW174.out _) | exact HK.out))))
           have n2_ := aM (bB (g := gb167) (o := .cells #[.slice none 0 0, .int .i64 0] 28 (0, 0)) (by (with_reducible repeat (first | refine bN ?_ _ | refine bD ?_ | refine bA ?_ _)); exact BK167.out) hb)
           have n3_ := aM (bB (g := gb174) (o := .cells #[u175000, .int .i64 (wrap64 ((wrap64 (t181 - t171)) - 1))] 28 (0, 0)) (by (with_reducible repeat (first | refine bN ?_ _ | refine bD ?_ | refine bA ?_ _)); exact BK174.out) hb)
           have n4_ := aM (IsS78.below (by first | ((repeat (first | (with_reducible first | exact HI0.out | apply IsS78.alloc | apply IsS78.drewN | apply IsS78.drew | apply IsS78.set_1 | apply IsS78.set_2 | refine IsS78.far ?_ NB0_167.out _ | refine IsS78.far ?_ NB0_174.out _) | exact HI0.out)); done) | (simp only [Int.add_zero]; (repeat (first | (with_reducible first | exact HI0.out | apply IsS78.alloc | apply IsS78.drewN | apply IsS78.drew | apply IsS78.set_1 | apply IsS78.set_2 | refine IsS78.far ?_ NB0_167.out _ | refine IsS78.far ?_ NB0_174.out _) | exact HI0.out)))) hb)
           have n5_ := aM (KeepBut.trans (by repeat (first | (with_reducible first | exact HK.out | apply KeepBut.set_ | apply keep_drewN | apply keep_drew | apply keep_alloc | refine keep_far ?_ GW167.out _ | refine keep_far ?_ GW174.out _) | exact HK.out)) (KeepBut.of_below hb g none) (.inl rfl))
           have n6_ := aM (below_step (by repeat (first | (with_reducible first | exact HB.out | apply eA | apply eN | apply eD | refine eS ?_ (IsS78.ge HI0.out) | refine eS ?_ GE167.out | refine eS ?_ GE174.out) | exact HB.out)) hb)
           clear HO_175000 BK167 BK174 HI0 HK HB
           have HO_175000 := n0_
           have HO198 := n1_
           have BK167 := n2_
           have BK174 := n3_
           have HI0 := n4_
           have HK := n5_
           have HB := n6_
           clear n0_ n1_ n2_ n3_ n4_ n5_ n6_ hb ho53
           refine hK.out _ _ ⟨(bC BK174.out 0).trans rfl, (bC BK174.out 1).trans rfl⟩ (fun hHeld => ?_)
           clear hK K
           refine norm_ (a' := ?_) ?_ ?_
           rotate_left
           ·
            show Act.put _ (some 56) _ = _
            simp only [Act.put, sA, sZ, sU, i64_w, i32_w]
            rfl
           exact norm_ (by simp only [putAll, Act.put, sA, sZ, sU]) (hCont (v197) _ ⟨hHeld, (by (with_reducible repeat (first | apply rA | apply rN | apply rD)); exact rM HO198.out (fun _ hk => by first | exact hk.2 | exact trivial)), (by (with_reducible repeat (first | apply rA | apply rN | apply rD)); exact rM HO_175000.out (fun _ hk => hk.2)), (by (with_reducible repeat (first | refine bN ?_ _ | refine bD ?_ | refine bA ?_ _)); exact BK167.out), (by (with_reducible repeat (first | refine bN ?_ _ | refine bD ?_ | refine bA ?_ _)); exact BK174.out), (by first | ((repeat (first | (with_reducible first | exact HI0.out | apply IsS78.alloc | apply IsS78.drewN | apply IsS78.drew | apply IsS78.set_1 | apply IsS78.set_2 | refine IsS78.far ?_ NB0_167.out _ | refine IsS78.far ?_ NB0_174.out _) | exact HI0.out)); done) | (simp only [Int.add_zero]; (repeat (first | (with_reducible first | exact HI0.out | apply IsS78.alloc | apply IsS78.drewN | apply IsS78.drew | apply IsS78.set_1 | apply IsS78.set_2 | refine IsS78.far ?_ NB0_167.out _ | refine IsS78.far ?_ NB0_174.out _) | exact HI0.out)))), (by repeat (first | (with_reducible first | exact HK.out | apply KeepBut.set_ | apply keep_drewN | apply keep_drew | apply keep_alloc | refine keep_far ?_ GW167.out _ | refine keep_far ?_ GW174.out _) | exact HK.out)), (by repeat (first | (with_reducible first | exact HB.out | apply eA | apply eN | apply eD | refine eS ?_ (IsS78.ge HI0.out) | refine eS ?_ GE167.out | refine eS ?_ GE174.out) | exact HB.out))⟩)
          ·
           skip
           refine Kd.R_lit_step (Kd.int .i64) _ 3 ?hg (N := 56) ?hd (xs := ([99, (-99), 100, (-100)] : List Int)) (inner := [.int .i64 99, .int .i64 (-99), .int .i64 100, .int .i64 (-100)]) (ok := fun _ => True) (okp := fun _ => True) ?hr ?hp (fun _ hk => hk) trivial (Below.refl _ _) (Nat.le_refl _) (by simp) ?_; (case hd => rfl); (case hg => rfl); (case hr => first | (go_simp; done) | (go_simp; rfl)); (case hp => exact (Reps.one (show Kd.M (Kd.int .i64) _ _ _ 99 [.int .i64 99] from rfl) (Reps.one (show Kd.M (Kd.int .i64) _ _ _ (-99) [.int .i64 (-99)] from rfl) (Reps.one (show Kd.M (Kd.int .i64) _ _ _ 100 [.int .i64 100] from rfl) (Reps.one (show Kd.M (Kd.int .i64) _ _ _ (-100) [.int .i64 (-100)] from rfl) (Reps.none _ _))))))
           intro v197 w51 ho52 hb hg_ hnew_
           clear hg_ hnew_
           (first | rw [← Ny196.out] at ho52 | (simp only [Int.reduceToNat] at ho52; rw [← Ny196.out] at ho52))
           have n0_ := aM (Kd.R_elder' (by (with_reducible repeat (first | apply rA | apply rN | apply rD)); exact HO_175000.out) (Kd.R_base ho52) hb)
           have n1_ := aM (Kd.R_lower (Kd.R_new' ho52 (Kd.R_lt (by (with_reducible repeat (first | apply rA | apply rN | apply rD)); exact HO_175000.out))) (keep_size (w := w) (g := g) (row := none) (by repeat (first | (with_reducible first | exact HK.out | apply KeepBut.set_ | apply keep_drewN | apply keep_drew | apply keep_alloc | refine keep_far ?_ GW167.out _ | refine keep_far ?_ GW174.out _) | exact HK.out))))
           have n2_ := aM (bB (g := gb167) (o := .cells #[.slice none 0 0, .int .i64 0] 28 (0, 0)) (by (with_reducible repeat (first | refine bN ?_ _ | refine bD ?_ | refine bA ?_ _)); exact BK167.out) hb)
           have n3_ := aM (bB (g := gb174) (o := .cells #[u175000, .int .i64 (wrap64 ((wrap64 (t181 - t171)) - 1))] 28 (0, 0)) (by (with_reducible repeat (first | refine bN ?_ _ | refine bD ?_ | refine bA ?_ _)); exact BK174.out) hb)
           have n4_ := aM (IsS78.below (by first | ((repeat (first | (with_reducible first | exact HI0.out | apply IsS78.alloc | apply IsS78.drewN | apply IsS78.drew | apply IsS78.set_1 | apply IsS78.set_2 | refine IsS78.far ?_ NB0_167.out _ | refine IsS78.far ?_ NB0_174.out _) | exact HI0.out)); done) | (simp only [Int.add_zero]; (repeat (first | (with_reducible first | exact HI0.out | apply IsS78.alloc | apply IsS78.drewN | apply IsS78.drew | apply IsS78.set_1 | apply IsS78.set_2 | refine IsS78.far ?_ NB0_167.out _ | refine IsS78.far ?_ NB0_174.out _) | exact HI0.out)))) hb)
           have n5_ := aM (KeepBut.trans (by repeat (first | (with_reducible first | exact HK.out | apply KeepBut.set_ | apply keep_drewN | apply keep_drew | apply keep_alloc | refine keep_far ?_ GW167.out _ | refine keep_far ?_ GW174.out _) | exact HK.out)) (KeepBut.of_below hb g none) (.inl rfl))
           have n6_ := aM (below_step (by repeat (first | (with_reducible first | exact HB.out | apply eA | apply eN | apply eD | refine eS ?_ (IsS78.ge HI0.out) | refine eS ?_ GE167.out | refine eS ?_ GE174.out) | exact HB.out)) hb)
           clear HO_175000 BK167 BK174 HI0 HK HB
           have HO_175000 := n0_
           have HO198 := n1_
           have BK167 := n2_
           have BK174 := n3_
           have HI0 := n4_
           have HK := n5_
           have HB := n6_
           clear n0_ n1_ n2_ n3_ n4_ n5_ n6_ hb ho52
           refine hK.out _ _ ⟨(bC BK174.out 0).trans rfl, (bC BK174.out 1).trans rfl⟩ (fun hHeld => ?_)
           clear hK K
           refine norm_ (a' := ?_) ?_ ?_
           rotate_left
           ·
            show Act.put _ (some 56) _ = _
            simp only [Act.put, sA, sZ, sU, i64_w, i32_w]
            rfl
           refine one_ (i := 4) (N := some 54) #[true, true, true, true, true, true, true, false, false, false] rfl rfl (one_of HT_.out (by kernel_rfl)) (by decide) (fun K hK => ?_)
           refine goes_ Try.func85 (by kernel_rfl) rfl #[.pointer (some ⟨g, 0, none⟩), .int .i64 a1] (by rfl) rfl rfl (by (try simp only [List.map_toArray, List.map_cons, List.map_nil]); first | done | rfl | (simp only [List.length_drop, List.length_take]; rfl)) ?_
           with_reducible refine (spec_l1Cur_pick.calls g s0_0 t185 t186 a1 t193 t194 t195 w0 _ ?side1 ?side2 A40.out).mono ?_
           (case side1 => repeat (first | (with_reducible first | exact HI0.out | apply IsS78.alloc | apply IsS78.drewN | apply IsS78.drew | apply IsS78.set_1 | apply IsS78.set_2 | refine IsS78.far ?_ NB0_167.out _ | refine IsS78.far ?_ NB0_174.out _) | exact HI0.out))
           (case side2 => repeat (first | (with_reducible first | exact HB.out | apply eA | apply eN | apply eD | refine eS ?_ (IsS78.ge HI0.out) | refine eS ?_ GE167.out | refine eS ?_ GE174.out) | exact HB.out))
           rintro e w53 ⟨rfl, hi, hb, hk⟩
           refine ⟨_, rfl, ?_⟩
           have n0_ := aM (rM (Kd.R_keep (IsS78.apart (show IsS78 w0 _ g s0_0 t185 t186 from by first | ((repeat (first | (with_reducible first | exact HI0.out | apply IsS78.alloc | apply IsS78.drewN | apply IsS78.drew | apply IsS78.set_1 | apply IsS78.set_2 | refine IsS78.far ?_ NB0_167.out _ | refine IsS78.far ?_ NB0_174.out _) | exact HI0.out)); done) | (simp only [Int.add_zero]; (repeat (first | (with_reducible first | exact HI0.out | apply IsS78.alloc | apply IsS78.drewN | apply IsS78.drew | apply IsS78.set_1 | apply IsS78.set_2 | refine IsS78.far ?_ NB0_167.out _ | refine IsS78.far ?_ NB0_174.out _) | exact HI0.out)))) (by (with_reducible repeat (first | apply rA | apply rN | apply rD)); exact HO_175000.out) (by decide)) hk (fun _ h => h.2)) (fun _ h => h.1))
           have n1_ := aM (KeepBut.blk hk (g' := gb167) (o := .cells #[.slice none 0 0, .int .i64 0] 28 (0, 0)) (by (with_reducible repeat (first | refine bN ?_ _ | refine bD ?_ | refine bA ?_ _)); exact BK167.out) NB167_0.out (by simp))
           have n2_ := aM (KeepBut.blk hk (g' := gb174) (o := .cells #[u175000, .int .i64 (wrap64 ((wrap64 (t181 - t171)) - 1))] 28 (0, 0)) (by (with_reducible repeat (first | refine bN ?_ _ | refine bD ?_ | refine bA ?_ _)); exact BK174.out) NB174_0.out (by simp))
           have n3_ := aM (rM (Kd.R_keep (IsS78.apart (show IsS78 w0 _ g s0_0 t185 t186 from by first | ((repeat (first | (with_reducible first | exact HI0.out | apply IsS78.alloc | apply IsS78.drewN | apply IsS78.drew | apply IsS78.set_1 | apply IsS78.set_2 | refine IsS78.far ?_ NB0_167.out _ | refine IsS78.far ?_ NB0_174.out _) | exact HI0.out)); done) | (simp only [Int.add_zero]; (repeat (first | (with_reducible first | exact HI0.out | apply IsS78.alloc | apply IsS78.drewN | apply IsS78.drew | apply IsS78.set_1 | apply IsS78.set_2 | refine IsS78.far ?_ NB0_167.out _ | refine IsS78.far ?_ NB0_174.out _) | exact HI0.out)))) (by (with_reducible repeat (first | apply rA | apply rN | apply rD)); exact HO198.out) (by decide)) hk (fun _ h => h.2)) (fun _ h => h.1))
           have n4_ := aM (KeepBut.trans (by repeat (first | (with_reducible first | exact HK.out | apply KeepBut.set_ | apply keep_drewN | apply keep_drew | apply keep_alloc | refine keep_far ?_ GW167.out _ | refine keep_far ?_ GW174.out _) | exact HK.out)) hk (.inl rfl))
           have n5_ := aM (hb)
           have n6_ := aM (hi)
           clear HO_175000 BK167 BK174 HO198 HK HB HI0
           have HO_175000 := n0_
           have BK167 := n1_
           have BK174 := n2_
           have HO198 := n3_
           have HK := n4_
           have HB := n5_
           have HI0 := n6_
           clear n0_ n1_ n2_ n3_ n4_ n5_ n6_
           (try clear hb)
           (try clear hb2)
           (try clear hk)
           (try clear hi)
           refine hK.out _ _ ⟨(bC BK174.out 0).trans rfl, (bC BK174.out 1).trans rfl⟩ (fun hHeld => ?_)
           clear hK K
           refine norm_ (a' := ?_) ?_ ?_
           rotate_left
           ·
            show Act.put _ (some 54) _ = _
            simp only [Act.put, sA, sZ, sU, i64_w, i32_w]
            rfl
           exact norm_ (by simp only [putAll, Act.put, sA, sZ, sU]) (hCont (v197) _ ⟨hHeld, (by (with_reducible repeat (first | apply rA | apply rN | apply rD)); exact rM HO198.out (fun _ hk => by first | exact hk.2 | exact trivial)), (by (with_reducible repeat (first | apply rA | apply rN | apply rD)); exact rM HO_175000.out (fun _ hk => hk.2)), (by (with_reducible repeat (first | refine bN ?_ _ | refine bD ?_ | refine bA ?_ _)); exact BK167.out), (by (with_reducible repeat (first | refine bN ?_ _ | refine bD ?_ | refine bA ?_ _)); exact BK174.out), (by first | ((repeat (first | (with_reducible first | exact HI0.out | apply IsS78.alloc | apply IsS78.drewN | apply IsS78.drew | apply IsS78.set_1 | apply IsS78.set_2 | refine IsS78.far ?_ NB0_167.out _ | refine IsS78.far ?_ NB0_174.out _) | exact HI0.out)); done) | (simp only [Int.add_zero]; (repeat (first | (with_reducible first | exact HI0.out | apply IsS78.alloc | apply IsS78.drewN | apply IsS78.drew | apply IsS78.set_1 | apply IsS78.set_2 | refine IsS78.far ?_ NB0_167.out _ | refine IsS78.far ?_ NB0_174.out _) | exact HI0.out)))), (by repeat (first | (with_reducible first | exact HK.out | apply KeepBut.set_ | apply keep_drewN | apply keep_drew | apply keep_alloc | refine keep_far ?_ GW167.out _ | refine keep_far ?_ GW174.out _) | exact HK.out)), (by repeat (first | (with_reducible first | exact HB.out | apply eA | apply eN | apply eD | refine eS ?_ (IsS78.ge HI0.out) | refine eS ?_ GE167.out | refine eS ?_ GE174.out) | exact HB.out))⟩)
         rintro v197 w54 ⟨hS_, h0_, h1_, h2_, h3_, h4_, h5_, h6_⟩
         have n0_ : Aside0 (Kd.R (Kd.int .i64) 3 w54 w.heap.size (fun k_ => some k_ ≠ (u175000 : Value).ownBlock) v197 y196) := ⟨h0_⟩
         have n1_ : Aside0 (Kd.R (Kd.int .i64) 3 w54 w.heap.size (fun k_ => some k_ ≠ (v197 : Value).ownBlock) u175000 x175000_1) := ⟨h1_⟩
         have n2_ : Aside0 (w54.heap[gb167]? = some (.cells #[.slice none 0 0, .int .i64 0] 28 (0, 0))) := ⟨h2_⟩
         have n3_ : Aside0 (w54.heap[gb174]? = some (.cells #[u175000, .int .i64 (wrap64 ((wrap64 (t181 - t171)) - 1))] 28 (0, 0))) := ⟨h3_⟩
         have n4_ : Aside0 (IsS78 w0 w54 g s0_0 t194 t195) := ⟨h4_⟩
         have n5_ : Aside0 (KeepBut w w54 g none) := ⟨h5_⟩
         have n6_ : Aside0 (Below w0.heap.size w0 w54) := ⟨h6_⟩
         clear HO_175000 BK167 BK174 HI0 HK HB h0_ h1_ h2_ h3_ h4_ h5_ h6_
         have HO198 := n0_
         have HO_175000 := n1_
         have BK167 := n2_
         have BK174 := n3_
         have HI0 := n4_
         have HK := n5_
         have HB := n6_
         clear n0_ n1_ n2_ n3_ n4_ n5_ n6_
         have hHeld : w54.cell? ⟨gb174, 0, none⟩ = some (u175000) ∧ w54.cell? ⟨gb174, 1, none⟩ = some (.int .i64 (wrap64 ((wrap64 (t181 - t171)) - 1))) := hS_
         obtain ⟨Ao55, co55, eo55⟩ := Kd.R_slice HO198.out
         (first | subst eo55 | (injection eo55 with f1_ f2_ f3_; have f4_ := f1_.symm; have f5_ := f3_.symm; clear f1_ f2_ f3_; subst f4_; subst f5_))
         refine norm_ (a' := ?_) ?_ ?_
         rotate_left
         ·
          simp only [putAll, Act.put, sA, sZ, sU]
          rfl
         refine one_ (i := 7) (N := some 57) #[true, true, true, true, true, true, true, true, false, false] rfl rfl (one_of HT_.out (by kernel_rfl)) (by decide) (fun K hK => ?_)
         refine goes_ Try.func87 (by kernel_rfl) rfl #[.pointer (some ⟨g, 0, none⟩), .slice Ao55 y196.length co55] (by rfl) rfl rfl (by (try simp only [List.map_toArray, List.map_cons, List.map_nil]); first | done | rfl | (simp only [List.length_drop, List.length_take]; rfl)) ?_
         with_reducible refine (spec_l1Cur_among.calls g s0_0 t194 t195 _ _ y196 t199 t200 t201 w0 _ ?side1 ?side2 ?side3 ?side4 ?side5 A41.out).mono ?_
         (case side1 => repeat (first | (with_reducible first | exact HI0.out | apply IsS78.alloc | apply IsS78.drewN | apply IsS78.drew | apply IsS78.set_1 | apply IsS78.set_2 | refine IsS78.far ?_ NB0_167.out _ | refine IsS78.far ?_ NB0_174.out _) | exact HI0.out))
         (case side2 => repeat (first | (with_reducible first | exact HB.out | apply eA | apply eN | apply eD | refine eS ?_ (IsS78.ge HI0.out) | refine eS ?_ GE167.out | refine eS ?_ GE174.out) | exact HB.out))
         (case side3 => repeat (first | exact (Kd.R_reads' HO198.out).2.2 | (with_reducible refine Kd.C_alloc ?_ _) | (with_reducible refine Kd.C_drewN ?_ _) | (with_reducible refine Kd.C_drew ?_)))
         (case side4 => exact (Kd.R_reads' HO198.out).2.1)
         (case side5 => exact far_slice (IsS78.own_ne HI0.out HO198.out (by decide)))
         rintro e w56 ⟨rfl, hi, hb, hk⟩
         refine ⟨_, rfl, ?_⟩
         have n0_ := aM (rM (Kd.R_keep (IsS78.apart (show IsS78 w0 _ g s0_0 t194 t195 from by first | ((repeat (first | (with_reducible first | exact HI0.out | apply IsS78.alloc | apply IsS78.drewN | apply IsS78.drew | apply IsS78.set_1 | apply IsS78.set_2 | refine IsS78.far ?_ NB0_167.out _ | refine IsS78.far ?_ NB0_174.out _) | exact HI0.out)); done) | (simp only [Int.add_zero]; (repeat (first | (with_reducible first | exact HI0.out | apply IsS78.alloc | apply IsS78.drewN | apply IsS78.drew | apply IsS78.set_1 | apply IsS78.set_2 | refine IsS78.far ?_ NB0_167.out _ | refine IsS78.far ?_ NB0_174.out _) | exact HI0.out)))) (by (with_reducible repeat (first | apply rA | apply rN | apply rD)); exact HO_175000.out) (by decide)) hk (fun _ h => h.2)) (fun _ h => h.1))
         have n1_ := aM (KeepBut.blk hk (g' := gb167) (o := .cells #[.slice none 0 0, .int .i64 0] 28 (0, 0)) (by (with_reducible repeat (first | refine bN ?_ _ | refine bD ?_ | refine bA ?_ _)); exact BK167.out) NB167_0.out (by simp))
         have n2_ := aM (KeepBut.blk hk (g' := gb174) (o := .cells #[u175000, .int .i64 (wrap64 ((wrap64 (t181 - t171)) - 1))] 28 (0, 0)) (by (with_reducible repeat (first | refine bN ?_ _ | refine bD ?_ | refine bA ?_ _)); exact BK174.out) NB174_0.out (by simp))
         have n3_ := aM (rM (Kd.R_keep (IsS78.apart (show IsS78 w0 _ g s0_0 t194 t195 from by first | ((repeat (first | (with_reducible first | exact HI0.out | apply IsS78.alloc | apply IsS78.drewN | apply IsS78.drew | apply IsS78.set_1 | apply IsS78.set_2 | refine IsS78.far ?_ NB0_167.out _ | refine IsS78.far ?_ NB0_174.out _) | exact HI0.out)); done) | (simp only [Int.add_zero]; (repeat (first | (with_reducible first | exact HI0.out | apply IsS78.alloc | apply IsS78.drewN | apply IsS78.drew | apply IsS78.set_1 | apply IsS78.set_2 | refine IsS78.far ?_ NB0_167.out _ | refine IsS78.far ?_ NB0_174.out _) | exact HI0.out)))) (by (with_reducible repeat (first | apply rA | apply rN | apply rD)); exact HO198.out) (by decide)) hk (fun _ h => h.2)) (fun _ h => h.1))
         have n4_ := aM (KeepBut.trans (by repeat (first | (with_reducible first | exact HK.out | apply KeepBut.set_ | apply keep_drewN | apply keep_drew | apply keep_alloc | refine keep_far ?_ GW167.out _ | refine keep_far ?_ GW174.out _) | exact HK.out)) hk (.inl rfl))
         have n5_ := aM (hb)
         have n6_ := aM (hi)
         clear HO_175000 BK167 BK174 HO198 HK HB HI0
         have HO_175000 := n0_
         have BK167 := n1_
         have BK174 := n2_
         have HO198 := n3_
         have HK := n4_
         have HB := n5_
         have HI0 := n6_
         clear n0_ n1_ n2_ n3_ n4_ n5_ n6_
         (try clear hb)
         (try clear hb2)
         (try clear hk)
         (try clear hi)
         have p44 : 0 ≤ (t193 : Int) := of_decide_eq_true (by first | (with_reducible assumption) | assumption)
         have q44 : (t193 : Int) < ((x175000_1.length : Int) : Int) := of_decide_eq_true (by first | (with_reducible assumption) | assumption)
         obtain ⟨go44, co44, eo44, gb44, gl44, cl44, HG44⟩ := Kd.R_form HO_175000.out (by omega)
         (first | cases eo44 | (injection eo44 with ea_ en_ ec_; (first | subst ea_ | (injection ea_ with ea_; subst ea_)); subst ec_; clear en_))
         have GB44 := aM gb44
         have GG44 := aM HG44
         clear gb44 gl44 HG44
         obtain ⟨hx44_0, hf44_0⟩ := Kd.R_celln 0 HO_175000.out (t193 : Int) p44 q44
         replace p44 := eq_true p44
         replace q44 := eq_true q44
         have HN0_go44 := aM (show g ≠ go44 from by have h_ := IsS78.own_ne HI0.out HO_175000.out (by decide); intro e_; exact h_ (by rw [e_]; rfl))
         have HP57 := Kd.R_putn HO_175000.out (t193 : Int) t199
         rw [← Ny202.out] at HP57
         have HQ57 := aM HP57
         clear HP57
         refine hK.out _ _ ⟨(bC BK174.out 0).trans rfl, (bC BK174.out 1).trans rfl⟩ (fun hHeld => ?_)
         clear hK K
         refine norm_ (a' := ?_) ?_ ?_
         rotate_left
         ·
          show Act.put _ (some 57) _ = _
          simp only [Act.put, sA, sZ, sU, i64_w, i32_w]
          rfl
         refine pure_ (i := 8) (N := some 58) (v := ?_) (a' := ?_) #[true, true, true, true, true, true, true, true, true, false] rfl rfl (any_of HT_.out (by kernel_rfl)) (fun _ _ _ h => h) (Or.inl ⟨by rfl, ?_⟩) ?_ ?_
         rotate_left
         ·
          intro w'
          go_simp
          with_reducible rfl
         rotate_left
         ·
          simp only [Act.put, sA, sZ, sU, i64_w, i32_w]
          rfl
         refine last_ (i := 9) (N := none) #[true, true, true, true, true, true, true, true, true, true] rfl rfl (one_of HT_.out (by kernel_rfl)) (by decide) (fun K hK => ?_)
         refine skip_ (w1 := ?_) (by rfl) rfl ?_ ?_
         rotate_left
         ·
          go_simp
          rfl
         refine hK.out _ _ ?_
         clear hK K
         refine done_ (done_of HT_.out (by kernel_rfl)) ?_
         have n0_ : Aside0 (Kd.R (Kd.int .i64) 3 (w56.setCell ⟨go44, (t193 : Int).toNat, none⟩ (.int .i64 t199)) w.heap.size (fun k_ => some k_ ≠ (.slice Ao55 y196.length co55 : Value).ownBlock) (.slice (some ⟨go44, 0, none⟩) x175000_1.length co44) y202) := ⟨by (with_reducible repeat (first | apply rA | apply rN | apply rD)); exact HQ57.out⟩
         have n1_ : Aside0 (Kd.R (Kd.int .i64) 3 (w56.setCell ⟨go44, (t193 : Int).toNat, none⟩ (.int .i64 t199)) w.heap.size (fun k_ => some k_ ≠ (.slice (some ⟨go44, 0, none⟩) x175000_1.length co44 : Value).ownBlock) (.slice Ao55 y196.length co55) y196) := ⟨by (with_reducible repeat (first | apply rA | apply rN | apply rD)); exact rM (Kd.R_far (p := ⟨go44, (t193 : Int).toNat, none⟩) (rM HO198.out (fun k_ hk => (⟨hk, fun e_ => hk (by rw [e_]; rfl)⟩ : _ ∧ k_ ≠ go44))) (fun _ hk => hk.2) (.int .i64 t199)) (fun _ hk => hk.1)⟩
         have n2_ : Aside0 ((w56.setCell ⟨go44, (t193 : Int).toNat, none⟩ (.int .i64 t199)).heap[gb167]? = some (.cells #[.slice none 0 0, .int .i64 0] 28 (0, 0))) := ⟨by (with_reducible repeat (first | refine bN ?_ _ | refine bD ?_ | refine bA ?_ _)); refine blk_far ?_ (by have h_ := Kd.R_ne HO_175000.out BK167.out (by decide); intro e_; exact h_ (by rw [e_]; rfl)) _; (with_reducible repeat (first | refine bN ?_ _ | refine bD ?_ | refine bA ?_ _)); exact BK167.out⟩
         have n3_ : Aside0 ((w56.setCell ⟨go44, (t193 : Int).toNat, none⟩ (.int .i64 t199)).heap[gb174]? = some (.cells #[.slice (some ⟨go44, 0, none⟩) x175000_1.length co44, .int .i64 (wrap64 ((wrap64 (t181 - t171)) - 1))] 28 (0, 0))) := ⟨by (with_reducible repeat (first | refine bN ?_ _ | refine bD ?_ | refine bA ?_ _)); refine blk_far ?_ (by have h_ := Kd.R_ne HO_175000.out BK174.out (by decide); intro e_; exact h_ (by rw [e_]; rfl)) _; (with_reducible repeat (first | refine bN ?_ _ | refine bD ?_ | refine bA ?_ _)); exact BK174.out⟩
         have n4_ : Aside0 (IsS78 w0 (w56.setCell ⟨go44, (t193 : Int).toNat, none⟩ (.int .i64 t199)) g s0_0 t200 t201) := ⟨by first | ((repeat (first | (with_reducible first | exact HI0.out | apply IsS78.alloc | apply IsS78.drewN | apply IsS78.drew | apply IsS78.set_1 | apply IsS78.set_2 | refine IsS78.far ?_ HN0_go44.out _ | refine IsS78.far ?_ NB0_167.out _ | refine IsS78.far ?_ NB0_174.out _) | exact HI0.out)); done) | (simp only [Int.add_zero]; (repeat (first | (with_reducible first | exact HI0.out | apply IsS78.alloc | apply IsS78.drewN | apply IsS78.drew | apply IsS78.set_1 | apply IsS78.set_2 | refine IsS78.far ?_ HN0_go44.out _ | refine IsS78.far ?_ NB0_167.out _ | refine IsS78.far ?_ NB0_174.out _) | exact HI0.out)))⟩
         have n5_ : Aside0 (KeepBut w (w56.setCell ⟨go44, (t193 : Int).toNat, none⟩ (.int .i64 t199)) g none) := ⟨by repeat (first | (with_reducible first | exact HK.out | apply KeepBut.set_ | apply keep_drewN | apply keep_drew | apply keep_alloc | refine keep_far ?_ GB44.out _ | refine keep_far ?_ GW167.out _ | refine keep_far ?_ GW174.out _) | exact HK.out)⟩
         have n6_ : Aside0 (Below w0.heap.size w0 (w56.setCell ⟨go44, (t193 : Int).toNat, none⟩ (.int .i64 t199))) := ⟨by repeat (first | (with_reducible first | exact HB.out | apply eA | apply eN | apply eD | refine eS ?_ (Nat.le_trans HL.out GB44.out) | refine eS ?_ (IsS78.ge HI0.out) | refine eS ?_ GE167.out | refine eS ?_ GE174.out) | exact HB.out)⟩
         (try clear HO_175000)
         (try clear HO198)
         (try clear BK167)
         (try clear BK174)
         (try clear HI0)
         (try clear HK)
         (try clear HB)
         generalize (w56.setCell ⟨go44, (t193 : Int).toNat, none⟩ (.int .i64 t199)) = w58 at n0_ n1_ n2_ n3_ n4_ n5_ n6_ ⊢
         have HO_175000 := n0_
         have HO198 := n1_
         have BK167 := n2_
         have BK174 := n3_
         have HI0 := n4_
         have HK := n5_
         have HB := n6_
         clear n0_ n1_ n2_ n3_ n4_ n5_ n6_
         have hcz59_0 : w58.cell? ⟨gb174, 0, none⟩ = some (.slice (some ⟨go44, 0, none⟩) x175000_1.length co44) := (bC BK174.out 0).trans rfl
         have hcz59_1 : w58.cell? ⟨gb174, 1, none⟩ = some (.int .i64 (wrap64 ((wrap64 (t181 - t171)) - 1))) := (bC BK174.out 1).trans rfl
         have hfz59_0 := bF BK174.out 0
         have hfz59_1 := bF BK174.out 1
         have hnb60 := NB167_0.out
         have hnc60 := NB0_167.out
         have hcz61_0 : w58.cell? ⟨gb167, 0, none⟩ = some (.slice none 0 0) := (bC BK167.out 0).trans rfl
         have hcz61_1 : w58.cell? ⟨gb167, 1, none⟩ = some (.int .i64 0) := (bC BK167.out 1).trans rfl
         have hfz61_0 := bF BK167.out 0
         have hfz61_1 := bF BK167.out 1
         try go_wp2
         refine bodyPost_ret (results_cell_row rfl _ _ gb167 28 #[.slice (some ⟨go44, 0, none⟩) x175000_1.length co44, .int .i64 (wrap64 ((wrap64 (t181 - t171)) - 1))] (0, 0) _ rfl (by (with_reducible repeat (first | refine bN ?_ _ | refine bD ?_ | refine bA ?_ _)); refine blk_put (cs := #[.slice (some ⟨go44, 0, none⟩) x175000_1.length co44, .int .i64 0]) ?_ 1 _ rfl; (with_reducible repeat (first | refine bN ?_ _ | refine bD ?_ | refine bA ?_ _)); refine blk_put (cs := #[.slice none 0 0, .int .i64 0]) ?_ 0 _ rfl; (with_reducible repeat (first | refine bN ?_ _ | refine bD ?_ | refine bA ?_ _)); exact BK167.out) Try.underlying28 rfl (by kernel_rfl)) rfl ?_
         exact ⟨_, by first | rfl | (simp [errW_none, errW_some] <;> rfl) | (simp [*, errW_none, errW_some] <;> rfl), by (with_reducible repeat (first | apply rA | apply rN | apply rD)); exact rM (Kd.R_far (p := ⟨gb167, 1, none⟩) (Kd.R_far (p := ⟨gb167, 0, none⟩) (Kd.R_types HO_175000.out BK167.out (by decide)) (fun _ hk => hk.2) (.slice (some ⟨go44, 0, none⟩) x175000_1.length co44)) (fun _ hk => hk.2) (.int .i64 (wrap64 ((wrap64 (t181 - t171)) - 1)))) (fun _ hk => trivial), by first | ((repeat (first | (with_reducible first | exact HI0.out | apply IsS78.alloc | apply IsS78.drewN | apply IsS78.drew | apply IsS78.set_1 | apply IsS78.set_2 | refine IsS78.far ?_ NB0_167.out _ | refine IsS78.far ?_ NB0_174.out _) | exact HI0.out)); done) | (simp only [Int.add_zero]; (repeat (first | (with_reducible first | exact HI0.out | apply IsS78.alloc | apply IsS78.drewN | apply IsS78.drew | apply IsS78.set_1 | apply IsS78.set_2 | refine IsS78.far ?_ NB0_167.out _ | refine IsS78.far ?_ NB0_174.out _) | exact HI0.out))), by repeat (first | (with_reducible first | exact HB.out | apply eA | apply eN | apply eD | refine eS ?_ (IsS78.ge HI0.out) | refine eS ?_ GE167.out | refine eS ?_ GE174.out) | exact HB.out), by repeat (first | (with_reducible first | exact HK.out | apply KeepBut.set_ | apply keep_drewN | apply keep_drew | apply keep_alloc | refine keep_far ?_ GW167.out _ | refine keep_far ?_ GW174.out _) | exact HK.out)⟩
        ·
         rw [if_neg c43] at H
         exact absurd H (by simp)
       ·
        rw [if_neg c42] at H
        exact absurd H (by simp)
      ·
       rw [if_neg c39] at H
       have c39b0 : decide (0 < a1) = false := decide_eq_false c39
       clear c39
       simp only [Option.some.injEq, Prod.mk.injEq] at H
       obtain ⟨rfl, rfl, rfl, rfl⟩ := H
       go_wp2_with (first | ((with_reducible refine gate_callee (f := 85) rfl ?_); refine goesL_ (some 33) rfl rfl Try.func85 (by kernel_rfl) rfl #[.pointer (some ⟨g, 0, none⟩), .int .i64 (wrap64 ((wrap64 (2 * t171)) + 3))] rfl (by (try simp only [List.map_toArray, List.map_cons, List.map_nil]); first | done | rfl | (simp only [List.length_drop, List.length_take]; rfl)) ?_; (with_reducible refine (spec_l1Cur_pick.calls g s0_0 x1001_1 x1002_1 (wrap64 ((wrap64 (2 * t171)) + 3)) t181 t182 t183 w0 _ ?side1 ?side2 A21.out).mono ?_); (case side1 => repeat (first | (with_reducible first | exact HI0.out | apply IsS78.alloc | apply IsS78.drewN | apply IsS78.drew | apply IsS78.set_1 | apply IsS78.set_2 | refine IsS78.far ?_ NB0_167.out _ | refine IsS78.far ?_ NB0_174.out _) | exact HI0.out)); (case side2 => repeat (first | (with_reducible first | exact HB.out | apply eA | apply eN | apply eD | refine eS ?_ (IsS78.ge HI0.out) | refine eS ?_ GE167.out | refine eS ?_ GE174.out) | exact HB.out)); rintro e w62 ⟨rfl, hi, hb, hk⟩; refine ⟨_, rfl, ?_⟩; have n0_ := aM (rM (Kd.R_keep (IsS78.apart (show IsS78 w0 _ g s0_0 x1001_1 x1002_1 from by first | ((repeat (first | (with_reducible first | exact HI0.out | apply IsS78.alloc | apply IsS78.drewN | apply IsS78.drew | apply IsS78.set_1 | apply IsS78.set_2 | refine IsS78.far ?_ NB0_167.out _ | refine IsS78.far ?_ NB0_174.out _) | exact HI0.out)); done) | (simp only [Int.add_zero]; (repeat (first | (with_reducible first | exact HI0.out | apply IsS78.alloc | apply IsS78.drewN | apply IsS78.drew | apply IsS78.set_1 | apply IsS78.set_2 | refine IsS78.far ?_ NB0_167.out _ | refine IsS78.far ?_ NB0_174.out _) | exact HI0.out)))) (by (with_reducible repeat (first | apply rA | apply rN | apply rD)); exact HO_175000.out) (by decide)) hk (fun _ h => h.2)) (fun _ h => h.1)); have n1_ := aM (KeepBut.blk hk (g' := gb167) (o := .cells #[.slice none 0 0, .int .i64 0] 28 (0, 0)) (by (with_reducible repeat (first | refine bN ?_ _ | refine bD ?_ | refine bA ?_ _)); exact BK167.out) NB167_0.out (by simp)); have n2_ := aM (KeepBut.blk hk (g' := gb174) (o := .cells #[u175000, .int .i64 0] 28 (0, 0)) (by (with_reducible repeat (first | refine bN ?_ _ | refine bD ?_ | refine bA ?_ _)); exact BK174.out) NB174_0.out (by simp)); have n3_ := aM (KeepBut.trans (by repeat (first | (with_reducible first | exact HK.out | apply KeepBut.set_ | apply keep_drewN | apply keep_drew | apply keep_alloc | refine keep_far ?_ GW167.out _ | refine keep_far ?_ GW174.out _) | exact HK.out)) hk (.inl rfl)); have n4_ := aM (hb); have n5_ := aM (hi); clear HO_175000; clear BK167; clear BK174; clear HK; clear HB; clear HI0; have HO_175000 := n0_; have BK167 := n1_; have BK174 := n2_; have HK := n3_; have HB := n4_; have HI0 := n5_; clear n0_ n1_ n2_ n3_ n4_ n5_; (try clear hb); (try clear hb2); (try clear hk); (try clear hi); have hnb63 := NB174_167.out; have hnc63 := NB167_174.out; have hnb64 := NB174_0.out; have hnc64 := NB0_174.out; have hcz65_0 : w62.cell? ⟨gb174, 0, none⟩ = some (u175000) := (bC BK174.out 0).trans rfl; have hcz65_1 : w62.cell? ⟨gb174, 1, none⟩ = some (.int .i64 0) := (bC BK174.out 1).trans rfl; have hfz65_0 := bF BK174.out 0; have hfz65_1 := bF BK174.out 1) | ((with_reducible refine gate_callee (f := 85) rfl ?_); refine goesL_ (some 39) rfl rfl Try.func85 (by kernel_rfl) rfl #[.pointer (some ⟨g, 0, none⟩), .int .i64 60] rfl (by (try simp only [List.map_toArray, List.map_cons, List.map_nil]); first | done | rfl | (simp only [List.length_drop, List.length_take]; rfl)) ?_; (with_reducible refine (spec_l1Cur_pick.calls g s0_0 t182 t183 60 t184 t185 t186 w0 _ ?side1 ?side2 A22.out).mono ?_); (case side1 => repeat (first | (with_reducible first | exact HI0.out | apply IsS78.alloc | apply IsS78.drewN | apply IsS78.drew | apply IsS78.set_1 | apply IsS78.set_2 | refine IsS78.far ?_ NB0_167.out _ | refine IsS78.far ?_ NB0_174.out _) | exact HI0.out)); (case side2 => repeat (first | (with_reducible first | exact HB.out | apply eA | apply eN | apply eD | refine eS ?_ (IsS78.ge HI0.out) | refine eS ?_ GE167.out | refine eS ?_ GE174.out) | exact HB.out)); rintro e w66 ⟨rfl, hi, hb, hk⟩; refine ⟨_, rfl, ?_⟩; have n0_ := aM (rM (Kd.R_keep (IsS78.apart (show IsS78 w0 _ g s0_0 t182 t183 from by first | ((repeat (first | (with_reducible first | exact HI0.out | apply IsS78.alloc | apply IsS78.drewN | apply IsS78.drew | apply IsS78.set_1 | apply IsS78.set_2 | refine IsS78.far ?_ NB0_167.out _ | refine IsS78.far ?_ NB0_174.out _) | exact HI0.out)); done) | (simp only [Int.add_zero]; (repeat (first | (with_reducible first | exact HI0.out | apply IsS78.alloc | apply IsS78.drewN | apply IsS78.drew | apply IsS78.set_1 | apply IsS78.set_2 | refine IsS78.far ?_ NB0_167.out _ | refine IsS78.far ?_ NB0_174.out _) | exact HI0.out)))) (by (with_reducible repeat (first | apply rA | apply rN | apply rD)); exact (rM (Kd.R_far (p := ⟨gb174, 1, none⟩) (Kd.R_types HO_175000.out BK174.out (by decide)) (fun _ hk => hk.2) (.int .i64 (wrap64 ((wrap64 (t181 - t171)) - 1)))) (fun _ h_ => h_.1))) (by decide)) hk (fun _ h => h.2)) (fun _ h => h.1)); have n1_ := aM (KeepBut.blk hk (g' := gb167) (o := .cells #[.slice none 0 0, .int .i64 0] 28 (0, 0)) (by (with_reducible repeat (first | refine bN ?_ _ | refine bD ?_ | refine bA ?_ _)); refine blk_far ?_ NB167_174.out _; (with_reducible repeat (first | refine bN ?_ _ | refine bD ?_ | refine bA ?_ _)); exact BK167.out) NB167_0.out (by simp)); have n2_ := aM (KeepBut.blk hk (g' := gb174) (o := .cells #[u175000, .int .i64 (wrap64 ((wrap64 (t181 - t171)) - 1))] 28 (0, 0)) (by (with_reducible repeat (first | refine bN ?_ _ | refine bD ?_ | refine bA ?_ _)); refine blk_put (cs := #[u175000, .int .i64 0]) ?_ 1 _ rfl; (with_reducible repeat (first | refine bN ?_ _ | refine bD ?_ | refine bA ?_ _)); exact BK174.out) NB174_0.out (by simp)); have n3_ := aM (KeepBut.trans (by repeat (first | (with_reducible first | exact HK.out | apply KeepBut.set_ | apply keep_drewN | apply keep_drew | apply keep_alloc | refine keep_far ?_ GW167.out _ | refine keep_far ?_ GW174.out _) | exact HK.out)) hk (.inl rfl)); have n4_ := aM (hb); have n5_ := aM (hi); clear HO_175000; clear BK167; clear BK174; clear HK; clear HB; clear HI0; have HO_175000 := n0_; have BK167 := n1_; have BK174 := n2_; have HK := n3_; have HB := n4_; have HI0 := n5_; clear n0_ n1_ n2_ n3_ n4_ n5_; (try clear hb); (try clear hb2); (try clear hk); (try clear hi); have hcz67_0 : w66.cell? ⟨gb174, 0, none⟩ = some (u175000) := (bC BK174.out 0).trans rfl; have hcz67_1 : w66.cell? ⟨gb174, 1, none⟩ = some (.int .i64 (wrap64 ((wrap64 (t181 - t171)) - 1))) := (bC BK174.out 1).trans rfl; have hfz67_0 := bF BK174.out 0; have hfz67_1 := bF BK174.out 1; obtain ⟨Ao68, co68, eo68⟩ := Kd.R_slice HO_175000.out; subst eo68; have hnb69 := NB167_0.out; have hnc69 := NB0_167.out; have hcz70_0 : w66.cell? ⟨gb167, 0, none⟩ = some (.slice none 0 0) := (bC BK167.out 0).trans rfl; have hcz70_1 : w66.cell? ⟨gb167, 1, none⟩ = some (.int .i64 0) := (bC BK167.out 1).trans rfl; have hfz70_0 := bF BK167.out 0; have hfz70_1 := bF BK167.out 1))
       refine bodyPost_ret (results_cell_row rfl _ _ gb167 28 #[.slice Ao68 x175000_1.length co68, .int .i64 (wrap64 ((wrap64 (t181 - t171)) - 1))] (0, 0) _ rfl (by (with_reducible repeat (first | refine bN ?_ _ | refine bD ?_ | refine bA ?_ _)); refine blk_put (cs := #[.slice Ao68 x175000_1.length co68, .int .i64 0]) ?_ 1 _ rfl; (with_reducible repeat (first | refine bN ?_ _ | refine bD ?_ | refine bA ?_ _)); refine blk_put (cs := #[.slice none 0 0, .int .i64 0]) ?_ 0 _ rfl; (with_reducible repeat (first | refine bN ?_ _ | refine bD ?_ | refine bA ?_ _)); exact BK167.out) Try.underlying28 rfl (by kernel_rfl)) rfl ?_
       exact ⟨_, by first | rfl | (simp [errW_none, errW_some] <;> rfl) | (simp [*, errW_none, errW_some] <;> rfl), by (with_reducible repeat (first | apply rA | apply rN | apply rD)); exact rM (Kd.R_far (p := ⟨gb167, 1, none⟩) (Kd.R_far (p := ⟨gb167, 0, none⟩) (Kd.R_types HO_175000.out BK167.out (by decide)) (fun _ hk => hk.2) (.slice Ao68 x175000_1.length co68)) (fun _ hk => hk.2) (.int .i64 (wrap64 ((wrap64 (t181 - t171)) - 1)))) (fun _ hk => trivial), by first | ((repeat (first | (with_reducible first | exact HI0.out | apply IsS78.alloc | apply IsS78.drewN | apply IsS78.drew | apply IsS78.set_1 | apply IsS78.set_2 | refine IsS78.far ?_ NB0_167.out _ | refine IsS78.far ?_ NB0_174.out _) | exact HI0.out)); done) | (simp only [Int.add_zero]; (repeat (first | (with_reducible first | exact HI0.out | apply IsS78.alloc | apply IsS78.drewN | apply IsS78.drew | apply IsS78.set_1 | apply IsS78.set_2 | refine IsS78.far ?_ NB0_167.out _ | refine IsS78.far ?_ NB0_174.out _) | exact HI0.out))), by repeat (first | (with_reducible first | exact HB.out | apply eA | apply eN | apply eD | refine eS ?_ (IsS78.ge HI0.out) | refine eS ?_ GE167.out | refine eS ?_ GE174.out) | exact HB.out), by repeat (first | (with_reducible first | exact HK.out | apply KeepBut.set_ | apply keep_drewN | apply keep_drew | apply keep_alloc | refine keep_far ?_ GW167.out _ | refine keep_far ?_ GW174.out _) | exact HK.out)⟩
     ·
      rw [if_neg c38] at H
      have c38b0 : (t184 == 1) = false := beq_eq_false_iff_ne.mpr c38
      have c38b1 : (t184 != 1) = true := bne_iff_ne.mpr c38
      by_cases c71 : t184 = 2
      ·
       rw [if_pos c71] at H
       have c71b0 : (t184 == 2) = true := beq_iff_eq.mpr c71
       have c71b1 : (t184 != 2) = false := bne_eq_false_iff_eq.mpr c71
       clear c71
       by_cases c72 : x175000_1.length < 17592186044416
       ·
        rw [if_pos c72] at H
        have LMc72 := aM c72
        clear c72
        obtain ⟨y203, hy203⟩ : ∃ y_ : List Int, y_ = (x175000_1 ++ [1]) := ⟨_, rfl⟩
        replace H : (some (y203, wrap64 ((wrap64 (t181 - t171)) - 1), t185, t186)) = some (r1, r2, r3, r4) := by first | (rw [hy203]; with_reducible exact H) | (have H2_ := (Option.bind_some _ _).symm.trans H; rw [hy203]; with_reducible exact H2_) | (have H2_ := (Option.bind_some _ _).symm.trans H; with_reducible exact H2_) | with_reducible exact H | (rw [hy203]; exact H) | exact H
        have Ny203 := aM hy203
        clear hy203
        simp only [Option.some.injEq, Prod.mk.injEq] at H
        obtain ⟨rfl, rfl, rfl, rfl⟩ := H
        go_wp2_with (first | ((with_reducible refine gate_callee (f := 85) rfl ?_); refine goesL_ (some 33) rfl rfl Try.func85 (by kernel_rfl) rfl #[.pointer (some ⟨g, 0, none⟩), .int .i64 (wrap64 ((wrap64 (2 * t171)) + 3))] rfl (by (try simp only [List.map_toArray, List.map_cons, List.map_nil]); first | done | rfl | (simp only [List.length_drop, List.length_take]; rfl)) ?_; (with_reducible refine (spec_l1Cur_pick.calls g s0_0 x1001_1 x1002_1 (wrap64 ((wrap64 (2 * t171)) + 3)) t181 t182 t183 w0 _ ?side1 ?side2 A21.out).mono ?_); (case side1 => repeat (first | (with_reducible first | exact HI0.out | apply IsS78.alloc | apply IsS78.drewN | apply IsS78.drew | apply IsS78.set_1 | apply IsS78.set_2 | refine IsS78.far ?_ NB0_167.out _ | refine IsS78.far ?_ NB0_174.out _) | exact HI0.out)); (case side2 => repeat (first | (with_reducible first | exact HB.out | apply eA | apply eN | apply eD | refine eS ?_ (IsS78.ge HI0.out) | refine eS ?_ GE167.out | refine eS ?_ GE174.out) | exact HB.out)); rintro e w73 ⟨rfl, hi, hb, hk⟩; refine ⟨_, rfl, ?_⟩; have n0_ := aM (rM (Kd.R_keep (IsS78.apart (show IsS78 w0 _ g s0_0 x1001_1 x1002_1 from by first | ((repeat (first | (with_reducible first | exact HI0.out | apply IsS78.alloc | apply IsS78.drewN | apply IsS78.drew | apply IsS78.set_1 | apply IsS78.set_2 | refine IsS78.far ?_ NB0_167.out _ | refine IsS78.far ?_ NB0_174.out _) | exact HI0.out)); done) | (simp only [Int.add_zero]; (repeat (first | (with_reducible first | exact HI0.out | apply IsS78.alloc | apply IsS78.drewN | apply IsS78.drew | apply IsS78.set_1 | apply IsS78.set_2 | refine IsS78.far ?_ NB0_167.out _ | refine IsS78.far ?_ NB0_174.out _) | exact HI0.out)))) (by (with_reducible repeat (first | apply rA | apply rN | apply rD)); exact HO_175000.out) (by decide)) hk (fun _ h => h.2)) (fun _ h => h.1)); have n1_ := aM (KeepBut.blk hk (g' := gb167) (o := .cells #[.slice none 0 0, .int .i64 0] 28 (0, 0)) (by (with_reducible repeat (first | refine bN ?_ _ | refine bD ?_ | refine bA ?_ _)); exact BK167.out) NB167_0.out (by simp)); have n2_ := aM (KeepBut.blk hk (g' := gb174) (o := .cells #[u175000, .int .i64 0] 28 (0, 0)) (by (with_reducible repeat (first | refine bN ?_ _ | refine bD ?_ | refine bA ?_ _)); exact BK174.out) NB174_0.out (by simp)); have n3_ := aM (KeepBut.trans (by repeat (first | (with_reducible first | exact HK.out | apply KeepBut.set_ | apply keep_drewN | apply keep_drew | apply keep_alloc | refine keep_far ?_ GW167.out _ | refine keep_far ?_ GW174.out _) | exact HK.out)) hk (.inl rfl)); have n4_ := aM (hb); have n5_ := aM (hi); clear HO_175000; clear BK167; clear BK174; clear HK; clear HB; clear HI0; have HO_175000 := n0_; have BK167 := n1_; have BK174 := n2_; have HK := n3_; have HB := n4_; have HI0 := n5_; clear n0_ n1_ n2_ n3_ n4_ n5_; (try clear hb); (try clear hb2); (try clear hk); (try clear hi); have hnb74 := NB174_167.out; have hnc74 := NB167_174.out; have hnb75 := NB174_0.out; have hnc75 := NB0_174.out; have hcz76_0 : w73.cell? ⟨gb174, 0, none⟩ = some (u175000) := (bC BK174.out 0).trans rfl; have hcz76_1 : w73.cell? ⟨gb174, 1, none⟩ = some (.int .i64 0) := (bC BK174.out 1).trans rfl; have hfz76_0 := bF BK174.out 0; have hfz76_1 := bF BK174.out 1) | ((with_reducible refine gate_callee (f := 85) rfl ?_); refine goesL_ (some 39) rfl rfl Try.func85 (by kernel_rfl) rfl #[.pointer (some ⟨g, 0, none⟩), .int .i64 60] rfl (by (try simp only [List.map_toArray, List.map_cons, List.map_nil]); first | done | rfl | (simp only [List.length_drop, List.length_take]; rfl)) ?_; (with_reducible refine (spec_l1Cur_pick.calls g s0_0 t182 t183 60 t184 t185 t186 w0 _ ?side1 ?side2 A22.out).mono ?_); (case side1 => repeat (first | (with_reducible first | exact HI0.out | apply IsS78.alloc | apply IsS78.drewN | apply IsS78.drew | apply IsS78.set_1 | apply IsS78.set_2 | refine IsS78.far ?_ NB0_167.out _ | refine IsS78.far ?_ NB0_174.out _) | exact HI0.out)); (case side2 => repeat (first | (with_reducible first | exact HB.out | apply eA | apply eN | apply eD | refine eS ?_ (IsS78.ge HI0.out) | refine eS ?_ GE167.out | refine eS ?_ GE174.out) | exact HB.out)); rintro e w77 ⟨rfl, hi, hb, hk⟩; refine ⟨_, rfl, ?_⟩; have n0_ := aM (rM (Kd.R_keep (IsS78.apart (show IsS78 w0 _ g s0_0 t182 t183 from by first | ((repeat (first | (with_reducible first | exact HI0.out | apply IsS78.alloc | apply IsS78.drewN | apply IsS78.drew | apply IsS78.set_1 | apply IsS78.set_2 | refine IsS78.far ?_ NB0_167.out _ | refine IsS78.far ?_ NB0_174.out _) | exact HI0.out)); done) | (simp only [Int.add_zero]; (repeat (first | (with_reducible first | exact HI0.out | apply IsS78.alloc | apply IsS78.drewN | apply IsS78.drew | apply IsS78.set_1 | apply IsS78.set_2 | refine IsS78.far ?_ NB0_167.out _ | refine IsS78.far ?_ NB0_174.out _) | exact HI0.out)))) (by (with_reducible repeat (first | apply rA | apply rN | apply rD)); exact (rM (Kd.R_far (p := ⟨gb174, 1, none⟩) (Kd.R_types HO_175000.out BK174.out (by decide)) (fun _ hk => hk.2) (.int .i64 (wrap64 ((wrap64 (t181 - t171)) - 1)))) (fun _ h_ => h_.1))) (by decide)) hk (fun _ h => h.2)) (fun _ h => h.1)); have n1_ := aM (KeepBut.blk hk (g' := gb167) (o := .cells #[.slice none 0 0, .int .i64 0] 28 (0, 0)) (by (with_reducible repeat (first | refine bN ?_ _ | refine bD ?_ | refine bA ?_ _)); refine blk_far ?_ NB167_174.out _; (with_reducible repeat (first | refine bN ?_ _ | refine bD ?_ | refine bA ?_ _)); exact BK167.out) NB167_0.out (by simp)); have n2_ := aM (KeepBut.blk hk (g' := gb174) (o := .cells #[u175000, .int .i64 (wrap64 ((wrap64 (t181 - t171)) - 1))] 28 (0, 0)) (by (with_reducible repeat (first | refine bN ?_ _ | refine bD ?_ | refine bA ?_ _)); refine blk_put (cs := #[u175000, .int .i64 0]) ?_ 1 _ rfl; (with_reducible repeat (first | refine bN ?_ _ | refine bD ?_ | refine bA ?_ _)); exact BK174.out) NB174_0.out (by simp)); have n3_ := aM (KeepBut.trans (by repeat (first | (with_reducible first | exact HK.out | apply KeepBut.set_ | apply keep_drewN | apply keep_drew | apply keep_alloc | refine keep_far ?_ GW167.out _ | refine keep_far ?_ GW174.out _) | exact HK.out)) hk (.inl rfl)); have n4_ := aM (hb); have n5_ := aM (hi); clear HO_175000; clear BK167; clear BK174; clear HK; clear HB; clear HI0; have HO_175000 := n0_; have BK167 := n1_; have BK174 := n2_; have HK := n3_; have HB := n4_; have HI0 := n5_; clear n0_ n1_ n2_ n3_ n4_ n5_; (try clear hb); (try clear hb2); (try clear hk); (try clear hi); have hcz78_0 : w77.cell? ⟨gb174, 0, none⟩ = some (u175000) := (bC BK174.out 0).trans rfl; have hcz78_1 : w77.cell? ⟨gb174, 1, none⟩ = some (.int .i64 (wrap64 ((wrap64 (t181 - t171)) - 1))) := (bC BK174.out 1).trans rfl; have hfz78_0 := bF BK174.out 0; have hfz78_1 := bF BK174.out 1) | ((with_reducible refine gate_builtin (b := .append) (xs := #[.tmp 62, .tmp 63]) rfl ?_); at_builtin; refine Kd.R_append (Kd.int .i64) w.heap.size rfl (.tmp 62) (.tmp 63) 24 3 (.int .i64 0) 8 rfl Try.underlying24 info3 rfl (by decide) (by omega) u175000 x175000_1 1 [.int .i64 1] (fun _ => True) (fun _ => False) rfl rfl ?aP (fun _ hk => hk.elim) ?aF ?aO (Below.refl _ _) ?aS ?aL ?_; (case aP => exact rfl); (case aF => exact (fun _ _ => trivial)); (case aO => exact (by (with_reducible repeat (first | apply rA | apply rN | apply rD)); exact HO_175000.out)); (case aS => exact (keep_size (w := w) (g := g) (row := none) (by repeat (first | (with_reducible first | exact HK.out | apply KeepBut.set_ | apply keep_drewN | apply keep_drew | apply keep_alloc | refine keep_far ?_ GW167.out _ | refine keep_far ?_ GW174.out _) | exact HK.out)))); (case aL => have := LMc72.out; omega); intro v204 w79 ho hb hg hat; rw [← Ny203.out] at ho; have n0_ := aM (blk_grown (g := gb167) (o := .cells #[.slice none 0 0, .int .i64 0] 28 (0, 0)) (by (with_reducible repeat (first | refine bN ?_ _ | refine bD ?_ | refine bA ?_ _)); exact BK167.out) hg (Kd.R_ne HO_175000.out BK167.out (by decide))); have n1_ := aM (blk_grown (g := gb174) (o := .cells #[u175000, .int .i64 (wrap64 ((wrap64 (t181 - t171)) - 1))] 28 (0, 0)) (by (with_reducible repeat (first | refine bN ?_ _ | refine bD ?_ | refine bA ?_ _)); exact BK174.out) hg (Kd.R_ne HO_175000.out BK174.out (by decide))); have n2_ := aM (IsS78.grown (by first | ((repeat (first | (with_reducible first | exact HI0.out | apply IsS78.alloc | apply IsS78.drewN | apply IsS78.drew | apply IsS78.set_1 | apply IsS78.set_2 | refine IsS78.far ?_ NB0_167.out _ | refine IsS78.far ?_ NB0_174.out _) | exact HI0.out)); done) | (simp only [Int.add_zero]; (repeat (first | (with_reducible first | exact HI0.out | apply IsS78.alloc | apply IsS78.drewN | apply IsS78.drew | apply IsS78.set_1 | apply IsS78.set_2 | refine IsS78.far ?_ NB0_167.out _ | refine IsS78.far ?_ NB0_174.out _) | exact HI0.out)))) hg (IsS78.own_ne HI0.out HO_175000.out (by decide))); have n3_ := aM (below_weaken (by repeat (first | (with_reducible first | exact HB.out | apply eA | apply eN | apply eD | refine eS ?_ (IsS78.ge HI0.out) | refine eS ?_ GE167.out | refine eS ?_ GE174.out) | exact HB.out)) HL.out hb); have n4_ := aM (KeepBut.trans (by repeat (first | (with_reducible first | exact HK.out | apply KeepBut.set_ | apply keep_drewN | apply keep_drew | apply keep_alloc | refine keep_far ?_ GW167.out _ | refine keep_far ?_ GW174.out _) | exact HK.out)) (KeepBut.of_grown hg g) (Kd.R_base2 HO_175000.out)); have n5_ := aM (ho); clear BK167; clear BK174; clear HI0; clear HB; clear HK; clear HO_175000; have BK167 := n0_; have BK174 := n1_; have HI0 := n2_; have HB := n3_; have HK := n4_; have HO205 := n5_; clear n0_ n1_ n2_ n3_ n4_ n5_; clear ho hb hg hat; obtain ⟨Ao80, co80, eo80⟩ := Kd.R_slice HO205.out; subst eo80; have hcz81_0 : w79.cell? ⟨gb174, 0, none⟩ = some (u175000) := (bC BK174.out 0).trans rfl; have hcz81_1 : w79.cell? ⟨gb174, 1, none⟩ = some (.int .i64 (wrap64 ((wrap64 (t181 - t171)) - 1))) := (bC BK174.out 1).trans rfl; have hfz81_0 := bF BK174.out 0; have hfz81_1 := bF BK174.out 1; have hnb82 := NB167_0.out; have hnc82 := NB0_167.out; have hcz83_0 : w79.cell? ⟨gb167, 0, none⟩ = some (.slice none 0 0) := (bC BK167.out 0).trans rfl; have hcz83_1 : w79.cell? ⟨gb167, 1, none⟩ = some (.int .i64 0) := (bC BK167.out 1).trans rfl; have hfz83_0 := bF BK167.out 0; have hfz83_1 := bF BK167.out 1))
        refine bodyPost_ret (results_cell_row rfl _ _ gb167 28 #[.slice Ao80 y203.length co80, .int .i64 (wrap64 ((wrap64 (t181 - t171)) - 1))] (0, 0) _ rfl (by (with_reducible repeat (first | refine bN ?_ _ | refine bD ?_ | refine bA ?_ _)); refine blk_put (cs := #[.slice Ao80 y203.length co80, .int .i64 0]) ?_ 1 _ rfl; (with_reducible repeat (first | refine bN ?_ _ | refine bD ?_ | refine bA ?_ _)); refine blk_put (cs := #[.slice none 0 0, .int .i64 0]) ?_ 0 _ rfl; (with_reducible repeat (first | refine bN ?_ _ | refine bD ?_ | refine bA ?_ _)); refine blk_far ?_ NB167_174.out _; (with_reducible repeat (first | refine bN ?_ _ | refine bD ?_ | refine bA ?_ _)); exact BK167.out) Try.underlying28 rfl (by kernel_rfl)) rfl ?_
        exact ⟨_, by first | rfl | (simp [errW_none, errW_some] <;> rfl) | (simp [*, errW_none, errW_some] <;> rfl), by (with_reducible repeat (first | apply rA | apply rN | apply rD)); exact rM (Kd.R_far (p := ⟨gb167, 1, none⟩) (Kd.R_far (p := ⟨gb167, 0, none⟩) (Kd.R_far (p := ⟨gb174, 0, none⟩) (Kd.R_types (Kd.R_types HO205.out BK174.out (by decide)) BK167.out (by decide)) (fun _ hk => hk.1.2) (.slice Ao80 y203.length co80)) (fun _ hk => hk.2) (.slice Ao80 y203.length co80)) (fun _ hk => hk.2) (.int .i64 (wrap64 ((wrap64 (t181 - t171)) - 1)))) (fun _ hk => trivial), by first | ((repeat (first | (with_reducible first | exact HI0.out | apply IsS78.alloc | apply IsS78.drewN | apply IsS78.drew | apply IsS78.set_1 | apply IsS78.set_2 | refine IsS78.far ?_ NB0_167.out _ | refine IsS78.far ?_ NB0_174.out _) | exact HI0.out)); done) | (simp only [Int.add_zero]; (repeat (first | (with_reducible first | exact HI0.out | apply IsS78.alloc | apply IsS78.drewN | apply IsS78.drew | apply IsS78.set_1 | apply IsS78.set_2 | refine IsS78.far ?_ NB0_167.out _ | refine IsS78.far ?_ NB0_174.out _) | exact HI0.out))), by repeat (first | (with_reducible first | exact HB.out | apply eA | apply eN | apply eD | refine eS ?_ (IsS78.ge HI0.out) | refine eS ?_ GE167.out | refine eS ?_ GE174.out) | exact HB.out), by repeat (first | (with_reducible first | exact HK.out | apply KeepBut.set_ | apply keep_drewN | apply keep_drew | apply keep_alloc | refine keep_far ?_ GW167.out _ | refine keep_far ?_ GW174.out _) | exact HK.out)⟩
       ·
        rw [if_neg c72] at H
        exact absurd H (by simp)
      ·
       rw [if_neg c71] at H
       have c71b0 : (t184 == 2) = false := beq_eq_false_iff_ne.mpr c71
       have c71b1 : (t184 != 2) = true := bne_iff_ne.mpr c71
       simp only [Option.some.injEq, Prod.mk.injEq] at H
       obtain ⟨rfl, rfl, rfl, rfl⟩ := H
       go_wp2_with (first | ((with_reducible refine gate_callee (f := 85) rfl ?_); refine goesL_ (some 33) rfl rfl Try.func85 (by kernel_rfl) rfl #[.pointer (some ⟨g, 0, none⟩), .int .i64 (wrap64 ((wrap64 (2 * t171)) + 3))] rfl (by (try simp only [List.map_toArray, List.map_cons, List.map_nil]); first | done | rfl | (simp only [List.length_drop, List.length_take]; rfl)) ?_; (with_reducible refine (spec_l1Cur_pick.calls g s0_0 x1001_1 x1002_1 (wrap64 ((wrap64 (2 * t171)) + 3)) t181 t182 t183 w0 _ ?side1 ?side2 A21.out).mono ?_); (case side1 => repeat (first | (with_reducible first | exact HI0.out | apply IsS78.alloc | apply IsS78.drewN | apply IsS78.drew | apply IsS78.set_1 | apply IsS78.set_2 | refine IsS78.far ?_ NB0_167.out _ | refine IsS78.far ?_ NB0_174.out _) | exact HI0.out)); (case side2 => repeat (first | (with_reducible first | exact HB.out | apply eA | apply eN | apply eD | refine eS ?_ (IsS78.ge HI0.out) | refine eS ?_ GE167.out | refine eS ?_ GE174.out) | exact HB.out)); rintro e w84 ⟨rfl, hi, hb, hk⟩; refine ⟨_, rfl, ?_⟩; have n0_ := aM (rM (Kd.R_keep (IsS78.apart (show IsS78 w0 _ g s0_0 x1001_1 x1002_1 from by first | ((repeat (first | (with_reducible first | exact HI0.out | apply IsS78.alloc | apply IsS78.drewN | apply IsS78.drew | apply IsS78.set_1 | apply IsS78.set_2 | refine IsS78.far ?_ NB0_167.out _ | refine IsS78.far ?_ NB0_174.out _) | exact HI0.out)); done) | (simp only [Int.add_zero]; (repeat (first | (with_reducible first | exact HI0.out | apply IsS78.alloc | apply IsS78.drewN | apply IsS78.drew | apply IsS78.set_1 | apply IsS78.set_2 | refine IsS78.far ?_ NB0_167.out _ | refine IsS78.far ?_ NB0_174.out _) | exact HI0.out)))) (by (with_reducible repeat (first | apply rA | apply rN | apply rD)); exact HO_175000.out) (by decide)) hk (fun _ h => h.2)) (fun _ h => h.1)); have n1_ := aM (KeepBut.blk hk (g' := gb167) (o := .cells #[.slice none 0 0, .int .i64 0] 28 (0, 0)) (by (with_reducible repeat (first | refine bN ?_ _ | refine bD ?_ | refine bA ?_ _)); exact BK167.out) NB167_0.out (by simp)); have n2_ := aM (KeepBut.blk hk (g' := gb174) (o := .cells #[u175000, .int .i64 0] 28 (0, 0)) (by (with_reducible repeat (first | refine bN ?_ _ | refine bD ?_ | refine bA ?_ _)); exact BK174.out) NB174_0.out (by simp)); have n3_ := aM (KeepBut.trans (by repeat (first | (with_reducible first | exact HK.out | apply KeepBut.set_ | apply keep_drewN | apply keep_drew | apply keep_alloc | refine keep_far ?_ GW167.out _ | refine keep_far ?_ GW174.out _) | exact HK.out)) hk (.inl rfl)); have n4_ := aM (hb); have n5_ := aM (hi); clear HO_175000; clear BK167; clear BK174; clear HK; clear HB; clear HI0; have HO_175000 := n0_; have BK167 := n1_; have BK174 := n2_; have HK := n3_; have HB := n4_; have HI0 := n5_; clear n0_ n1_ n2_ n3_ n4_ n5_; (try clear hb); (try clear hb2); (try clear hk); (try clear hi); have hnb85 := NB174_167.out; have hnc85 := NB167_174.out; have hnb86 := NB174_0.out; have hnc86 := NB0_174.out; have hcz87_0 : w84.cell? ⟨gb174, 0, none⟩ = some (u175000) := (bC BK174.out 0).trans rfl; have hcz87_1 : w84.cell? ⟨gb174, 1, none⟩ = some (.int .i64 0) := (bC BK174.out 1).trans rfl; have hfz87_0 := bF BK174.out 0; have hfz87_1 := bF BK174.out 1) | ((with_reducible refine gate_callee (f := 85) rfl ?_); refine goesL_ (some 39) rfl rfl Try.func85 (by kernel_rfl) rfl #[.pointer (some ⟨g, 0, none⟩), .int .i64 60] rfl (by (try simp only [List.map_toArray, List.map_cons, List.map_nil]); first | done | rfl | (simp only [List.length_drop, List.length_take]; rfl)) ?_; (with_reducible refine (spec_l1Cur_pick.calls g s0_0 t182 t183 60 t184 t185 t186 w0 _ ?side1 ?side2 A22.out).mono ?_); (case side1 => repeat (first | (with_reducible first | exact HI0.out | apply IsS78.alloc | apply IsS78.drewN | apply IsS78.drew | apply IsS78.set_1 | apply IsS78.set_2 | refine IsS78.far ?_ NB0_167.out _ | refine IsS78.far ?_ NB0_174.out _) | exact HI0.out)); (case side2 => repeat (first | (with_reducible first | exact HB.out | apply eA | apply eN | apply eD | refine eS ?_ (IsS78.ge HI0.out) | refine eS ?_ GE167.out | refine eS ?_ GE174.out) | exact HB.out)); rintro e w88 ⟨rfl, hi, hb, hk⟩; refine ⟨_, rfl, ?_⟩; have n0_ := aM (rM (Kd.R_keep (IsS78.apart (show IsS78 w0 _ g s0_0 t182 t183 from by first | ((repeat (first | (with_reducible first | exact HI0.out | apply IsS78.alloc | apply IsS78.drewN | apply IsS78.drew | apply IsS78.set_1 | apply IsS78.set_2 | refine IsS78.far ?_ NB0_167.out _ | refine IsS78.far ?_ NB0_174.out _) | exact HI0.out)); done) | (simp only [Int.add_zero]; (repeat (first | (with_reducible first | exact HI0.out | apply IsS78.alloc | apply IsS78.drewN | apply IsS78.drew | apply IsS78.set_1 | apply IsS78.set_2 | refine IsS78.far ?_ NB0_167.out _ | refine IsS78.far ?_ NB0_174.out _) | exact HI0.out)))) (by (with_reducible repeat (first | apply rA | apply rN | apply rD)); exact (rM (Kd.R_far (p := ⟨gb174, 1, none⟩) (Kd.R_types HO_175000.out BK174.out (by decide)) (fun _ hk => hk.2) (.int .i64 (wrap64 ((wrap64 (t181 - t171)) - 1)))) (fun _ h_ => h_.1))) (by decide)) hk (fun _ h => h.2)) (fun _ h => h.1)); have n1_ := aM (KeepBut.blk hk (g' := gb167) (o := .cells #[.slice none 0 0, .int .i64 0] 28 (0, 0)) (by (with_reducible repeat (first | refine bN ?_ _ | refine bD ?_ | refine bA ?_ _)); refine blk_far ?_ NB167_174.out _; (with_reducible repeat (first | refine bN ?_ _ | refine bD ?_ | refine bA ?_ _)); exact BK167.out) NB167_0.out (by simp)); have n2_ := aM (KeepBut.blk hk (g' := gb174) (o := .cells #[u175000, .int .i64 (wrap64 ((wrap64 (t181 - t171)) - 1))] 28 (0, 0)) (by (with_reducible repeat (first | refine bN ?_ _ | refine bD ?_ | refine bA ?_ _)); refine blk_put (cs := #[u175000, .int .i64 0]) ?_ 1 _ rfl; (with_reducible repeat (first | refine bN ?_ _ | refine bD ?_ | refine bA ?_ _)); exact BK174.out) NB174_0.out (by simp)); have n3_ := aM (KeepBut.trans (by repeat (first | (with_reducible first | exact HK.out | apply KeepBut.set_ | apply keep_drewN | apply keep_drew | apply keep_alloc | refine keep_far ?_ GW167.out _ | refine keep_far ?_ GW174.out _) | exact HK.out)) hk (.inl rfl)); have n4_ := aM (hb); have n5_ := aM (hi); clear HO_175000; clear BK167; clear BK174; clear HK; clear HB; clear HI0; have HO_175000 := n0_; have BK167 := n1_; have BK174 := n2_; have HK := n3_; have HB := n4_; have HI0 := n5_; clear n0_ n1_ n2_ n3_ n4_ n5_; (try clear hb); (try clear hb2); (try clear hk); (try clear hi); have hcz89_0 : w88.cell? ⟨gb174, 0, none⟩ = some (u175000) := (bC BK174.out 0).trans rfl; have hcz89_1 : w88.cell? ⟨gb174, 1, none⟩ = some (.int .i64 (wrap64 ((wrap64 (t181 - t171)) - 1))) := (bC BK174.out 1).trans rfl; have hfz89_0 := bF BK174.out 0; have hfz89_1 := bF BK174.out 1; obtain ⟨Ao90, co90, eo90⟩ := Kd.R_slice HO_175000.out; subst eo90; have hnb91 := NB167_0.out; have hnc91 := NB0_167.out; have hcz92_0 : w88.cell? ⟨gb167, 0, none⟩ = some (.slice none 0 0) := (bC BK167.out 0).trans rfl; have hcz92_1 : w88.cell? ⟨gb167, 1, none⟩ = some (.int .i64 0) := (bC BK167.out 1).trans rfl; have hfz92_0 := bF BK167.out 0; have hfz92_1 := bF BK167.out 1))
       refine bodyPost_ret (results_cell_row rfl _ _ gb167 28 #[.slice Ao90 x175000_1.length co90, .int .i64 (wrap64 ((wrap64 (t181 - t171)) - 1))] (0, 0) _ rfl (by (with_reducible repeat (first | refine bN ?_ _ | refine bD ?_ | refine bA ?_ _)); refine blk_put (cs := #[.slice Ao90 x175000_1.length co90, .int .i64 0]) ?_ 1 _ rfl; (with_reducible repeat (first | refine bN ?_ _ | refine bD ?_ | refine bA ?_ _)); refine blk_put (cs := #[.slice none 0 0, .int .i64 0]) ?_ 0 _ rfl; (with_reducible repeat (first | refine bN ?_ _ | refine bD ?_ | refine bA ?_ _)); exact BK167.out) Try.underlying28 rfl (by kernel_rfl)) rfl ?_
       exact ⟨_, by first | rfl | (simp [errW_none, errW_some] <;> rfl) | (simp [*, errW_none, errW_some] <;> rfl), by (with_reducible repeat (first | apply rA | apply rN | apply rD)); exact rM (Kd.R_far (p := ⟨gb167, 1, none⟩) (Kd.R_far (p := ⟨gb167, 0, none⟩) (Kd.R_types HO_175000.out BK167.out (by decide)) (fun _ hk => hk.2) (.slice Ao90 x175000_1.length co90)) (fun _ hk => hk.2) (.int .i64 (wrap64 ((wrap64 (t181 - t171)) - 1)))) (fun _ hk => trivial), by first | ((repeat (first | (with_reducible first | exact HI0.out | apply IsS78.alloc | apply IsS78.drewN | apply IsS78.drew | apply IsS78.set_1 | apply IsS78.set_2 | refine IsS78.far ?_ NB0_167.out _ | refine IsS78.far ?_ NB0_174.out _) | exact HI0.out)); done) | (simp only [Int.add_zero]; (repeat (first | (with_reducible first | exact HI0.out | apply IsS78.alloc | apply IsS78.drewN | apply IsS78.drew | apply IsS78.set_1 | apply IsS78.set_2 | refine IsS78.far ?_ NB0_167.out _ | refine IsS78.far ?_ NB0_174.out _) | exact HI0.out))), by repeat (first | (with_reducible first | exact HB.out | apply eA | apply eN | apply eD | refine eS ?_ (IsS78.ge HI0.out) | refine eS ?_ GE167.out | refine eS ?_ GE174.out) | exact HB.out), by repeat (first | (with_reducible first | exact HK.out | apply KeepBut.set_ | apply keep_drewN | apply keep_drew | apply keep_alloc | refine keep_far ?_ GW167.out _ | refine keep_far ?_ GW174.out _) | exact HK.out)⟩
def spec_l1In.f (a0 : Int) (a1 : Int) (a2 : Int) : Option (Bool) := if a0 ≥ a1 then (some (decide (a0 ≤ a2))) else (some false)
set_option maxHeartbeats 8000000 in
set_option maxRecDepth 100000 in
theorem spec_l1In.calls (a0 : Int) (a1 : Int) (a2 : Int) (r : Bool) (w : World) (h : spec_l1In.f a0 a1 a2 = some r) :
  Calls Try.prog 111 #[.int .i64 a0, .int .i64 a1, .int .i64 a2] w fun e w' => e = .returned (.bool r) ∧ Drawn0 w w' := by
 have H : (if a0 ≥ a1 then (some (decide (a0 ≤ a2))) else (some false)) = some r := h
 clear h
 by_cases c4 : a0 ≥ a1
 ·
  rw [if_pos c4] at H
  have c4b0 : decide (a1 ≤ a0) = true := decide_eq_true c4
  clear c4
  obtain rfl := Option.some.inj H
  go_enter Try.func111, Try.ntmps111
  go_wp2
  go_ret
  exact ⟨by first | rfl | (simp; done) | (simp [*]; done), by repeat (first | exact Drawn0.refl _ | apply Drawn0.step)⟩
 ·
  rw [if_neg c4] at H
  have c4b0 : decide (a1 ≤ a0) = false := decide_eq_false c4
  clear c4
  obtain rfl := Option.some.inj H
  go_enter Try.func111, Try.ntmps111
  go_wp2
  go_ret
  exact ⟨by first | rfl | (simp; done) | (simp [*]; done), by repeat (first | exact Drawn0.refl _ | apply Drawn0.step)⟩
end Go.Proofs.Ytmfmgnpefjmieaa.PFnChow
