-- Laid for this claim by a program of the session's own (wip/tool/myprint.py).
import Derived.Test.YtkgekmpnbhomgaaMFnBitsx0
import Derived.Test.YtkgekmpnbhomgaaMFnBitsx1
namespace Go.Proofs.Ytkgekmpnbhomgaa.PFnBits
open Go.RowKit Go.Proofs.YtkgekmpnbhomgaaW.PrintWords Go.Proofs.YtkgekmpnbhomgaaW.PrintLast Go.Proofs.YtkgekmpnbhomgaaW.PrintMore
attribute [local go_sem] max2_int min2_int max_two min_two max_three min_three max_four min_four
set_option linter.unusedVariables false
set_option linter.unusedSimpArgs false
def spec_l1Cur_plane.l0 : Nat → Int → Int → Int → List Int → Int → Int → List Int → Int → Option (List Int × Int × Int × Int)
 | 0, _, _, _, _, _, _, _, _ => none
 | k + 1, x1, x6, x7, x1000, x1001, x1002, x120000, x120001 => if x7 < x1 then ((spec_l1Cur_pick.f x1000 x1001 x1002 (wrap64 ((wrap64 (2 * x6)) + 1))).bind fun bt120 => (if x120000.length < 17592186044416 then (spec_l1Cur_plane.l0 k x1 x6 (wrap64 (x7 + 1)) x1000 bt120.2.1 bt120.2.2 (x120000 ++ [wrap64 (bt120.1 - x6)]) x120001) else (none))) else ((spec_l1Cur_pick.f x1000 x1001 x1002 (wrap64 ((wrap64 (2 * x6)) + 3))).bind fun bt126 => ((spec_l1Cur_pick.f x1000 bt126.2.1 bt126.2.2 60).bind fun bt129 => (if bt129.1 = 0 then ((spec_l1Cur_among.f x1000 bt129.2.1 bt129.2.2 (([99, (-99), 100, (-100), 4611686018427387904] : List Int))).bind fun bt135 => (some (x120000, bt135.1, bt135.2.1, bt135.2.2))) else (if bt129.1 = 1 then (if x1 > 0 then ((spec_l1Cur_pick.f x1000 bt129.2.1 bt129.2.2 x1).bind fun bt138 => ((spec_l1Cur_among.f x1000 bt138.2.1 bt138.2.2 (([99, (-99), 100, (-100)] : List Int))).bind fun bt144 => (if 0 ≤ bt138.1 then (if bt138.1 < (x120000.length : Int) then (some ((x120000.set (bt138.1 : Int).toNat bt144.1), wrap64 ((wrap64 (bt126.1 - x6)) - 1), bt144.2.1, bt144.2.2)) else (none)) else (none)))) else (some (x120000, wrap64 ((wrap64 (bt126.1 - x6)) - 1), bt129.2.1, bt129.2.2))) else (if bt129.1 = 2 then (if x120000.length < 17592186044416 then (some ((x120000 ++ [1]), wrap64 ((wrap64 (bt126.1 - x6)) - 1), bt129.2.1, bt129.2.2)) else (none)) else (some (x120000, wrap64 ((wrap64 (bt126.1 - x6)) - 1), bt129.2.1, bt129.2.2)))))))
def spec_l1Cur_plane.f (k : Nat) (s0_0 : List Int) (s0_1 : Int) (s0_2 : Int) (a1 : Int) : Option (List Int × Int × Int × Int) := (spec_l1Cur_among.f s0_0 s0_1 s0_2 (([1, 3, 5, 20] : List Int))).bind fun bt116 => (spec_l1Cur_plane.l0 k a1 bt116.1 0 s0_0 bt116.2.1 bt116.2.2 ([] : List Int) 0)
theorem spec_l1Cur_plane.mono_l : ∀ k, (∀ y0 y1 y2 y3 y4 y5 y6 y7, LeO (spec_l1Cur_plane.l0 k y0 y1 y2 y3 y4 y5 y6 y7) (spec_l1Cur_plane.l0 (k + 1) y0 y1 y2 y3 y4 y5 y6 y7))
 | 0 => fun _ _ _ _ _ _ _ _ r h => by simp [spec_l1Cur_plane.l0] at h
 | k + 1 => by
  have ih0 := spec_l1Cur_plane.mono_l k
  ·
   intro y0 y1 y2 y3 y4 y5 y6 y7
   unfold spec_l1Cur_plane.l0
   repeat' first
   | (with_reducible exact ih0 _ _ _ _ _ _ _ _)
   | (with_reducible exact LeO.refl _)
   | (with_reducible exact LeO.none _)
   | (with_reducible refine LeO.ite ?_ ?_)
   | (with_reducible refine LeO.bind ?_ (fun _ => ?_))
   | exact ih0 _ _ _ _ _ _ _ _
   | exact LeO.none _
   | refine LeO.ite ?_ ?_
   | refine LeO.bind ?_ (fun _ => ?_)
theorem spec_l1Cur_plane.mono : ∀ a0 a1 a2 a3 k, LeO (spec_l1Cur_plane.f k a0 a1 a2 a3) (spec_l1Cur_plane.f (k + 1) a0 a1 a2 a3) := by
 intro a0 a1 a2 a3 k
 have ih0 := spec_l1Cur_plane.mono_l k
 unfold spec_l1Cur_plane.f
 repeat' first
   | (with_reducible exact ih0 _ _ _ _ _ _ _ _)
   | (with_reducible exact LeO.refl _)
   | (with_reducible exact LeO.none _)
   | (with_reducible refine LeO.ite ?_ ?_)
   | (with_reducible refine LeO.bind ?_ (fun _ => ?_))
   | exact ih0 _ _ _ _ _ _ _ _
   | exact LeO.none _
   | refine LeO.ite ?_ ?_
   | refine LeO.bind ?_ (fun _ => ?_)
def spec_l1Cur_plane.T5 : Bool × List (List Nat × List Nat) := (true, [([], []), ([0], [0]), ([], []), ([], []), ([3], [3]), ([4], [4]), ([2, 5], [2, 5]), ([], []), ([6, 7], [6, 7]), ([8], [8]), ([1, 9, 6], [1, 9]), ([0, 1, 2, 3, 4, 5, 6, 7, 8, 9, 10], []), ([11, 10, 10, 0, 1, 2, 3, 4, 5, 6, 7, 8, 9, 10], [10, 11])])
def spec_l1Cur_plane.B5 : List Nat := [0, 1, 0, 0, 8, 24, 60, 0, 252, 508, 1023, 2047, 4095]
theorem spec_l1Cur_plane.tab5 : rtab .any (opsOf Try.f105 5) = spec_l1Cur_plane.T5 := by kernel_rfl
theorem spec_l1Cur_plane.bits5 : waitsOk spec_l1Cur_plane.T5.2 spec_l1Cur_plane.B5 = true := by kernel_rfl
def spec_l1Cur_plane.T12 : Bool × List (List Nat × List Nat) := (true, [([], []), ([0], [0]), ([], []), ([], []), ([2, 3], [2, 3]), ([], []), ([], []), ([5, 6, 4], [5, 6]), ([1, 4, 0, 1, 2, 3, 4, 5, 6, 7], [1, 4]), ([8, 7, 7, 0, 1, 2, 3, 4, 5, 6, 7], [7, 8])])
def spec_l1Cur_plane.B12 : List Nat := [0, 1, 0, 0, 12, 0, 0, 124, 255, 511]
theorem spec_l1Cur_plane.tab12 : rtab .any (opsOf Try.f105 12) = spec_l1Cur_plane.T12 := by kernel_rfl
theorem spec_l1Cur_plane.bits12 : waitsOk spec_l1Cur_plane.T12.2 spec_l1Cur_plane.B12 = true := by kernel_rfl
set_option maxHeartbeats 8000000 in
set_option maxRecDepth 100000 in
theorem spec_l1Cur_plane.calls (k : Nat) (g : Nat) (s0_0 : List Int) (s0_1 : Int) (s0_2 : Int) (a1 : Int) (r1 : List Int) (r2 : Int) (r3 : Int) (r4 : Int) (w0 w : World) (hI : IsS75 w0 w g s0_0 s0_1 s0_2) (hB : Below w0.heap.size w0 w) (h : spec_l1Cur_plane.f k s0_0 s0_1 s0_2 a1 = some (r1, r2, r3, r4)) :
  Calls Try.prog 105 #[.pointer (some ⟨g, 0, none⟩), .int .i64 a1] w fun e w' => ∃ v0_ : Value, e = .returned (.agg #[v0_, .int .i64 r2]) ∧ Kd.R (Kd.int .i64) 3 w' w.heap.size (fun _ => True) v0_ r1 ∧ IsS75 w0 w' g s0_0 r3 r4 ∧ Below w0.heap.size w0 w' ∧ KeepBut w w' g none := by
 have hu26 := Try.underlying26
 have HI0 := aM hI
 have HK := aM (KeepBut.refl w g none)
 have HL := aM hB.size
 clear hI
 have HW0 := aM hB.size
 have HB := aM hB
 clear hB
 have H : ((spec_l1Cur_among.f s0_0 s0_1 s0_2 (([1, 3, 5, 20] : List Int))).bind fun bt116 => (spec_l1Cur_plane.l0 k a1 bt116.1 0 s0_0 bt116.2.1 bt116.2.2 ([] : List Int) 0)) = some (r1, r2, r3, r4) := h
 clear h
 obtain ⟨y113, hy113⟩ : ∃ y_ : List Int, y_ = (([1, 3, 5, 20] : List Int)) := ⟨_, rfl⟩
 replace H : ((spec_l1Cur_among.f s0_0 s0_1 s0_2 y113).bind fun bt116 => (spec_l1Cur_plane.l0 k a1 bt116.1 0 s0_0 bt116.2.1 bt116.2.2 ([] : List Int) 0)) = some (r1, r2, r3, r4) := by first | (rw [hy113]; with_reducible exact H) | (have H2_ := (Option.bind_some _ _).symm.trans H; rw [hy113]; with_reducible exact H2_) | (have H2_ := (Option.bind_some _ _).symm.trans H; with_reducible exact H2_) | with_reducible exact H | (rw [hy113]; exact H) | exact H
 have Ny113 := aM hy113
 clear hy113
 replace H := oB.mp H
 obtain ⟨⟨t116, t117, t118⟩, A30, H⟩ := H
 replace H : (spec_l1Cur_plane.l0 k a1 t116 0 s0_0 t117 t118 ([] : List Int) 0) = some (r1, r2, r3, r4) := H
 have A3 := aM A30
 clear A30
 have H' := aM H
 clear H
 go_enter Try.func105, Try.ntmps105
 go_wp2_with (first | ((with_reducible refine gate_dst (N := 4) rfl ?_); refine box_event ?hg (N := 4) ?hd (cs := #[.slice none 0 0, .int .i64 0]) (t := 26) ?hr ?_; (case hd => rfl); (case hg => rfl); (case hr => first | (go_simp; done) | (go_simp; rfl)); intro gb112 hg w4 hbox hb; replace HB := aM (below_step (xG1 HB.out (IsS75.ge HI0.out)) hb); have BK112 := aM (hbox); have GW112 := aM ((by rw [hg]; exact (keep_size (w := w) (g := g) (row := none) (xK0 HK.out)) : w.heap.size ≤ gb112)); have GE112 := aM ((Nat.le_trans HW0.out (by rw [hg]; exact (keep_size (w := w) (g := g) (row := none) (xK0 HK.out)) : w.heap.size ≤ gb112) : w0.heap.size ≤ gb112)); replace HK := aM (KeepBut.trans (xK0 HK.out) (KeepBut.of_below hb g none) (.inl rfl)); have NB0_112 := aM ((by rw [hg]; exact Nat.ne_of_lt (IsS75.lt (show IsS75 w0 _ g s0_0 s0_1 s0_2 from IsS75.x0 HI0.out)) : g ≠ gb112)); have NB112_0 := aM ((by rw [hg]; exact Nat.ne_of_gt (IsS75.lt (show IsS75 w0 _ g s0_0 s0_1 s0_2 from IsS75.x0 HI0.out)) : gb112 ≠ g)); replace HI0 := aM (IsS75.below (IsS75.x0 HI0.out) hb); clear hb hbox hg) | ((with_reducible refine gate_dst (N := 10) rfl ?_); refine Kd.R_lit (Kd.int .i64) _ 3 ?hg (N := 10) ?hd (xs := ([1, 3, 5, 20] : List Int)) (inner := [.int .i64 1, .int .i64 3, .int .i64 5, .int .i64 20]) (ok := fun _ => True) (okp := fun _ => True) ?hr ?hp (fun _ hk => hk) trivial (Below.refl _ _) (Nat.le_refl _) (by simp) ?_; (case hd => rfl); (case hg => rfl); (case hr => first | (go_simp; done) | (go_simp; rfl)); (case hp => exact (Reps.one (show Kd.M (Kd.int .i64) _ _ _ 1 [.int .i64 1] from rfl) (Reps.one (show Kd.M (Kd.int .i64) _ _ _ 3 [.int .i64 3] from rfl) (Reps.one (show Kd.M (Kd.int .i64) _ _ _ 5 [.int .i64 5] from rfl) (Reps.one (show Kd.M (Kd.int .i64) _ _ _ 20 [.int .i64 20] from rfl) (Reps.none _ _)))))); intro v114 w5 ho6 hb hg_ hnew_; clear hg_ hnew_; (first | rw [← Ny113.out] at ho6 | (simp only [Int.reduceToNat] at ho6; rw [← Ny113.out] at ho6)); have HO115 := aM (Kd.R_lower ho6 (keep_size (w := w) (g := g) (row := none) (xK1 HK.out GW112.out))); replace BK112 := aM (bB (g := gb112) (o := .cells #[.slice none 0 0, .int .i64 0] 26 (0, 0)) (xB BK112.out) hb); replace HK := aM (KeepBut.trans (xK1 HK.out GW112.out) (KeepBut.of_below hb g none) (.inl rfl)); replace HB := aM (below_step (xG2 HB.out (IsS75.ge HI0.out) GE112.out) hb); replace HI0 := aM (IsS75.below (IsS75.x1 HI0.out NB0_112.out) hb); clear hb ho6; obtain ⟨Ao7, co7, eo7⟩ := Kd.R_slice HO115.out; subst eo7) | ((with_reducible refine gate_callee (f := 57) rfl ?_); refine goesL_ (some 11) rfl rfl Try.func57 (by kernel_rfl) rfl #[.pointer (some ⟨g, 0, none⟩), .slice Ao7 y113.length co7] rfl xL ?_; (with_reducible refine (spec_l1Cur_among.calls g s0_0 s0_1 s0_2 _ _ y113 t116 t117 t118 w0 _ ?side1 ?side2 ?side3 ?side4 ?side5 A3.out).mono ?_); (case side1 => exact IsS75.x1 HI0.out NB0_112.out); (case side2 => exact xG2 HB.out (IsS75.ge HI0.out) GE112.out); (case side3 => exact xC (Kd.R_reads' HO115.out).2.2); (case side4 => exact (Kd.R_reads' HO115.out).2.1); (case side5 => exact far_slice (IsS75.own_ne HI0.out HO115.out (by decide))); rintro e w8 ⟨rfl, hi, hb, hk⟩; refine ⟨_, rfl, ?_⟩; replace BK112 := aM (KeepBut.blk hk (g' := gb112) (o := .cells #[.slice none 0 0, .int .i64 0] 26 (0, 0)) (xB BK112.out) NB112_0.out (by simp)); replace HO115 := aM (rM (Kd.R_keep (IsS75.apart (show IsS75 w0 _ g s0_0 s0_1 s0_2 from IsS75.x1 HI0.out NB0_112.out) (xR HO115.out) (by decide)) hk (fun _ h => h.2)) (fun _ h => h.1)); replace HK := aM (KeepBut.trans (xK1 HK.out GW112.out) hk (.inl rfl)); replace HB := aM (hb); replace HI0 := aM (hi); (try clear hb; try clear hb2; try clear hk; try clear hi)) | ((with_reducible refine gate_dst (N := 5) rfl ?_); refine box_event ?hg (N := 5) ?hd (cs := #[.slice none 0 0, .int .i64 0]) (t := 26) ?hr ?_; (case hd => rfl); (case hg => rfl); (case hr => first | (go_simp; done) | (go_simp; rfl)); intro gb119 hg w9 hbox hb; replace HO115 := aM (Kd.R_below (xR HO115.out) hb); replace HB := aM (below_step (xG2 HB.out (IsS75.ge HI0.out) GE112.out) hb); have BK119 := aM (hbox); have GW119 := aM ((by rw [hg]; exact (keep_size (w := w) (g := g) (row := none) (xK1 HK.out GW112.out)) : w.heap.size ≤ gb119)); have GE119 := aM ((Nat.le_trans HW0.out (by rw [hg]; exact (keep_size (w := w) (g := g) (row := none) (xK1 HK.out GW112.out)) : w.heap.size ≤ gb119) : w0.heap.size ≤ gb119)); replace HK := aM (KeepBut.trans (xK1 HK.out GW112.out) (KeepBut.of_below hb g none) (.inl rfl)); have NB112_119 := aM ((by rw [hg]; exact Nat.ne_of_lt (blk_lt (g := gb112) (o := .cells #[.slice none 0 0, .int .i64 0] 26 (0, 0)) (xB BK112.out)) : gb112 ≠ gb119)); have NB119_112 := aM ((by rw [hg]; exact Nat.ne_of_gt (blk_lt (g := gb112) (o := .cells #[.slice none 0 0, .int .i64 0] 26 (0, 0)) (xB BK112.out)) : gb119 ≠ gb112)); replace BK112 := aM (bB (g := gb112) (o := .cells #[.slice none 0 0, .int .i64 0] 26 (0, 0)) (xB BK112.out) hb); have NB0_119 := aM ((by rw [hg]; exact Nat.ne_of_lt (IsS75.lt (show IsS75 w0 _ g s0_0 t117 t118 from IsS75.x1 HI0.out NB0_112.out)) : g ≠ gb119)); have NB119_0 := aM ((by rw [hg]; exact Nat.ne_of_gt (IsS75.lt (show IsS75 w0 _ g s0_0 t117 t118 from IsS75.x1 HI0.out NB0_112.out)) : gb119 ≠ g)); replace HI0 := aM (IsS75.below (IsS75.x1 HI0.out NB0_112.out) hb); clear hb hbox hg; have hnb10 := NB119_112.out; have hnc10 := NB112_119.out; have hnb11 := NB119_0.out; have hnc11 := NB0_119.out; have hcz12_0 : w9.cell? ⟨gb119, 0, none⟩ = some (.slice none 0 0) := (bC BK119.out 0).trans rfl; have hcz12_1 : w9.cell? ⟨gb119, 1, none⟩ = some (.int .i64 0) := (bC BK119.out 1).trans rfl; have hfz12_0 := bF BK119.out 0; have hfz12_1 := bF BK119.out 1))
 go_loopg [7] k (fun kq v7 w' => ∃ (x7_1 : Int) (x1001_1 : Int) (x1002_1 : Int) (x120000_1 : List Int) (u120000 : Value), v7 = .int .i64 x7_1 ∧ Aside0 (spec_l1Cur_plane.l0 kq a1 t116 x7_1 s0_0 x1001_1 x1002_1 x120000_1 0 = some (r1, r2, r3, r4)) ∧ Aside0 (kq ≤ k) ∧ Aside0 (Kd.R (Kd.int .i64) 3 w' w.heap.size (fun _ => True) u120000 x120000_1) ∧ Aside0 (w'.heap[gb112]? = some (.cells #[(.slice none 0 0), .int .i64 0] 26 (0, 0))) ∧ Aside0 (w'.heap[gb119]? = some (.cells #[u120000, .int .i64 0] 26 (0, 0))) ∧ Aside0 (IsS75 w0 w' g s0_0 x1001_1 x1002_1) ∧ Aside0 (KeepBut w w' g none) ∧ Aside0 (Below w0.heap.size w0 w'))
 case atStart => exact ⟨(0), (t117), (t118), (([] : List Int)), (.slice none 0 0), (by first | rfl | (simp; done) | (simp [*]; done)), H', ⟨Nat.le_refl _⟩, ⟨by first | exact Kd.R_nil _ _ _ _ _ | exact Kd.N_nil _ _ _ _ _ | exact Kd.V_nil _ _ _ _ _ | exact Kd.Q_nil _ _ _ _ _ | exact Kd.S_nil _ _ _ _ _⟩, ⟨by (with_reducible repeat (first | refine bN ?_ _ | refine bD ?_ | refine bA ?_ _)); refine blk_far ?_ NB112_119.out _; (with_reducible repeat (first | refine bN ?_ _ | refine bD ?_ | refine bA ?_ _)); refine blk_far ?_ NB112_119.out _; (with_reducible repeat (first | refine bN ?_ _ | refine bD ?_ | refine bA ?_ _)); exact BK112.out⟩, ⟨by (with_reducible repeat (first | refine bN ?_ _ | refine bD ?_ | refine bA ?_ _)); refine blk_put (cs := #[.slice none 0 0, .int .i64 0]) ?_ 1 _ rfl; (with_reducible repeat (first | refine bN ?_ _ | refine bD ?_ | refine bA ?_ _)); refine blk_put (cs := #[.slice none 0 0, .int .i64 0]) ?_ 0 _ rfl; (with_reducible repeat (first | refine bN ?_ _ | refine bD ?_ | refine bA ?_ _)); exact BK119.out⟩, ⟨IsS75.x2 HI0.out NB0_112.out NB0_119.out⟩, ⟨xK2 HK.out GW112.out GW119.out⟩, ⟨xG3 HB.out (IsS75.ge HI0.out) GE112.out GE119.out⟩⟩
 case round =>
  clear H'
  try clear c1; try clear p2; try clear c5; try clear c10; try clear c11; try clear hcz12_0; try clear hcz12_1; try clear hfz12_0; try clear hfz12_1
  obtain ⟨x7_1, x1001_1, x1002_1, x120000_1, u120000, rfl, HA, HK1, HO_120000, BK112, BK119, HI0, HK, HB⟩ := hrel
  cases gk with
  | zero => exact absurd HA.out (by simp [spec_l1Cur_plane.l0])
  | succ k1 =>
   have H := HA.out
   clear HA
   simp only [spec_l1Cur_plane.l0] at H
   by_cases c13 : x7_1 < a1
   ·
    rw [if_pos c13] at H
    have c13b0 : decide (x7_1 < a1) = true := decide_eq_true c13
    clear c13
    replace H := oB.mp H
    obtain ⟨⟨t120, t121, t122⟩, A140, H⟩ := H
    replace H : (if x120000_1.length < 17592186044416 then (spec_l1Cur_plane.l0 k1 a1 t116 (wrap64 (x7_1 + 1)) s0_0 t121 t122 (x120000_1 ++ [wrap64 (t120 - t116)]) 0) else (none)) = some (r1, r2, r3, r4) := H
    have A14 := aM A140
    clear A140
    by_cases c15 : x120000_1.length < 17592186044416
    ·
     rw [if_pos c15] at H
     have LMc15 := aM c15
     clear c15
     obtain ⟨y123, hy123⟩ : ∃ y_ : List Int, y_ = (x120000_1 ++ [wrap64 (t120 - t116)]) := ⟨_, rfl⟩
     replace H : (spec_l1Cur_plane.l0 k1 a1 t116 (wrap64 (x7_1 + 1)) s0_0 t121 t122 y123 0) = some (r1, r2, r3, r4) := by first | (rw [hy123]; with_reducible exact H) | (have H2_ := (Option.bind_some _ _).symm.trans H; rw [hy123]; with_reducible exact H2_) | (have H2_ := (Option.bind_some _ _).symm.trans H; with_reducible exact H2_) | with_reducible exact H | (rw [hy123]; exact H) | exact H
     have Ny123 := aM hy123
     clear hy123
     have H' := aM H
     clear H
     try go_wp2
     have n0_ := aM (rD HO_120000.out)
     have n1_ := aM (bD BK112.out)
     have n2_ := aM (bD BK119.out)
     have n3_ := aM (IsS75.drew HI0.out)
     have n4_ := aM (keep_drew HK.out)
     have n5_ := aM (eD HB.out)
     clear HO_120000 BK112 BK119 HI0 HK HB
     have HO_120000 := n0_
     have BK112 := n1_
     have BK119 := n2_
     have HI0 := n3_
     have HK := n4_
     have HB := n5_
     clear n0_ n1_ n2_ n3_ n4_ n5_
     refine start_ (n := 13) (S := fun w' => w'.cell? ⟨gb119, 0, none⟩ = some (u120000) ∧ w'.cell? ⟨gb119, 1, none⟩ = some (.int .i64 0)) (ds := [12]) #[false, false, false, false, false, false, false, false, false, false, false, false, false] (by kernel_rfl) rfl rfl ⟨(bC BK119.out 0).trans rfl, (bC BK119.out 1).trans rfl⟩ (fun hHeld => ?_); refine with_tabW spec_l1Cur_plane.tab5 spec_l1Cur_plane.bits5 (fun HT_ HW_ => ?_)
     generalize wr.drew = w16 at HO_120000 BK112 BK119 HI0 HK HB hHeld ⊢
     refine pure_ (i := 0) (N := some 17) (v := ?_) (a' := ?_) #[true, false, false, false, false, false, false, false, false, false, false, false, false] rfl rfl (any_of HT_.out (by kernel_rfl)) (fun _ _ _ h => h) (Or.inl ⟨by rfl, ?_⟩) ?_ ?_
     rotate_left
     ·
      intro w'
      go_simp
      with_reducible rfl
     rotate_left
     ·
      simp only [Act.put, sA, sZ, sU, i64_w, i32_w]
      rfl
     refine pure_ (i := 2) (N := some 19) (v := ?_) (a' := ?_) #[true, false, true, false, false, false, false, false, false, false, false, false, false] rfl rfl (any_of HT_.out (by kernel_rfl)) (fun _ _ _ h => h) (Or.inl ⟨by rfl, ?_⟩) ?_ ?_
     rotate_left
     ·
      intro w'
      go_simp
      with_reducible rfl
     rotate_left
     ·
      simp only [Act.put, sA, sZ, sU, i64_w, i32_w]
      rfl
     refine pure_ (i := 3) (N := some 20) (v := ?_) (a' := ?_) #[true, false, true, true, false, false, false, false, false, false, false, false, false] rfl rfl (any_of HT_.out (by kernel_rfl)) (fun _ _ _ h => h) (Or.inl ⟨by rfl, ?_⟩) ?_ ?_
     rotate_left
     ·
      intro w'
      go_simp
      with_reducible rfl
     rotate_left
     ·
      simp only [Act.put, sA, sZ, sU, i64_w, i32_w]
      rfl
     refine pure_ (i := 4) (N := some 21) (v := ?_) (a' := ?_) #[true, false, true, true, true, false, false, false, false, false, false, false, false] rfl rfl (any_of HT_.out (by kernel_rfl)) (fun _ _ _ h => h) (Or.inl ⟨by rfl, ?_⟩) ?_ ?_
     rotate_left
     ·
      intro w'
      go_simp
      with_reducible rfl
     rotate_left
     ·
      simp only [Act.put, sA, sZ, sU, i64_w, i32_w]
      rfl
     refine pure_ (i := 5) (N := some 22) (v := ?_) (a' := ?_) #[true, false, true, true, true, true, false, false, false, false, false, false, false] rfl rfl (any_of HT_.out (by kernel_rfl)) (fun _ _ _ h => h) (Or.inl ⟨by rfl, ?_⟩) ?_ ?_
     rotate_left
     ·
      intro w'
      go_simp
      with_reducible rfl
     rotate_left
     ·
      simp only [Act.put, sA, sZ, sU, i64_w, i32_w]
      rfl
     refine pure_ (i := 7) (N := some 24) (v := ?_) (a' := ?_) #[true, false, true, true, true, true, false, true, false, false, false, false, false] rfl rfl (any_of HT_.out (by kernel_rfl)) (fun _ _ _ h => h) (Or.inl ⟨by rfl, ?_⟩) ?_ ?_
     rotate_left
     ·
      intro w'
      go_simp
      with_reducible rfl
     rotate_left
     ·
      simp only [Act.put, sA, sZ, sU, i64_w, i32_w]
      rfl
     refine take_ (i := 1) (N := some 18) (v := ?_) (a' := ?_) #[true, true, true, true, true, true, false, true, false, false, false, false, false] rfl rfl (take_ofW HT_.out HW_.out (by kernel_rfl)) (fun _ _ _ h => h) (Or.inl ⟨by rfl, ?_⟩) hHeld ?_ ?_
     rotate_left
     ·
      rintro w' ⟨s0, s1⟩
      first | (go_simp; with_reducible rfl) | (simp only [add_plain] at s0 s1; go_simp; with_reducible rfl)
     rotate_left
     ·
      simp only [Act.put, sA, sZ, sU, i64_w, i32_w]
      rfl
     refine one_ (i := 6) (N := some 23) #[true, true, true, true, true, true, true, true, false, false, false, false, false] rfl rfl (one_of HT_.out (by kernel_rfl)) (by decide) (fun K hK => ?_)
     refine goes_ Try.func108 (by kernel_rfl) rfl #[.pointer (some ⟨g, 0, none⟩), .int .i64 (wrap64 ((wrap64 (2 * t116)) + 1))] (by rfl) rfl rfl xL ?_
     with_reducible refine (spec_l1Cur_pick.calls g s0_0 x1001_1 x1002_1 (wrap64 ((wrap64 (2 * t116)) + 1)) t120 t121 t122 w0 _ ?side1 ?side2 A14.out).mono ?_
     (case side1 => exact IsS75.x2 HI0.out NB0_112.out NB0_119.out)
     (case side2 => exact xG3 HB.out (IsS75.ge HI0.out) GE112.out GE119.out)
     rintro e w17 ⟨rfl, hi, hb, hk⟩
     refine ⟨_, rfl, ?_⟩
     have n0_ := aM (rM (Kd.R_keep (IsS75.apart (show IsS75 w0 _ g s0_0 x1001_1 x1002_1 from IsS75.x2 HI0.out NB0_112.out NB0_119.out) (xR HO_120000.out) (by decide)) hk (fun _ h => h.2)) (fun _ h => h.1))
     have n1_ := aM (KeepBut.blk hk (g' := gb112) (o := .cells #[.slice none 0 0, .int .i64 0] 26 (0, 0)) (xB BK112.out) NB112_0.out (by simp))
     have n2_ := aM (KeepBut.blk hk (g' := gb119) (o := .cells #[u120000, .int .i64 0] 26 (0, 0)) (xB BK119.out) NB119_0.out (by simp))
     have n3_ := aM (KeepBut.trans (xK2 HK.out GW112.out GW119.out) hk (.inl rfl))
     have n4_ := aM (hb)
     have n5_ := aM (hi)
     clear HO_120000 BK112 BK119 HK HB HI0
     have HO_120000 := n0_
     have BK112 := n1_
     have BK119 := n2_
     have HK := n3_
     have HB := n4_
     have HI0 := n5_
     clear n0_ n1_ n2_ n3_ n4_ n5_
     (try clear hb)
     (try clear hb2)
     (try clear hk)
     (try clear hi)
     refine hK.out _ _ ⟨(bC BK119.out 0).trans rfl, (bC BK119.out 1).trans rfl⟩ (fun hHeld => ?_)
     clear hK K
     refine norm_ (a' := ?_) ?_ ?_
     rotate_left
     ·
      show Act.put _ (some 23) _ = _
      simp only [Act.put, sA, sZ, sU, i64_w, i32_w]
      rfl
     refine pure_ (i := 8) (N := some 25) (v := ?_) (a' := ?_) #[true, true, true, true, true, true, true, true, true, false, false, false, false] rfl rfl (any_of HT_.out (by kernel_rfl)) (fun _ _ _ h => h) (Or.inl ⟨by rfl, ?_⟩) ?_ ?_
     rotate_left
     ·
      intro w'
      go_simp
      with_reducible rfl
     rotate_left
     ·
      simp only [Act.put, sA, sZ, sU, i64_w, i32_w]
      rfl
     refine one_ (i := 9) (N := some 26) #[true, true, true, true, true, true, true, true, true, true, false, false, false] rfl rfl (one_of HT_.out (by kernel_rfl)) (by decide) (fun K hK => ?_)
     refine value_ (w1 := ?_) (v := ?_) (by rfl) rfl ?_ ?_
     rotate_left 2
     ·
      go_simp
      constructor
      ·
       rfl
      ·
       rfl
     refine hK.out _ _ ⟨(bC (bA BK119.out _) 0).trans rfl, (bC (bA BK119.out _) 1).trans rfl⟩ (fun hHeld => ?_)
     clear hK K
     refine norm_ (a' := ?_) ?_ ?_
     rotate_left
     ·
      show Act.put _ (some 26) _ = _
      simp only [Act.put, sA, sZ, sU, i64_w, i32_w]
      rfl
     refine one_ (i := 10) (N := some 27) #[true, true, true, true, true, true, true, true, true, true, true, false, false] rfl rfl (one_of HT_.out (by kernel_rfl)) (by decide) (fun K hK => ?_)
     refine Kd.R_append_step (Kd.int .i64) w.heap.size (by rfl) (.tmp 18) (.tmp 26) 24 3 (.int .i64 0) 8 rfl Try.underlying24 info3 rfl (by decide) (by omega) u120000 x120000_1 (wrap64 (t120 - t116)) [.int .i64 (wrap64 (t120 - t116))] (fun _ => True) (fun _ => False) rfl rfl ?aP (fun _ hk => hk.elim) ?aF ?aO (Below.refl _ _) ?aS ?aL ?_
     (case aP => exact rfl)
     (case aF => exact (fun _ _ => trivial))
     (case aO => exact (xR HO_120000.out))
     (case aS => exact (keep_size (w := w) (g := g) (row := none) (xK2 HK.out GW112.out GW119.out)))
     (case aL => have := LMc15.out; omega)
     intro v124 w18 ho hb hg hat
     rw [← Ny123.out] at ho
     have n0_ := aM (blk_grown (g := gb112) (o := .cells #[.slice none 0 0, .int .i64 0] 26 (0, 0)) (xB BK112.out) hg (Kd.R_ne HO_120000.out BK112.out (by decide)))
     have n1_ := aM (blk_grown (g := gb119) (o := .cells #[u120000, .int .i64 0] 26 (0, 0)) (xB BK119.out) hg (Kd.R_ne HO_120000.out BK119.out (by decide)))
     have n2_ := aM (IsS75.grown (IsS75.x2 HI0.out NB0_112.out NB0_119.out) hg (IsS75.own_ne HI0.out HO_120000.out (by decide)))
     have n3_ := aM (below_weaken (xG3 HB.out (IsS75.ge HI0.out) GE112.out GE119.out) HL.out hb)
     have n4_ := aM (KeepBut.trans (xK2 HK.out GW112.out GW119.out) (KeepBut.of_grown hg g) (Kd.R_base2 HO_120000.out))
     have n5_ := aM (ho)
     clear BK112 BK119 HI0 HB HK HO_120000
     have BK112 := n0_
     have BK119 := n1_
     have HI0 := n2_
     have HB := n3_
     have HK := n4_
     have HO125 := n5_
     clear n0_ n1_ n2_ n3_ n4_ n5_ ho hb hg hat
     obtain ⟨Ao19, co19, eo19⟩ := Kd.R_slice HO125.out
     (first | subst eo19 | (injection eo19 with f1_ f2_ f3_; have f4_ := f1_.symm; have f5_ := f3_.symm; clear f1_ f2_ f3_; subst f4_; subst f5_))
     refine hK.out _ _ ⟨(bC BK119.out 0).trans rfl, (bC BK119.out 1).trans rfl⟩ (fun hHeld => ?_)
     clear hK K
     refine norm_ (a' := ?_) ?_ ?_
     rotate_left
     ·
      show Act.put _ (some 27) _ = _
      simp only [Act.put, sA, sZ, sU, i64_w, i32_w]
      rfl
     refine pure_ (i := 11) (N := some 28) (v := ?_) (a' := ?_) #[true, true, true, true, true, true, true, true, true, true, true, true, false] rfl rfl (any_of HT_.out (by kernel_rfl)) (fun _ _ _ h => h) (Or.inl ⟨by rfl, ?_⟩) ?_ ?_
     rotate_left
     ·
      intro w'
      go_simp
      with_reducible rfl
     rotate_left
     ·
      simp only [Act.put, sA, sZ, sU, i64_w, i32_w]
      rfl
     refine last_ (i := 12) (N := none) #[true, true, true, true, true, true, true, true, true, true, true, true, true] rfl rfl (one_of HT_.out (by kernel_rfl)) (by decide) (fun K hK => ?_)
     have hs20 : w18.cell? ⟨gb119, 0, none⟩ = some (u120000) := (bC BK119.out 0).trans rfl
     have hfs20 := bF BK119.out 0
     have hns20_0 := NB112_119.out
     have hms20_0 := NB119_112.out
     refine skip_ (w1 := ?_) (by rfl) rfl ?_ ?_
     rotate_left
     ·
      go_simp
      rfl
     refine hK.out _ _ ?_
     clear hK K
     refine done_ (done_of HT_.out (by kernel_rfl)) ?_
     try go_wp2
     go_roundg k1
     case measure => have := HK1.out; omega
     case rel => exact ⟨(wrap64 (x7_1 + 1)), (t121), (t122), (y123), (.slice Ao19 y123.length co19), (by first | rfl | (simp; done) | (simp [*]; done)), H', ⟨by have := HK1.out; omega⟩, ⟨by (with_reducible repeat (first | apply rA | apply rN | apply rD)); exact rM (Kd.R_far (p := ⟨gb119, 0, none⟩) (Kd.R_types HO125.out BK119.out (by decide)) (fun _ hk => hk.2) (.slice Ao19 y123.length co19)) (fun _ hk => trivial)⟩, ⟨by (with_reducible repeat (first | refine bN ?_ _ | refine bD ?_ | refine bA ?_ _)); refine blk_far ?_ NB112_119.out _; (with_reducible repeat (first | refine bN ?_ _ | refine bD ?_ | refine bA ?_ _)); exact BK112.out⟩, ⟨by (with_reducible repeat (first | refine bN ?_ _ | refine bD ?_ | refine bA ?_ _)); refine blk_put (cs := #[u120000, .int .i64 0]) ?_ 0 _ rfl; (with_reducible repeat (first | refine bN ?_ _ | refine bD ?_ | refine bA ?_ _)); exact BK119.out⟩, ⟨IsS75.x2 HI0.out NB0_112.out NB0_119.out⟩, ⟨xK2 HK.out GW112.out GW119.out⟩, ⟨xG3 HB.out (IsS75.ge HI0.out) GE112.out GE119.out⟩⟩
    ·
     rw [if_neg c15] at H
     exact absurd H (by simp)
   ·
    rw [if_neg c13] at H
    have c13b0 : decide (x7_1 < a1) = false := decide_eq_false c13
    clear c13
    replace H := oB.mp H
    obtain ⟨⟨t126, t127, t128⟩, A210, H⟩ := H
    replace H : ((spec_l1Cur_pick.f s0_0 t127 t128 60).bind fun bt129 => (if bt129.1 = 0 then ((spec_l1Cur_among.f s0_0 bt129.2.1 bt129.2.2 (([99, (-99), 100, (-100), 4611686018427387904] : List Int))).bind fun bt135 => (some (x120000_1, bt135.1, bt135.2.1, bt135.2.2))) else (if bt129.1 = 1 then (if a1 > 0 then ((spec_l1Cur_pick.f s0_0 bt129.2.1 bt129.2.2 a1).bind fun bt138 => ((spec_l1Cur_among.f s0_0 bt138.2.1 bt138.2.2 (([99, (-99), 100, (-100)] : List Int))).bind fun bt144 => (if 0 ≤ bt138.1 then (if bt138.1 < (x120000_1.length : Int) then (some ((x120000_1.set (bt138.1 : Int).toNat bt144.1), wrap64 ((wrap64 (t126 - t116)) - 1), bt144.2.1, bt144.2.2)) else (none)) else (none)))) else (some (x120000_1, wrap64 ((wrap64 (t126 - t116)) - 1), bt129.2.1, bt129.2.2))) else (if bt129.1 = 2 then (if x120000_1.length < 17592186044416 then (some ((x120000_1 ++ [1]), wrap64 ((wrap64 (t126 - t116)) - 1), bt129.2.1, bt129.2.2)) else (none)) else (some (x120000_1, wrap64 ((wrap64 (t126 - t116)) - 1), bt129.2.1, bt129.2.2)))))) = some (r1, r2, r3, r4) := H
    have A21 := aM A210
    clear A210
    replace H := oB.mp H
    obtain ⟨⟨t129, t130, t131⟩, A220, H⟩ := H
    replace H : (if t129 = 0 then ((spec_l1Cur_among.f s0_0 t130 t131 (([99, (-99), 100, (-100), 4611686018427387904] : List Int))).bind fun bt135 => (some (x120000_1, bt135.1, bt135.2.1, bt135.2.2))) else (if t129 = 1 then (if a1 > 0 then ((spec_l1Cur_pick.f s0_0 t130 t131 a1).bind fun bt138 => ((spec_l1Cur_among.f s0_0 bt138.2.1 bt138.2.2 (([99, (-99), 100, (-100)] : List Int))).bind fun bt144 => (if 0 ≤ bt138.1 then (if bt138.1 < (x120000_1.length : Int) then (some ((x120000_1.set (bt138.1 : Int).toNat bt144.1), wrap64 ((wrap64 (t126 - t116)) - 1), bt144.2.1, bt144.2.2)) else (none)) else (none)))) else (some (x120000_1, wrap64 ((wrap64 (t126 - t116)) - 1), t130, t131))) else (if t129 = 2 then (if x120000_1.length < 17592186044416 then (some ((x120000_1 ++ [1]), wrap64 ((wrap64 (t126 - t116)) - 1), t130, t131)) else (none)) else (some (x120000_1, wrap64 ((wrap64 (t126 - t116)) - 1), t130, t131))))) = some (r1, r2, r3, r4) := H
    have A22 := aM A220
    clear A220
    by_cases c23 : t129 = 0
    ·
     rw [if_pos c23] at H
     have c23b0 : (t129 == 0) = true := beq_iff_eq.mpr c23
     have c23b1 : (t129 != 0) = false := bne_eq_false_iff_eq.mpr c23
     clear c23
     obtain ⟨y132, hy132⟩ : ∃ y_ : List Int, y_ = (([99, (-99), 100, (-100), 4611686018427387904] : List Int)) := ⟨_, rfl⟩
     replace H : ((spec_l1Cur_among.f s0_0 t130 t131 y132).bind fun bt135 => (some (x120000_1, bt135.1, bt135.2.1, bt135.2.2))) = some (r1, r2, r3, r4) := by first | (rw [hy132]; with_reducible exact H) | (have H2_ := (Option.bind_some _ _).symm.trans H; rw [hy132]; with_reducible exact H2_) | (have H2_ := (Option.bind_some _ _).symm.trans H; with_reducible exact H2_) | with_reducible exact H | (rw [hy132]; exact H) | exact H
     have Ny132 := aM hy132
     clear hy132
     replace H := oB.mp H
     obtain ⟨⟨t135, t136, t137⟩, A240, H⟩ := H
     replace H : (some (x120000_1, t135, t136, t137)) = some (r1, r2, r3, r4) := H
     have A24 := aM A240
     clear A240
     simp only [Option.some.injEq, Prod.mk.injEq] at H
     obtain ⟨rfl, rfl, rfl, rfl⟩ := H
     go_wp2_with (first | ((with_reducible refine gate_callee (f := 108) rfl ?_); refine goesL_ (some 33) rfl rfl Try.func108 (by kernel_rfl) rfl #[.pointer (some ⟨g, 0, none⟩), .int .i64 (wrap64 ((wrap64 (2 * t116)) + 3))] rfl xL ?_; (with_reducible refine (spec_l1Cur_pick.calls g s0_0 x1001_1 x1002_1 (wrap64 ((wrap64 (2 * t116)) + 3)) t126 t127 t128 w0 _ ?side1 ?side2 A21.out).mono ?_); (case side1 => exact IsS75.x2 HI0.out NB0_112.out NB0_119.out); (case side2 => exact xG3 HB.out (IsS75.ge HI0.out) GE112.out GE119.out); rintro e w25 ⟨rfl, hi, hb, hk⟩; refine ⟨_, rfl, ?_⟩; replace HO_120000 := aM (rM (Kd.R_keep (IsS75.apart (show IsS75 w0 _ g s0_0 x1001_1 x1002_1 from IsS75.x2 HI0.out NB0_112.out NB0_119.out) (xR HO_120000.out) (by decide)) hk (fun _ h => h.2)) (fun _ h => h.1)); replace BK112 := aM (KeepBut.blk hk (g' := gb112) (o := .cells #[.slice none 0 0, .int .i64 0] 26 (0, 0)) (xB BK112.out) NB112_0.out (by simp)); replace BK119 := aM (KeepBut.blk hk (g' := gb119) (o := .cells #[u120000, .int .i64 0] 26 (0, 0)) (xB BK119.out) NB119_0.out (by simp)); replace HK := aM (KeepBut.trans (xK2 HK.out GW112.out GW119.out) hk (.inl rfl)); replace HB := aM (hb); replace HI0 := aM (hi); (try clear hb; try clear hb2; try clear hk; try clear hi); have hnb26 := NB119_112.out; have hnc26 := NB112_119.out; have hnb27 := NB119_0.out; have hnc27 := NB0_119.out; have hcz28_0 : w25.cell? ⟨gb119, 0, none⟩ = some (u120000) := (bC BK119.out 0).trans rfl; have hcz28_1 : w25.cell? ⟨gb119, 1, none⟩ = some (.int .i64 0) := (bC BK119.out 1).trans rfl; have hfz28_0 := bF BK119.out 0; have hfz28_1 := bF BK119.out 1) | ((with_reducible refine gate_callee (f := 108) rfl ?_); refine goesL_ (some 39) rfl rfl Try.func108 (by kernel_rfl) rfl #[.pointer (some ⟨g, 0, none⟩), .int .i64 60] rfl xL ?_; (with_reducible refine (spec_l1Cur_pick.calls g s0_0 t127 t128 60 t129 t130 t131 w0 _ ?side1 ?side2 A22.out).mono ?_); (case side1 => exact IsS75.x2 HI0.out NB0_112.out NB0_119.out); (case side2 => exact xG3 HB.out (IsS75.ge HI0.out) GE112.out GE119.out); rintro e w29 ⟨rfl, hi, hb, hk⟩; refine ⟨_, rfl, ?_⟩; replace HO_120000 := aM (rM (Kd.R_keep (IsS75.apart (show IsS75 w0 _ g s0_0 t127 t128 from IsS75.x2 HI0.out NB0_112.out NB0_119.out) (by (with_reducible repeat (first | apply rA | apply rN | apply rD)); exact (rM (Kd.R_far (p := ⟨gb119, 1, none⟩) (Kd.R_types HO_120000.out BK119.out (by decide)) (fun _ hk => hk.2) (.int .i64 (wrap64 ((wrap64 (t126 - t116)) - 1)))) (fun _ h_ => h_.1))) (by decide)) hk (fun _ h => h.2)) (fun _ h => h.1)); replace BK112 := aM (KeepBut.blk hk (g' := gb112) (o := .cells #[.slice none 0 0, .int .i64 0] 26 (0, 0)) (by (with_reducible repeat (first | refine bN ?_ _ | refine bD ?_ | refine bA ?_ _)); refine blk_far ?_ NB112_119.out _; (with_reducible repeat (first | refine bN ?_ _ | refine bD ?_ | refine bA ?_ _)); exact BK112.out) NB112_0.out (by simp)); replace BK119 := aM (KeepBut.blk hk (g' := gb119) (o := .cells #[u120000, .int .i64 (wrap64 ((wrap64 (t126 - t116)) - 1))] 26 (0, 0)) (by (with_reducible repeat (first | refine bN ?_ _ | refine bD ?_ | refine bA ?_ _)); refine blk_put (cs := #[u120000, .int .i64 0]) ?_ 1 _ rfl; (with_reducible repeat (first | refine bN ?_ _ | refine bD ?_ | refine bA ?_ _)); exact BK119.out) NB119_0.out (by simp)); replace HK := aM (KeepBut.trans (xK2 HK.out GW112.out GW119.out) hk (.inl rfl)); replace HB := aM (hb); replace HI0 := aM (hi); (try clear hb; try clear hb2; try clear hk; try clear hi)) | ((with_reducible refine gate_dst (N := 43) rfl ?_); refine Kd.R_lit (Kd.int .i64) _ 3 ?hg (N := 43) ?hd (xs := ([99, (-99), 100, (-100), 4611686018427387904] : List Int)) (inner := [.int .i64 99, .int .i64 (-99), .int .i64 100, .int .i64 (-100), .int .i64 4611686018427387904]) (ok := fun _ => True) (okp := fun _ => True) ?hr ?hp (fun _ hk => hk) trivial (Below.refl _ _) (Nat.le_refl _) (by simp) ?_; (case hd => rfl); (case hg => rfl); (case hr => first | (go_simp; done) | (go_simp; rfl)); (case hp => exact (Reps.one (show Kd.M (Kd.int .i64) _ _ _ 99 [.int .i64 99] from rfl) (Reps.one (show Kd.M (Kd.int .i64) _ _ _ (-99) [.int .i64 (-99)] from rfl) (Reps.one (show Kd.M (Kd.int .i64) _ _ _ 100 [.int .i64 100] from rfl) (Reps.one (show Kd.M (Kd.int .i64) _ _ _ (-100) [.int .i64 (-100)] from rfl) (Reps.one (show Kd.M (Kd.int .i64) _ _ _ 4611686018427387904 [.int .i64 4611686018427387904] from rfl) (Reps.none _ _))))))); intro v133 w30 ho31 hb hg_ hnew_; clear hg_ hnew_; (first | rw [← Ny132.out] at ho31 | (simp only [Int.reduceToNat] at ho31; rw [← Ny132.out] at ho31)); have HO134 := aM (Kd.R_lower (Kd.R_new' ho31 (Kd.R_lt (xR HO_120000.out))) (keep_size (w := w) (g := g) (row := none) (xK2 HK.out GW112.out GW119.out))); replace HO_120000 := aM (Kd.R_elder' (xR HO_120000.out) (Kd.R_base ho31) hb); replace BK112 := aM (bB (g := gb112) (o := .cells #[.slice none 0 0, .int .i64 0] 26 (0, 0)) (xB BK112.out) hb); replace BK119 := aM (bB (g := gb119) (o := .cells #[u120000, .int .i64 (wrap64 ((wrap64 (t126 - t116)) - 1))] 26 (0, 0)) (xB BK119.out) hb); replace HK := aM (KeepBut.trans (xK2 HK.out GW112.out GW119.out) (KeepBut.of_below hb g none) (.inl rfl)); replace HB := aM (below_step (xG3 HB.out (IsS75.ge HI0.out) GE112.out GE119.out) hb); replace HI0 := aM (IsS75.below (IsS75.x2 HI0.out NB0_112.out NB0_119.out) hb); clear hb ho31; obtain ⟨Ao32, co32, eo32⟩ := Kd.R_slice HO134.out; subst eo32) | ((with_reducible refine gate_callee (f := 57) rfl ?_); refine goesL_ (some 44) rfl rfl Try.func57 (by kernel_rfl) rfl #[.pointer (some ⟨g, 0, none⟩), .slice Ao32 y132.length co32] rfl xL ?_; (with_reducible refine (spec_l1Cur_among.calls g s0_0 t130 t131 _ _ y132 t135 t136 t137 w0 _ ?side1 ?side2 ?side3 ?side4 ?side5 A24.out).mono ?_); (case side1 => exact IsS75.x2 HI0.out NB0_112.out NB0_119.out); (case side2 => exact xG3 HB.out (IsS75.ge HI0.out) GE112.out GE119.out); (case side3 => exact xC (Kd.R_reads' HO134.out).2.2); (case side4 => exact (Kd.R_reads' HO134.out).2.1); (case side5 => exact far_slice (IsS75.own_ne HI0.out HO134.out (by decide))); rintro e w33 ⟨rfl, hi, hb, hk⟩; refine ⟨_, rfl, ?_⟩; replace HO_120000 := aM (rM (Kd.R_keep (IsS75.apart (show IsS75 w0 _ g s0_0 t130 t131 from IsS75.x2 HI0.out NB0_112.out NB0_119.out) (xR HO_120000.out) (by decide)) hk (fun _ h => h.2)) (fun _ h => h.1)); replace BK112 := aM (KeepBut.blk hk (g' := gb112) (o := .cells #[.slice none 0 0, .int .i64 0] 26 (0, 0)) (xB BK112.out) NB112_0.out (by simp)); replace BK119 := aM (KeepBut.blk hk (g' := gb119) (o := .cells #[u120000, .int .i64 (wrap64 ((wrap64 (t126 - t116)) - 1))] 26 (0, 0)) (xB BK119.out) NB119_0.out (by simp)); replace HO134 := aM (rM (Kd.R_keep (IsS75.apart (show IsS75 w0 _ g s0_0 t130 t131 from IsS75.x2 HI0.out NB0_112.out NB0_119.out) (xR HO134.out) (by decide)) hk (fun _ h => h.2)) (fun _ h => h.1)); replace HK := aM (KeepBut.trans (xK2 HK.out GW112.out GW119.out) hk (.inl rfl)); replace HB := aM (hb); replace HI0 := aM (hi); (try clear hb; try clear hb2; try clear hk; try clear hi); have hcz34_0 : w33.cell? ⟨gb119, 0, none⟩ = some (u120000) := (bC BK119.out 0).trans rfl; have hcz34_1 : w33.cell? ⟨gb119, 1, none⟩ = some (.int .i64 (wrap64 ((wrap64 (t126 - t116)) - 1))) := (bC BK119.out 1).trans rfl; have hfz34_0 := bF BK119.out 0; have hfz34_1 := bF BK119.out 1; obtain ⟨Ao35, co35, eo35⟩ := Kd.R_slice HO_120000.out; subst eo35; have hnb36 := NB112_0.out; have hnc36 := NB0_112.out; have hcz37_0 : w33.cell? ⟨gb112, 0, none⟩ = some (.slice none 0 0) := (bC BK112.out 0).trans rfl; have hcz37_1 : w33.cell? ⟨gb112, 1, none⟩ = some (.int .i64 0) := (bC BK112.out 1).trans rfl; have hfz37_0 := bF BK112.out 0; have hfz37_1 := bF BK112.out 1))
     refine bodyPost_ret (results_cell_row rfl _ _ gb112 26 #[.slice Ao35 x120000_1.length co35, .int .i64 t135] (0, 0) _ rfl (by (with_reducible repeat (first | refine bN ?_ _ | refine bD ?_ | refine bA ?_ _)); refine blk_put (cs := #[.slice Ao35 x120000_1.length co35, .int .i64 0]) ?_ 1 _ rfl; (with_reducible repeat (first | refine bN ?_ _ | refine bD ?_ | refine bA ?_ _)); refine blk_put (cs := #[.slice none 0 0, .int .i64 0]) ?_ 0 _ rfl; (with_reducible repeat (first | refine bN ?_ _ | refine bD ?_ | refine bA ?_ _)); refine blk_far ?_ NB112_119.out _; (with_reducible repeat (first | refine bN ?_ _ | refine bD ?_ | refine bA ?_ _)); exact BK112.out) Try.underlying26 rfl (by kernel_rfl)) rfl ?_
     exact ⟨_, by first | rfl | (simp [errW_none, errW_some] <;> rfl) | (simp [*, errW_none, errW_some] <;> rfl), by (with_reducible repeat (first | apply rA | apply rN | apply rD)); exact rM (Kd.R_far (p := ⟨gb112, 1, none⟩) (Kd.R_far (p := ⟨gb112, 0, none⟩) (Kd.R_far (p := ⟨gb119, 1, none⟩) (Kd.R_types (Kd.R_types HO_120000.out BK119.out (by decide)) BK112.out (by decide)) (fun _ hk => hk.1.2) (.int .i64 t135)) (fun _ hk => hk.2) (.slice Ao35 x120000_1.length co35)) (fun _ hk => hk.2) (.int .i64 t135)) (fun _ hk => trivial), IsS75.x2 HI0.out NB0_112.out NB0_119.out, xG3 HB.out (IsS75.ge HI0.out) GE112.out GE119.out, xK2 HK.out GW112.out GW119.out⟩
    ·
     rw [if_neg c23] at H
     have c23b0 : (t129 == 0) = false := beq_eq_false_iff_ne.mpr c23
     have c23b1 : (t129 != 0) = true := bne_iff_ne.mpr c23
     by_cases c38 : t129 = 1
     ·
      rw [if_pos c38] at H
      have c38b0 : (t129 == 1) = true := beq_iff_eq.mpr c38
      have c38b1 : (t129 != 1) = false := bne_eq_false_iff_eq.mpr c38
      clear c38
      by_cases c39 : a1 > 0
      ·
       rw [if_pos c39] at H
       have c39b0 : decide (0 < a1) = true := decide_eq_true c39
       clear c39
       replace H := oB.mp H
       obtain ⟨⟨t138, t139, t140⟩, A400, H⟩ := H
       replace H : ((spec_l1Cur_among.f s0_0 t139 t140 (([99, (-99), 100, (-100)] : List Int))).bind fun bt144 => (if 0 ≤ t138 then (if t138 < (x120000_1.length : Int) then (some ((x120000_1.set (t138 : Int).toNat bt144.1), wrap64 ((wrap64 (t126 - t116)) - 1), bt144.2.1, bt144.2.2)) else (none)) else (none))) = some (r1, r2, r3, r4) := H
       have A40 := aM A400
       clear A400
       obtain ⟨y141, hy141⟩ : ∃ y_ : List Int, y_ = (([99, (-99), 100, (-100)] : List Int)) := ⟨_, rfl⟩
       replace H : ((spec_l1Cur_among.f s0_0 t139 t140 y141).bind fun bt144 => (if 0 ≤ t138 then (if t138 < (x120000_1.length : Int) then (some ((x120000_1.set (t138 : Int).toNat bt144.1), wrap64 ((wrap64 (t126 - t116)) - 1), bt144.2.1, bt144.2.2)) else (none)) else (none))) = some (r1, r2, r3, r4) := by first | (rw [hy141]; with_reducible exact H) | (have H2_ := (Option.bind_some _ _).symm.trans H; rw [hy141]; with_reducible exact H2_) | (have H2_ := (Option.bind_some _ _).symm.trans H; with_reducible exact H2_) | with_reducible exact H | (rw [hy141]; exact H) | exact H
       have Ny141 := aM hy141
       clear hy141
       replace H := oB.mp H
       obtain ⟨⟨t144, t145, t146⟩, A410, H⟩ := H
       replace H : (if 0 ≤ t138 then (if t138 < (x120000_1.length : Int) then (some ((x120000_1.set (t138 : Int).toNat t144), wrap64 ((wrap64 (t126 - t116)) - 1), t145, t146)) else (none)) else (none)) = some (r1, r2, r3, r4) := H
       have A41 := aM A410
       clear A410
       by_cases c42 : 0 ≤ t138
       ·
        rw [if_pos c42] at H
        have c42b0 : decide (0 ≤ t138) = true := decide_eq_true c42
        clear c42
        by_cases c43 : t138 < (x120000_1.length : Int)
        ·
         rw [if_pos c43] at H
         have c43b0 : decide (t138 < (x120000_1.length : Int)) = true := decide_eq_true c43
         clear c43
         obtain ⟨y147, hy147⟩ : ∃ y_ : List Int, y_ = (x120000_1.set (t138 : Int).toNat t144) := ⟨_, rfl⟩
         replace H : (some (y147, wrap64 ((wrap64 (t126 - t116)) - 1), t145, t146)) = some (r1, r2, r3, r4) := by first | (rw [hy147]; with_reducible exact H) | (have H2_ := (Option.bind_some _ _).symm.trans H; rw [hy147]; with_reducible exact H2_) | (have H2_ := (Option.bind_some _ _).symm.trans H; with_reducible exact H2_) | with_reducible exact H | (rw [hy147]; exact H) | exact H
         have Ny147 := aM hy147
         clear hy147
         simp only [Option.some.injEq, Prod.mk.injEq] at H
         obtain ⟨rfl, rfl, rfl, rfl⟩ := H
         try go_wp2_with (first | ((with_reducible refine gate_callee (f := 108) rfl ?_); refine goesL_ (some 33) rfl rfl Try.func108 (by kernel_rfl) rfl #[.pointer (some ⟨g, 0, none⟩), .int .i64 (wrap64 ((wrap64 (2 * t116)) + 3))] rfl xL ?_; (with_reducible refine (spec_l1Cur_pick.calls g s0_0 x1001_1 x1002_1 (wrap64 ((wrap64 (2 * t116)) + 3)) t126 t127 t128 w0 _ ?side1 ?side2 A21.out).mono ?_); (case side1 => exact IsS75.x2 HI0.out NB0_112.out NB0_119.out); (case side2 => exact xG3 HB.out (IsS75.ge HI0.out) GE112.out GE119.out); rintro e w45 ⟨rfl, hi, hb, hk⟩; refine ⟨_, rfl, ?_⟩; replace HO_120000 := aM (rM (Kd.R_keep (IsS75.apart (show IsS75 w0 _ g s0_0 x1001_1 x1002_1 from IsS75.x2 HI0.out NB0_112.out NB0_119.out) (xR HO_120000.out) (by decide)) hk (fun _ h => h.2)) (fun _ h => h.1)); replace BK112 := aM (KeepBut.blk hk (g' := gb112) (o := .cells #[.slice none 0 0, .int .i64 0] 26 (0, 0)) (xB BK112.out) NB112_0.out (by simp)); replace BK119 := aM (KeepBut.blk hk (g' := gb119) (o := .cells #[u120000, .int .i64 0] 26 (0, 0)) (xB BK119.out) NB119_0.out (by simp)); replace HK := aM (KeepBut.trans (xK2 HK.out GW112.out GW119.out) hk (.inl rfl)); replace HB := aM (hb); replace HI0 := aM (hi); (try clear hb; try clear hb2; try clear hk; try clear hi); have hnb46 := NB119_112.out; have hnc46 := NB112_119.out; have hnb47 := NB119_0.out; have hnc47 := NB0_119.out; have hcz48_0 : w45.cell? ⟨gb119, 0, none⟩ = some (u120000) := (bC BK119.out 0).trans rfl; have hcz48_1 : w45.cell? ⟨gb119, 1, none⟩ = some (.int .i64 0) := (bC BK119.out 1).trans rfl; have hfz48_0 := bF BK119.out 0; have hfz48_1 := bF BK119.out 1) | ((with_reducible refine gate_callee (f := 108) rfl ?_); refine goesL_ (some 39) rfl rfl Try.func108 (by kernel_rfl) rfl #[.pointer (some ⟨g, 0, none⟩), .int .i64 60] rfl xL ?_; (with_reducible refine (spec_l1Cur_pick.calls g s0_0 t127 t128 60 t129 t130 t131 w0 _ ?side1 ?side2 A22.out).mono ?_); (case side1 => exact IsS75.x2 HI0.out NB0_112.out NB0_119.out); (case side2 => exact xG3 HB.out (IsS75.ge HI0.out) GE112.out GE119.out); rintro e w49 ⟨rfl, hi, hb, hk⟩; refine ⟨_, rfl, ?_⟩; replace HO_120000 := aM (rM (Kd.R_keep (IsS75.apart (show IsS75 w0 _ g s0_0 t127 t128 from IsS75.x2 HI0.out NB0_112.out NB0_119.out) (by (with_reducible repeat (first | apply rA | apply rN | apply rD)); exact (rM (Kd.R_far (p := ⟨gb119, 1, none⟩) (Kd.R_types HO_120000.out BK119.out (by decide)) (fun _ hk => hk.2) (.int .i64 (wrap64 ((wrap64 (t126 - t116)) - 1)))) (fun _ h_ => h_.1))) (by decide)) hk (fun _ h => h.2)) (fun _ h => h.1)); replace BK112 := aM (KeepBut.blk hk (g' := gb112) (o := .cells #[.slice none 0 0, .int .i64 0] 26 (0, 0)) (by (with_reducible repeat (first | refine bN ?_ _ | refine bD ?_ | refine bA ?_ _)); refine blk_far ?_ NB112_119.out _; (with_reducible repeat (first | refine bN ?_ _ | refine bD ?_ | refine bA ?_ _)); exact BK112.out) NB112_0.out (by simp)); replace BK119 := aM (KeepBut.blk hk (g' := gb119) (o := .cells #[u120000, .int .i64 (wrap64 ((wrap64 (t126 - t116)) - 1))] 26 (0, 0)) (by (with_reducible repeat (first | refine bN ?_ _ | refine bD ?_ | refine bA ?_ _)); refine blk_put (cs := #[u120000, .int .i64 0]) ?_ 1 _ rfl; (with_reducible repeat (first | refine bN ?_ _ | refine bD ?_ | refine bA ?_ _)); exact BK119.out) NB119_0.out (by simp)); replace HK := aM (KeepBut.trans (xK2 HK.out GW112.out GW119.out) hk (.inl rfl)); replace HB := aM (hb); replace HI0 := aM (hi); (try clear hb; try clear hb2; try clear hk; try clear hi)))
         have n0_ := aM (rD HO_120000.out)
         have n1_ := aM (bD BK112.out)
         have n2_ := aM (bD BK119.out)
         have n3_ := aM (IsS75.drew HI0.out)
         have n4_ := aM (keep_drew HK.out)
         have n5_ := aM (eD HB.out)
         clear HO_120000 BK112 BK119 HI0 HK HB
         have HO_120000 := n0_
         have BK112 := n1_
         have BK119 := n2_
         have HI0 := n3_
         have HK := n4_
         have HB := n5_
         clear n0_ n1_ n2_ n3_ n4_ n5_
         refine start_ (n := 10) (S := fun w' => w'.cell? ⟨gb119, 0, none⟩ = some (u120000) ∧ w'.cell? ⟨gb119, 1, none⟩ = some (.int .i64 (wrap64 ((wrap64 (t126 - t116)) - 1)))) (ds := [9]) #[false, false, false, false, false, false, false, false, false, false] (by kernel_rfl) rfl rfl ⟨(bC BK119.out 0).trans rfl, (bC BK119.out 1).trans rfl⟩ (fun hHeld => ?_); refine with_tabW spec_l1Cur_plane.tab12 spec_l1Cur_plane.bits12 (fun HT_ HW_ => ?_)
         generalize w49.drew = w50 at HO_120000 BK112 BK119 HI0 HK HB hHeld ⊢
         refine pure_ (i := 0) (N := some 50) (v := ?_) (a' := ?_) #[true, false, false, false, false, false, false, false, false, false] rfl rfl (any_of HT_.out (by kernel_rfl)) (fun _ _ _ h => h) (Or.inl ⟨by rfl, ?_⟩) ?_ ?_
         rotate_left
         ·
          intro w'
          go_simp
          with_reducible rfl
         rotate_left
         ·
          simp only [Act.put, sA, sZ, sU, i64_w, i32_w]
          rfl
         refine pure_ (i := 2) (N := some 52) (v := ?_) (a' := ?_) #[true, false, true, false, false, false, false, false, false, false] rfl rfl (any_of HT_.out (by kernel_rfl)) (fun _ _ _ h => h) (Or.inl ⟨by rfl, ?_⟩) ?_ ?_
         rotate_left
         ·
          intro w'
          go_simp
          with_reducible rfl
         rotate_left
         ·
          simp only [Act.put, sA, sZ, sU, i64_w, i32_w]
          rfl
         refine pure_ (i := 3) (N := some 53) (v := ?_) (a' := ?_) #[true, false, true, true, false, false, false, false, false, false] rfl rfl (any_of HT_.out (by kernel_rfl)) (fun _ _ _ h => h) (Or.inl ⟨by rfl, ?_⟩) ?_ ?_
         rotate_left
         ·
          intro w'
          go_simp
          with_reducible rfl
         rotate_left
         ·
          simp only [Act.put, sA, sZ, sU, i64_w, i32_w]
          rfl
         refine pure_ (i := 5) (N := some 55) (v := ?_) (a' := ?_) #[true, false, true, true, false, true, false, false, false, false] rfl rfl (any_of HT_.out (by kernel_rfl)) (fun _ _ _ h => h) (Or.inl ⟨by rfl, ?_⟩) ?_ ?_
         rotate_left
         ·
          intro w'
          go_simp
          with_reducible rfl
         rotate_left
         ·
          simp only [Act.put, sA, sZ, sU, i64_w, i32_w]
          rfl
         refine take_ (i := 1) (N := some 51) (v := ?_) (a' := ?_) #[true, true, true, true, false, true, false, false, false, false] rfl rfl (take_ofW HT_.out HW_.out (by kernel_rfl)) (fun _ _ _ h => h) (Or.inl ⟨by rfl, ?_⟩) hHeld ?_ ?_
         rotate_left
         ·
          rintro w' ⟨s0, s1⟩
          first | (go_simp; with_reducible rfl) | (simp only [add_plain] at s0 s1; go_simp; with_reducible rfl)
         rotate_left
         ·
          simp only [Act.put, sA, sZ, sU, i64_w, i32_w]
          rfl
         refine join_ (σ := Value) 3 #[true, true, true, true, true, true, true, false, false, false] (fun s_ => [(54, .int .i64 t138), (56, s_)]) (fun s_ w' => (w'.cell? ⟨gb119, 0, none⟩ = some (u120000) ∧ w'.cell? ⟨gb119, 1, none⟩ = some (.int .i64 (wrap64 ((wrap64 (t126 - t116)) - 1)))) ∧ (Kd.R (Kd.int .i64) 3 w' w.heap.size (fun k_ => some k_ ≠ (u120000 : Value).ownBlock) s_ y141) ∧ (Kd.R (Kd.int .i64) 3 w' w.heap.size (fun k_ => some k_ ≠ (s_ : Value).ownBlock) u120000 x120000_1) ∧ (w'.heap[gb112]? = some (.cells #[.slice none 0 0, .int .i64 0] 26 (0, 0))) ∧ (w'.heap[gb119]? = some (.cells #[u120000, .int .i64 (wrap64 ((wrap64 (t126 - t116)) - 1))] 26 (0, 0))) ∧ (IsS75 w0 w' g s0_0 t139 t140) ∧ (KeepBut w w' g none) ∧ (Below w0.heap.size w0 w')) ?_ ?_
         rotate_left
         ·
          intro hCont
          refine two_ (i := 4) (j := 6) (Ni := some 54) (Nj := some 56) #[true, true, true, true, true, true, false, false, false, false] #[true, true, true, true, false, true, true, false, false, false] rfl rfl rfl rfl (two_of HT_.out (by kernel_rfl)) (by decide) (by decide) (fun K hK => ?_) (fun K hK => ?_)
          ·
           skip
           refine goes_ Try.func108 (by kernel_rfl) rfl #[.pointer (some ⟨g, 0, none⟩), .int .i64 a1] (by rfl) rfl rfl xL ?_
           with_reducible refine (spec_l1Cur_pick.calls g s0_0 t130 t131 a1 t138 t139 t140 w0 _ ?side1 ?side2 A40.out).mono ?_
           (case side1 => exact IsS75.x2 HI0.out NB0_112.out NB0_119.out)
           (case side2 => exact xG3 HB.out (IsS75.ge HI0.out) GE112.out GE119.out)
           rintro e w51 ⟨rfl, hi, hb, hk⟩
           refine ⟨_, rfl, ?_⟩
           have n0_ := aM (rM (Kd.R_keep (IsS75.apart (show IsS75 w0 _ g s0_0 t130 t131 from IsS75.x2 HI0.out NB0_112.out NB0_119.out) (xR HO_120000.out) (by decide)) hk (fun _ h => h.2)) (fun _ h => h.1))
           have n1_ := aM (KeepBut.blk hk (g' := gb112) (o := .cells #[.slice none 0 0, .int .i64 0] 26 (0, 0)) (xB BK112.out) NB112_0.out (by simp))
           have n2_ := aM (KeepBut.blk hk (g' := gb119) (o := .cells #[u120000, .int .i64 (wrap64 ((wrap64 (t126 - t116)) - 1))] 26 (0, 0)) (xB BK119.out) NB119_0.out (by simp))
           have n3_ := aM (KeepBut.trans (xK2 HK.out GW112.out GW119.out) hk (.inl rfl))
           have n4_ := aM (hb)
           have n5_ := aM (hi)
           clear HO_120000 BK112 BK119 HK HB HI0
           have HO_120000 := n0_
           have BK112 := n1_
           have BK119 := n2_
           have HK := n3_
           have HB := n4_
           have HI0 := n5_
           clear n0_ n1_ n2_ n3_ n4_ n5_
           (try clear hb)
           (try clear hb2)
           (try clear hk)
           (try clear hi)
           refine hK.out _ _ ⟨(bC BK119.out 0).trans rfl, (bC BK119.out 1).trans rfl⟩ (fun hHeld => ?_)
           clear hK K
           refine norm_ (a' := ?_) ?_ ?_
           rotate_left
           ·
            show Act.put _ (some 54) _ = _
            simp only [Act.put, sA, sZ, sU, i64_w, i32_w]
            rfl
           refine one_ (i := 6) (N := some 56) #[true, true, true, true, true, true, true, false, false, false] rfl rfl (one_of HT_.out (by kernel_rfl)) (by decide) (fun K hK => ?_)
           refine Kd.R_lit_step (Kd.int .i64) _ 3 ?hg (N := 56) ?hd (xs := ([99, (-99), 100, (-100)] : List Int)) (inner := [.int .i64 99, .int .i64 (-99), .int .i64 100, .int .i64 (-100)]) (ok := fun _ => True) (okp := fun _ => True) ?hr ?hp (fun _ hk => hk) trivial (Below.refl _ _) (Nat.le_refl _) (by simp) ?_; (case hd => rfl); (case hg => rfl); (case hr => first | (go_simp; done) | (go_simp; rfl)); (case hp => exact (Reps.one (show Kd.M (Kd.int .i64) _ _ _ 99 [.int .i64 99] from rfl) (Reps.one (show Kd.M (Kd.int .i64) _ _ _ (-99) [.int .i64 (-99)] from rfl) (Reps.one (show Kd.M (Kd.int .i64) _ _ _ 100 [.int .i64 100] from rfl) (Reps.one (show Kd.M (Kd.int .i64) _ _ _ (-100) [.int .i64 (-100)] from rfl) (Reps.none _ _))))))
           intro v142 w52 ho53 hb hg_ hnew_
           clear hg_ hnew_
           (first | rw [← Ny141.out] at ho53 | (simp only [Int.reduceToNat] at ho53; rw [← Ny141.out] at ho53))
           have n0_ := aM (Kd.R_elder' (xR HO_120000.out) (Kd.R_base ho53) hb)
           have n1_ := aM (Kd.R_lower (Kd.R_new' ho53 (Kd.R_lt (xR HO_120000.out))) (keep_size (w := w) (g := g) (row := none) (xK2 HK.out GW112.out GW119.out)))
           have n2_ := aM (bB (g := gb112) (o := .cells #[.slice none 0 0, .int .i64 0] 26 (0, 0)) (xB BK112.out) hb)
           have n3_ := aM (bB (g := gb119) (o := .cells #[u120000, .int .i64 (wrap64 ((wrap64 (t126 - t116)) - 1))] 26 (0, 0)) (xB BK119.out) hb)
           have n4_ := aM (IsS75.below (IsS75.x2 HI0.out NB0_112.out NB0_119.out) hb)
           have n5_ := aM (KeepBut.trans (xK2 HK.out GW112.out GW119.out) (KeepBut.of_below hb g none) (.inl rfl))
           have n6_ := aM (below_step (xG3 HB.out (IsS75.ge HI0.out) GE112.out GE119.out) hb)
           clear HO_120000 BK112 BK119 HI0 HK HB
           have HO_120000 := n0_
           have HO143 := n1_
           have BK112 := n2_
           have BK119 := n3_
           have HI0 := n4_
           have HK := n5_
           have HB := n6_
           clear n0_ n1_ n2_ n3_ n4_ n5_ n6_ hb ho53
           refine hK.out _ _ ⟨(bC BK119.out 0).trans rfl, (bC BK119.out 1).trans rfl⟩ (fun hHeld => ?_)
           clear hK K
           refine norm_ (a' := ?_) ?_ ?_
           rotate_left
           ·
            show Act.put _ (some 56) _ = _
            simp only [Act.put, sA, sZ, sU, i64_w, i32_w]
            rfl
           exact norm_ (by simp only [putAll, Act.put, sA, sZ, sU]) (hCont (v142) _ ⟨hHeld, (by (with_reducible repeat (first | apply rA | apply rN | apply rD)); exact rM HO143.out (fun _ hk => by first | exact hk.2 | exact trivial)), (by (with_reducible repeat (first | apply rA | apply rN | apply rD)); exact rM HO_120000.out (fun _ hk => hk.2)), (xB BK112.out), (xB BK119.out), (IsS75.x2 HI0.out NB0_112.out NB0_119.out), (xK2 HK.out GW112.out GW119.out), (xG3 HB.out (IsS75.ge HI0.out) GE112.out GE119.out)⟩)
          ·
           skip
           refine Kd.R_lit_step (Kd.int .i64) _ 3 ?hg (N := 56) ?hd (xs := ([99, (-99), 100, (-100)] : List Int)) (inner := [.int .i64 99, .int .i64 (-99), .int .i64 100, .int .i64 (-100)]) (ok := fun _ => True) (okp := fun _ => True) ?hr ?hp (fun _ hk => hk) trivial (Below.refl _ _) (Nat.le_refl _) (by simp) ?_; (case hd => rfl); (case hg => rfl); (case hr => first | (go_simp; done) | (go_simp; rfl)); (case hp => exact (Reps.one (show Kd.M (Kd.int .i64) _ _ _ 99 [.int .i64 99] from rfl) (Reps.one (show Kd.M (Kd.int .i64) _ _ _ (-99) [.int .i64 (-99)] from rfl) (Reps.one (show Kd.M (Kd.int .i64) _ _ _ 100 [.int .i64 100] from rfl) (Reps.one (show Kd.M (Kd.int .i64) _ _ _ (-100) [.int .i64 (-100)] from rfl) (Reps.none _ _))))))
           intro v142 w51 ho52 hb hg_ hnew_
           clear hg_ hnew_
           (first | rw [← Ny141.out] at ho52 | (simp only [Int.reduceToNat] at ho52; rw [← Ny141.out] at ho52))
           have n0_ := aM (Kd.R_elder' (xR HO_120000.out) (Kd.R_base ho52) hb)
           have n1_ := aM (Kd.R_lower (Kd.R_new' ho52 (Kd.R_lt (xR HO_120000.out))) (keep_size (w := w) (g := g) (row := none) (xK2 HK.out GW112.out GW119.out)))
           have n2_ := aM (bB (g := gb112) (o := .cells #[.slice none 0 0, .int .i64 0] 26 (0, 0)) (xB BK112.out) hb)
           have n3_ := aM (bB (g := gb119) (o := .cells #[u120000, .int .i64 (wrap64 ((wrap64 (t126 - t116)) - 1))] 26 (0, 0)) (xB BK119.out) hb)
           have n4_ := aM (IsS75.below (IsS75.x2 HI0.out NB0_112.out NB0_119.out) hb)
           have n5_ := aM (KeepBut.trans (xK2 HK.out GW112.out GW119.out) (KeepBut.of_below hb g none) (.inl rfl))
           have n6_ := aM (below_step (xG3 HB.out (IsS75.ge HI0.out) GE112.out GE119.out) hb)
           clear HO_120000 BK112 BK119 HI0 HK HB
           have HO_120000 := n0_
           have HO143 := n1_
           have BK112 := n2_
           have BK119 := n3_
           have HI0 := n4_
           have HK := n5_
           have HB := n6_
           clear n0_ n1_ n2_ n3_ n4_ n5_ n6_ hb ho52
           refine hK.out _ _ ⟨(bC BK119.out 0).trans rfl, (bC BK119.out 1).trans rfl⟩ (fun hHeld => ?_)
           clear hK K
           refine norm_ (a' := ?_) ?_ ?_
           rotate_left
           ·
            show Act.put _ (some 56) _ = _
            simp only [Act.put, sA, sZ, sU, i64_w, i32_w]
            rfl
           refine one_ (i := 4) (N := some 54) #[true, true, true, true, true, true, true, false, false, false] rfl rfl (one_of HT_.out (by kernel_rfl)) (by decide) (fun K hK => ?_)
           refine goes_ Try.func108 (by kernel_rfl) rfl #[.pointer (some ⟨g, 0, none⟩), .int .i64 a1] (by rfl) rfl rfl xL ?_
           with_reducible refine (spec_l1Cur_pick.calls g s0_0 t130 t131 a1 t138 t139 t140 w0 _ ?side1 ?side2 A40.out).mono ?_
           (case side1 => exact IsS75.x2 HI0.out NB0_112.out NB0_119.out)
           (case side2 => exact xG3 HB.out (IsS75.ge HI0.out) GE112.out GE119.out)
           rintro e w53 ⟨rfl, hi, hb, hk⟩
           refine ⟨_, rfl, ?_⟩
           have n0_ := aM (rM (Kd.R_keep (IsS75.apart (show IsS75 w0 _ g s0_0 t130 t131 from IsS75.x2 HI0.out NB0_112.out NB0_119.out) (xR HO_120000.out) (by decide)) hk (fun _ h => h.2)) (fun _ h => h.1))
           have n1_ := aM (KeepBut.blk hk (g' := gb112) (o := .cells #[.slice none 0 0, .int .i64 0] 26 (0, 0)) (xB BK112.out) NB112_0.out (by simp))
           have n2_ := aM (KeepBut.blk hk (g' := gb119) (o := .cells #[u120000, .int .i64 (wrap64 ((wrap64 (t126 - t116)) - 1))] 26 (0, 0)) (xB BK119.out) NB119_0.out (by simp))
           have n3_ := aM (rM (Kd.R_keep (IsS75.apart (show IsS75 w0 _ g s0_0 t130 t131 from IsS75.x2 HI0.out NB0_112.out NB0_119.out) (xR HO143.out) (by decide)) hk (fun _ h => h.2)) (fun _ h => h.1))
           have n4_ := aM (KeepBut.trans (xK2 HK.out GW112.out GW119.out) hk (.inl rfl))
           have n5_ := aM (hb)
           have n6_ := aM (hi)
           clear HO_120000 BK112 BK119 HO143 HK HB HI0
           have HO_120000 := n0_
           have BK112 := n1_
           have BK119 := n2_
           have HO143 := n3_
           have HK := n4_
           have HB := n5_
           have HI0 := n6_
           clear n0_ n1_ n2_ n3_ n4_ n5_ n6_
           (try clear hb)
           (try clear hb2)
           (try clear hk)
           (try clear hi)
           refine hK.out _ _ ⟨(bC BK119.out 0).trans rfl, (bC BK119.out 1).trans rfl⟩ (fun hHeld => ?_)
           clear hK K
           refine norm_ (a' := ?_) ?_ ?_
           rotate_left
           ·
            show Act.put _ (some 54) _ = _
            simp only [Act.put, sA, sZ, sU, i64_w, i32_w]
            rfl
           exact norm_ (by simp only [putAll, Act.put, sA, sZ, sU]) (hCont (v142) _ ⟨hHeld, (by (with_reducible repeat (first | apply rA | apply rN | apply rD)); exact rM HO143.out (fun _ hk => by first | exact hk.2 | exact trivial)), (by (with_reducible repeat (first | apply rA | apply rN | apply rD)); exact rM HO_120000.out (fun _ hk => hk.2)), (xB BK112.out), (xB BK119.out), (IsS75.x2 HI0.out NB0_112.out NB0_119.out), (xK2 HK.out GW112.out GW119.out), (xG3 HB.out (IsS75.ge HI0.out) GE112.out GE119.out)⟩)
         rintro v142 w54 ⟨hS_, h0_, h1_, h2_, h3_, h4_, h5_, h6_⟩
         have n0_ : Aside0 (Kd.R (Kd.int .i64) 3 w54 w.heap.size (fun k_ => some k_ ≠ (u120000 : Value).ownBlock) v142 y141) := ⟨h0_⟩
         have n1_ : Aside0 (Kd.R (Kd.int .i64) 3 w54 w.heap.size (fun k_ => some k_ ≠ (v142 : Value).ownBlock) u120000 x120000_1) := ⟨h1_⟩
         have n2_ : Aside0 (w54.heap[gb112]? = some (.cells #[.slice none 0 0, .int .i64 0] 26 (0, 0))) := ⟨h2_⟩
         have n3_ : Aside0 (w54.heap[gb119]? = some (.cells #[u120000, .int .i64 (wrap64 ((wrap64 (t126 - t116)) - 1))] 26 (0, 0))) := ⟨h3_⟩
         have n4_ : Aside0 (IsS75 w0 w54 g s0_0 t139 t140) := ⟨h4_⟩
         have n5_ : Aside0 (KeepBut w w54 g none) := ⟨h5_⟩
         have n6_ : Aside0 (Below w0.heap.size w0 w54) := ⟨h6_⟩
         clear HO_120000 BK112 BK119 HI0 HK HB h0_ h1_ h2_ h3_ h4_ h5_ h6_
         have HO143 := n0_
         have HO_120000 := n1_
         have BK112 := n2_
         have BK119 := n3_
         have HI0 := n4_
         have HK := n5_
         have HB := n6_
         clear n0_ n1_ n2_ n3_ n4_ n5_ n6_
         have hHeld : w54.cell? ⟨gb119, 0, none⟩ = some (u120000) ∧ w54.cell? ⟨gb119, 1, none⟩ = some (.int .i64 (wrap64 ((wrap64 (t126 - t116)) - 1))) := hS_
         obtain ⟨Ao55, co55, eo55⟩ := Kd.R_slice HO143.out
         (first | subst eo55 | (injection eo55 with f1_ f2_ f3_; have f4_ := f1_.symm; have f5_ := f3_.symm; clear f1_ f2_ f3_; subst f4_; subst f5_))
         refine norm_ (a' := ?_) ?_ ?_
         rotate_left
         ·
          simp only [putAll, Act.put, sA, sZ, sU]
          rfl
         refine one_ (i := 7) (N := some 57) #[true, true, true, true, true, true, true, true, false, false] rfl rfl (one_of HT_.out (by kernel_rfl)) (by decide) (fun K hK => ?_)
         refine goes_ Try.func57 (by kernel_rfl) rfl #[.pointer (some ⟨g, 0, none⟩), .slice Ao55 y141.length co55] (by rfl) rfl rfl xL ?_
         with_reducible refine (spec_l1Cur_among.calls g s0_0 t139 t140 _ _ y141 t144 t145 t146 w0 _ ?side1 ?side2 ?side3 ?side4 ?side5 A41.out).mono ?_
         (case side1 => exact IsS75.x2 HI0.out NB0_112.out NB0_119.out)
         (case side2 => exact xG3 HB.out (IsS75.ge HI0.out) GE112.out GE119.out)
         (case side3 => exact xC (Kd.R_reads' HO143.out).2.2)
         (case side4 => exact (Kd.R_reads' HO143.out).2.1)
         (case side5 => exact far_slice (IsS75.own_ne HI0.out HO143.out (by decide)))
         rintro e w56 ⟨rfl, hi, hb, hk⟩
         refine ⟨_, rfl, ?_⟩
         have n0_ := aM (rM (Kd.R_keep (IsS75.apart (show IsS75 w0 _ g s0_0 t139 t140 from IsS75.x2 HI0.out NB0_112.out NB0_119.out) (xR HO_120000.out) (by decide)) hk (fun _ h => h.2)) (fun _ h => h.1))
         have n1_ := aM (KeepBut.blk hk (g' := gb112) (o := .cells #[.slice none 0 0, .int .i64 0] 26 (0, 0)) (xB BK112.out) NB112_0.out (by simp))
         have n2_ := aM (KeepBut.blk hk (g' := gb119) (o := .cells #[u120000, .int .i64 (wrap64 ((wrap64 (t126 - t116)) - 1))] 26 (0, 0)) (xB BK119.out) NB119_0.out (by simp))
         have n3_ := aM (rM (Kd.R_keep (IsS75.apart (show IsS75 w0 _ g s0_0 t139 t140 from IsS75.x2 HI0.out NB0_112.out NB0_119.out) (xR HO143.out) (by decide)) hk (fun _ h => h.2)) (fun _ h => h.1))
         have n4_ := aM (KeepBut.trans (xK2 HK.out GW112.out GW119.out) hk (.inl rfl))
         have n5_ := aM (hb)
         have n6_ := aM (hi)
         clear HO_120000 BK112 BK119 HO143 HK HB HI0
         have HO_120000 := n0_
         have BK112 := n1_
         have BK119 := n2_
         have HO143 := n3_
         have HK := n4_
         have HB := n5_
         have HI0 := n6_
         clear n0_ n1_ n2_ n3_ n4_ n5_ n6_
         (try clear hb)
         (try clear hb2)
         (try clear hk)
         (try clear hi)
         have p44 : 0 ≤ (t138 : Int) := of_decide_eq_true (by first | (with_reducible assumption) | assumption)
         have q44 : (t138 : Int) < ((x120000_1.length : Int) : Int) := of_decide_eq_true (by first | (with_reducible assumption) | assumption)
         obtain ⟨go44, co44, eo44, gb44, gl44, cl44, HG44⟩ := Kd.R_form HO_120000.out (by omega)
         (first | cases eo44 | (injection eo44 with ea_ en_ ec_; (first | subst ea_ | (injection ea_ with ea_; subst ea_)); subst ec_; clear en_))
         have GB44 := aM gb44
         have GG44 := aM HG44
         clear gb44 gl44 HG44
         obtain ⟨hx44_0, hf44_0⟩ := Kd.R_celln 0 HO_120000.out (t138 : Int) p44 q44
         replace p44 := eq_true p44
         replace q44 := eq_true q44
         have HN0_go44 := aM (show g ≠ go44 from by have h_ := IsS75.own_ne HI0.out HO_120000.out (by decide); intro e_; exact h_ (by rw [e_]; rfl))
         have HP57 := Kd.R_putn HO_120000.out (t138 : Int) t144
         rw [← Ny147.out] at HP57
         have HQ57 := aM HP57
         clear HP57
         refine hK.out _ _ ⟨(bC BK119.out 0).trans rfl, (bC BK119.out 1).trans rfl⟩ (fun hHeld => ?_)
         clear hK K
         refine norm_ (a' := ?_) ?_ ?_
         rotate_left
         ·
          show Act.put _ (some 57) _ = _
          simp only [Act.put, sA, sZ, sU, i64_w, i32_w]
          rfl
         refine pure_ (i := 8) (N := some 58) (v := ?_) (a' := ?_) #[true, true, true, true, true, true, true, true, true, false] rfl rfl (any_of HT_.out (by kernel_rfl)) (fun _ _ _ h => h) (Or.inl ⟨by rfl, ?_⟩) ?_ ?_
         rotate_left
         ·
          intro w'
          go_simp
          with_reducible rfl
         rotate_left
         ·
          simp only [Act.put, sA, sZ, sU, i64_w, i32_w]
          rfl
         refine last_ (i := 9) (N := none) #[true, true, true, true, true, true, true, true, true, true] rfl rfl (one_of HT_.out (by kernel_rfl)) (by decide) (fun K hK => ?_)
         refine skip_ (w1 := ?_) (by rfl) rfl ?_ ?_
         rotate_left
         ·
          go_simp
          rfl
         refine hK.out _ _ ?_
         clear hK K
         refine done_ (done_of HT_.out (by kernel_rfl)) ?_
         have n0_ : Aside0 (Kd.R (Kd.int .i64) 3 (w56.setCell ⟨go44, (t138 : Int).toNat, none⟩ (.int .i64 t144)) w.heap.size (fun k_ => some k_ ≠ (.slice Ao55 y141.length co55 : Value).ownBlock) (.slice (some ⟨go44, 0, none⟩) x120000_1.length co44) y147) := ⟨xR HQ57.out⟩
         have n1_ : Aside0 (Kd.R (Kd.int .i64) 3 (w56.setCell ⟨go44, (t138 : Int).toNat, none⟩ (.int .i64 t144)) w.heap.size (fun k_ => some k_ ≠ (.slice (some ⟨go44, 0, none⟩) x120000_1.length co44 : Value).ownBlock) (.slice Ao55 y141.length co55) y141) := ⟨by (with_reducible repeat (first | apply rA | apply rN | apply rD)); exact rM (Kd.R_far (p := ⟨go44, (t138 : Int).toNat, none⟩) (rM HO143.out (fun k_ hk => (⟨hk, fun e_ => hk (by rw [e_]; rfl)⟩ : _ ∧ k_ ≠ go44))) (fun _ hk => hk.2) (.int .i64 t144)) (fun _ hk => hk.1)⟩
         have n2_ : Aside0 ((w56.setCell ⟨go44, (t138 : Int).toNat, none⟩ (.int .i64 t144)).heap[gb112]? = some (.cells #[.slice none 0 0, .int .i64 0] 26 (0, 0))) := ⟨by (with_reducible repeat (first | refine bN ?_ _ | refine bD ?_ | refine bA ?_ _)); refine blk_far ?_ (by have h_ := Kd.R_ne HO_120000.out BK112.out (by decide); intro e_; exact h_ (by rw [e_]; rfl)) _; (with_reducible repeat (first | refine bN ?_ _ | refine bD ?_ | refine bA ?_ _)); exact BK112.out⟩
         have n3_ : Aside0 ((w56.setCell ⟨go44, (t138 : Int).toNat, none⟩ (.int .i64 t144)).heap[gb119]? = some (.cells #[.slice (some ⟨go44, 0, none⟩) x120000_1.length co44, .int .i64 (wrap64 ((wrap64 (t126 - t116)) - 1))] 26 (0, 0))) := ⟨by (with_reducible repeat (first | refine bN ?_ _ | refine bD ?_ | refine bA ?_ _)); refine blk_far ?_ (by have h_ := Kd.R_ne HO_120000.out BK119.out (by decide); intro e_; exact h_ (by rw [e_]; rfl)) _; (with_reducible repeat (first | refine bN ?_ _ | refine bD ?_ | refine bA ?_ _)); exact BK119.out⟩
         have n4_ : Aside0 (IsS75 w0 (w56.setCell ⟨go44, (t138 : Int).toNat, none⟩ (.int .i64 t144)) g s0_0 t145 t146) := ⟨IsS75.x3 HI0.out HN0_go44.out NB0_112.out NB0_119.out⟩
         have n5_ : Aside0 (KeepBut w (w56.setCell ⟨go44, (t138 : Int).toNat, none⟩ (.int .i64 t144)) g none) := ⟨xK3 HK.out GB44.out GW112.out GW119.out⟩
         have n6_ : Aside0 (Below w0.heap.size w0 (w56.setCell ⟨go44, (t138 : Int).toNat, none⟩ (.int .i64 t144))) := ⟨by repeat (first | (with_reducible first | exact HB.out | apply eA | apply eN | apply eD | refine eS ?_ (Nat.le_trans HL.out GB44.out) | refine eS ?_ (IsS75.ge HI0.out) | refine eS ?_ GE112.out | refine eS ?_ GE119.out) | exact HB.out)⟩
         (try clear HO_120000)
         (try clear HO143)
         (try clear BK112)
         (try clear BK119)
         (try clear HI0)
         (try clear HK)
         (try clear HB)
         generalize (w56.setCell ⟨go44, (t138 : Int).toNat, none⟩ (.int .i64 t144)) = w58 at n0_ n1_ n2_ n3_ n4_ n5_ n6_ ⊢
         have HO_120000 := n0_
         have HO143 := n1_
         have BK112 := n2_
         have BK119 := n3_
         have HI0 := n4_
         have HK := n5_
         have HB := n6_
         clear n0_ n1_ n2_ n3_ n4_ n5_ n6_
         have hcz59_0 : w58.cell? ⟨gb119, 0, none⟩ = some (.slice (some ⟨go44, 0, none⟩) x120000_1.length co44) := (bC BK119.out 0).trans rfl
         have hcz59_1 : w58.cell? ⟨gb119, 1, none⟩ = some (.int .i64 (wrap64 ((wrap64 (t126 - t116)) - 1))) := (bC BK119.out 1).trans rfl
         have hfz59_0 := bF BK119.out 0
         have hfz59_1 := bF BK119.out 1
         have hnb60 := NB112_0.out
         have hnc60 := NB0_112.out
         have hcz61_0 : w58.cell? ⟨gb112, 0, none⟩ = some (.slice none 0 0) := (bC BK112.out 0).trans rfl
         have hcz61_1 : w58.cell? ⟨gb112, 1, none⟩ = some (.int .i64 0) := (bC BK112.out 1).trans rfl
         have hfz61_0 := bF BK112.out 0
         have hfz61_1 := bF BK112.out 1
         try go_wp2
         refine bodyPost_ret (results_cell_row rfl _ _ gb112 26 #[.slice (some ⟨go44, 0, none⟩) x120000_1.length co44, .int .i64 (wrap64 ((wrap64 (t126 - t116)) - 1))] (0, 0) _ rfl (by (with_reducible repeat (first | refine bN ?_ _ | refine bD ?_ | refine bA ?_ _)); refine blk_put (cs := #[.slice (some ⟨go44, 0, none⟩) x120000_1.length co44, .int .i64 0]) ?_ 1 _ rfl; (with_reducible repeat (first | refine bN ?_ _ | refine bD ?_ | refine bA ?_ _)); refine blk_put (cs := #[.slice none 0 0, .int .i64 0]) ?_ 0 _ rfl; (with_reducible repeat (first | refine bN ?_ _ | refine bD ?_ | refine bA ?_ _)); exact BK112.out) Try.underlying26 rfl (by kernel_rfl)) rfl ?_
         exact ⟨_, by first | rfl | (simp [errW_none, errW_some] <;> rfl) | (simp [*, errW_none, errW_some] <;> rfl), by (with_reducible repeat (first | apply rA | apply rN | apply rD)); exact rM (Kd.R_far (p := ⟨gb112, 1, none⟩) (Kd.R_far (p := ⟨gb112, 0, none⟩) (Kd.R_types HO_120000.out BK112.out (by decide)) (fun _ hk => hk.2) (.slice (some ⟨go44, 0, none⟩) x120000_1.length co44)) (fun _ hk => hk.2) (.int .i64 (wrap64 ((wrap64 (t126 - t116)) - 1)))) (fun _ hk => trivial), IsS75.x2 HI0.out NB0_112.out NB0_119.out, xG3 HB.out (IsS75.ge HI0.out) GE112.out GE119.out, xK2 HK.out GW112.out GW119.out⟩
        ·
         rw [if_neg c43] at H
         exact absurd H (by simp)
       ·
        rw [if_neg c42] at H
        exact absurd H (by simp)
      ·
       rw [if_neg c39] at H
       have c39b0 : decide (0 < a1) = false := decide_eq_false c39
       clear c39
       simp only [Option.some.injEq, Prod.mk.injEq] at H
       obtain ⟨rfl, rfl, rfl, rfl⟩ := H
       go_wp2_with (first | ((with_reducible refine gate_callee (f := 108) rfl ?_); refine goesL_ (some 33) rfl rfl Try.func108 (by kernel_rfl) rfl #[.pointer (some ⟨g, 0, none⟩), .int .i64 (wrap64 ((wrap64 (2 * t116)) + 3))] rfl xL ?_; (with_reducible refine (spec_l1Cur_pick.calls g s0_0 x1001_1 x1002_1 (wrap64 ((wrap64 (2 * t116)) + 3)) t126 t127 t128 w0 _ ?side1 ?side2 A21.out).mono ?_); (case side1 => exact IsS75.x2 HI0.out NB0_112.out NB0_119.out); (case side2 => exact xG3 HB.out (IsS75.ge HI0.out) GE112.out GE119.out); rintro e w62 ⟨rfl, hi, hb, hk⟩; refine ⟨_, rfl, ?_⟩; replace HO_120000 := aM (rM (Kd.R_keep (IsS75.apart (show IsS75 w0 _ g s0_0 x1001_1 x1002_1 from IsS75.x2 HI0.out NB0_112.out NB0_119.out) (xR HO_120000.out) (by decide)) hk (fun _ h => h.2)) (fun _ h => h.1)); replace BK112 := aM (KeepBut.blk hk (g' := gb112) (o := .cells #[.slice none 0 0, .int .i64 0] 26 (0, 0)) (xB BK112.out) NB112_0.out (by simp)); replace BK119 := aM (KeepBut.blk hk (g' := gb119) (o := .cells #[u120000, .int .i64 0] 26 (0, 0)) (xB BK119.out) NB119_0.out (by simp)); replace HK := aM (KeepBut.trans (xK2 HK.out GW112.out GW119.out) hk (.inl rfl)); replace HB := aM (hb); replace HI0 := aM (hi); (try clear hb; try clear hb2; try clear hk; try clear hi); have hnb63 := NB119_112.out; have hnc63 := NB112_119.out; have hnb64 := NB119_0.out; have hnc64 := NB0_119.out; have hcz65_0 : w62.cell? ⟨gb119, 0, none⟩ = some (u120000) := (bC BK119.out 0).trans rfl; have hcz65_1 : w62.cell? ⟨gb119, 1, none⟩ = some (.int .i64 0) := (bC BK119.out 1).trans rfl; have hfz65_0 := bF BK119.out 0; have hfz65_1 := bF BK119.out 1) | ((with_reducible refine gate_callee (f := 108) rfl ?_); refine goesL_ (some 39) rfl rfl Try.func108 (by kernel_rfl) rfl #[.pointer (some ⟨g, 0, none⟩), .int .i64 60] rfl xL ?_; (with_reducible refine (spec_l1Cur_pick.calls g s0_0 t127 t128 60 t129 t130 t131 w0 _ ?side1 ?side2 A22.out).mono ?_); (case side1 => exact IsS75.x2 HI0.out NB0_112.out NB0_119.out); (case side2 => exact xG3 HB.out (IsS75.ge HI0.out) GE112.out GE119.out); rintro e w66 ⟨rfl, hi, hb, hk⟩; refine ⟨_, rfl, ?_⟩; replace HO_120000 := aM (rM (Kd.R_keep (IsS75.apart (show IsS75 w0 _ g s0_0 t127 t128 from IsS75.x2 HI0.out NB0_112.out NB0_119.out) (by (with_reducible repeat (first | apply rA | apply rN | apply rD)); exact (rM (Kd.R_far (p := ⟨gb119, 1, none⟩) (Kd.R_types HO_120000.out BK119.out (by decide)) (fun _ hk => hk.2) (.int .i64 (wrap64 ((wrap64 (t126 - t116)) - 1)))) (fun _ h_ => h_.1))) (by decide)) hk (fun _ h => h.2)) (fun _ h => h.1)); replace BK112 := aM (KeepBut.blk hk (g' := gb112) (o := .cells #[.slice none 0 0, .int .i64 0] 26 (0, 0)) (by (with_reducible repeat (first | refine bN ?_ _ | refine bD ?_ | refine bA ?_ _)); refine blk_far ?_ NB112_119.out _; (with_reducible repeat (first | refine bN ?_ _ | refine bD ?_ | refine bA ?_ _)); exact BK112.out) NB112_0.out (by simp)); replace BK119 := aM (KeepBut.blk hk (g' := gb119) (o := .cells #[u120000, .int .i64 (wrap64 ((wrap64 (t126 - t116)) - 1))] 26 (0, 0)) (by (with_reducible repeat (first | refine bN ?_ _ | refine bD ?_ | refine bA ?_ _)); refine blk_put (cs := #[u120000, .int .i64 0]) ?_ 1 _ rfl; (with_reducible repeat (first | refine bN ?_ _ | refine bD ?_ | refine bA ?_ _)); exact BK119.out) NB119_0.out (by simp)); replace HK := aM (KeepBut.trans (xK2 HK.out GW112.out GW119.out) hk (.inl rfl)); replace HB := aM (hb); replace HI0 := aM (hi); (try clear hb; try clear hb2; try clear hk; try clear hi); have hcz67_0 : w66.cell? ⟨gb119, 0, none⟩ = some (u120000) := (bC BK119.out 0).trans rfl; have hcz67_1 : w66.cell? ⟨gb119, 1, none⟩ = some (.int .i64 (wrap64 ((wrap64 (t126 - t116)) - 1))) := (bC BK119.out 1).trans rfl; have hfz67_0 := bF BK119.out 0; have hfz67_1 := bF BK119.out 1; obtain ⟨Ao68, co68, eo68⟩ := Kd.R_slice HO_120000.out; subst eo68; have hnb69 := NB112_0.out; have hnc69 := NB0_112.out; have hcz70_0 : w66.cell? ⟨gb112, 0, none⟩ = some (.slice none 0 0) := (bC BK112.out 0).trans rfl; have hcz70_1 : w66.cell? ⟨gb112, 1, none⟩ = some (.int .i64 0) := (bC BK112.out 1).trans rfl; have hfz70_0 := bF BK112.out 0; have hfz70_1 := bF BK112.out 1))
       refine bodyPost_ret (results_cell_row rfl _ _ gb112 26 #[.slice Ao68 x120000_1.length co68, .int .i64 (wrap64 ((wrap64 (t126 - t116)) - 1))] (0, 0) _ rfl (by (with_reducible repeat (first | refine bN ?_ _ | refine bD ?_ | refine bA ?_ _)); refine blk_put (cs := #[.slice Ao68 x120000_1.length co68, .int .i64 0]) ?_ 1 _ rfl; (with_reducible repeat (first | refine bN ?_ _ | refine bD ?_ | refine bA ?_ _)); refine blk_put (cs := #[.slice none 0 0, .int .i64 0]) ?_ 0 _ rfl; (with_reducible repeat (first | refine bN ?_ _ | refine bD ?_ | refine bA ?_ _)); exact BK112.out) Try.underlying26 rfl (by kernel_rfl)) rfl ?_
       exact ⟨_, by first | rfl | (simp [errW_none, errW_some] <;> rfl) | (simp [*, errW_none, errW_some] <;> rfl), by (with_reducible repeat (first | apply rA | apply rN | apply rD)); exact rM (Kd.R_far (p := ⟨gb112, 1, none⟩) (Kd.R_far (p := ⟨gb112, 0, none⟩) (Kd.R_types HO_120000.out BK112.out (by decide)) (fun _ hk => hk.2) (.slice Ao68 x120000_1.length co68)) (fun _ hk => hk.2) (.int .i64 (wrap64 ((wrap64 (t126 - t116)) - 1)))) (fun _ hk => trivial), IsS75.x2 HI0.out NB0_112.out NB0_119.out, xG3 HB.out (IsS75.ge HI0.out) GE112.out GE119.out, xK2 HK.out GW112.out GW119.out⟩
     ·
      rw [if_neg c38] at H
      have c38b0 : (t129 == 1) = false := beq_eq_false_iff_ne.mpr c38
      have c38b1 : (t129 != 1) = true := bne_iff_ne.mpr c38
      by_cases c71 : t129 = 2
      ·
       rw [if_pos c71] at H
       have c71b0 : (t129 == 2) = true := beq_iff_eq.mpr c71
       have c71b1 : (t129 != 2) = false := bne_eq_false_iff_eq.mpr c71
       clear c71
       by_cases c72 : x120000_1.length < 17592186044416
       ·
        rw [if_pos c72] at H
        have LMc72 := aM c72
        clear c72
        obtain ⟨y148, hy148⟩ : ∃ y_ : List Int, y_ = (x120000_1 ++ [1]) := ⟨_, rfl⟩
        replace H : (some (y148, wrap64 ((wrap64 (t126 - t116)) - 1), t130, t131)) = some (r1, r2, r3, r4) := by first | (rw [hy148]; with_reducible exact H) | (have H2_ := (Option.bind_some _ _).symm.trans H; rw [hy148]; with_reducible exact H2_) | (have H2_ := (Option.bind_some _ _).symm.trans H; with_reducible exact H2_) | with_reducible exact H | (rw [hy148]; exact H) | exact H
        have Ny148 := aM hy148
        clear hy148
        simp only [Option.some.injEq, Prod.mk.injEq] at H
        obtain ⟨rfl, rfl, rfl, rfl⟩ := H
        go_wp2_with (first | ((with_reducible refine gate_callee (f := 108) rfl ?_); refine goesL_ (some 33) rfl rfl Try.func108 (by kernel_rfl) rfl #[.pointer (some ⟨g, 0, none⟩), .int .i64 (wrap64 ((wrap64 (2 * t116)) + 3))] rfl xL ?_; (with_reducible refine (spec_l1Cur_pick.calls g s0_0 x1001_1 x1002_1 (wrap64 ((wrap64 (2 * t116)) + 3)) t126 t127 t128 w0 _ ?side1 ?side2 A21.out).mono ?_); (case side1 => exact IsS75.x2 HI0.out NB0_112.out NB0_119.out); (case side2 => exact xG3 HB.out (IsS75.ge HI0.out) GE112.out GE119.out); rintro e w73 ⟨rfl, hi, hb, hk⟩; refine ⟨_, rfl, ?_⟩; replace HO_120000 := aM (rM (Kd.R_keep (IsS75.apart (show IsS75 w0 _ g s0_0 x1001_1 x1002_1 from IsS75.x2 HI0.out NB0_112.out NB0_119.out) (xR HO_120000.out) (by decide)) hk (fun _ h => h.2)) (fun _ h => h.1)); replace BK112 := aM (KeepBut.blk hk (g' := gb112) (o := .cells #[.slice none 0 0, .int .i64 0] 26 (0, 0)) (xB BK112.out) NB112_0.out (by simp)); replace BK119 := aM (KeepBut.blk hk (g' := gb119) (o := .cells #[u120000, .int .i64 0] 26 (0, 0)) (xB BK119.out) NB119_0.out (by simp)); replace HK := aM (KeepBut.trans (xK2 HK.out GW112.out GW119.out) hk (.inl rfl)); replace HB := aM (hb); replace HI0 := aM (hi); (try clear hb; try clear hb2; try clear hk; try clear hi); have hnb74 := NB119_112.out; have hnc74 := NB112_119.out; have hnb75 := NB119_0.out; have hnc75 := NB0_119.out; have hcz76_0 : w73.cell? ⟨gb119, 0, none⟩ = some (u120000) := (bC BK119.out 0).trans rfl; have hcz76_1 : w73.cell? ⟨gb119, 1, none⟩ = some (.int .i64 0) := (bC BK119.out 1).trans rfl; have hfz76_0 := bF BK119.out 0; have hfz76_1 := bF BK119.out 1) | ((with_reducible refine gate_callee (f := 108) rfl ?_); refine goesL_ (some 39) rfl rfl Try.func108 (by kernel_rfl) rfl #[.pointer (some ⟨g, 0, none⟩), .int .i64 60] rfl xL ?_; (with_reducible refine (spec_l1Cur_pick.calls g s0_0 t127 t128 60 t129 t130 t131 w0 _ ?side1 ?side2 A22.out).mono ?_); (case side1 => exact IsS75.x2 HI0.out NB0_112.out NB0_119.out); (case side2 => exact xG3 HB.out (IsS75.ge HI0.out) GE112.out GE119.out); rintro e w77 ⟨rfl, hi, hb, hk⟩; refine ⟨_, rfl, ?_⟩; replace HO_120000 := aM (rM (Kd.R_keep (IsS75.apart (show IsS75 w0 _ g s0_0 t127 t128 from IsS75.x2 HI0.out NB0_112.out NB0_119.out) (by (with_reducible repeat (first | apply rA | apply rN | apply rD)); exact (rM (Kd.R_far (p := ⟨gb119, 1, none⟩) (Kd.R_types HO_120000.out BK119.out (by decide)) (fun _ hk => hk.2) (.int .i64 (wrap64 ((wrap64 (t126 - t116)) - 1)))) (fun _ h_ => h_.1))) (by decide)) hk (fun _ h => h.2)) (fun _ h => h.1)); replace BK112 := aM (KeepBut.blk hk (g' := gb112) (o := .cells #[.slice none 0 0, .int .i64 0] 26 (0, 0)) (by (with_reducible repeat (first | refine bN ?_ _ | refine bD ?_ | refine bA ?_ _)); refine blk_far ?_ NB112_119.out _; (with_reducible repeat (first | refine bN ?_ _ | refine bD ?_ | refine bA ?_ _)); exact BK112.out) NB112_0.out (by simp)); replace BK119 := aM (KeepBut.blk hk (g' := gb119) (o := .cells #[u120000, .int .i64 (wrap64 ((wrap64 (t126 - t116)) - 1))] 26 (0, 0)) (by (with_reducible repeat (first | refine bN ?_ _ | refine bD ?_ | refine bA ?_ _)); refine blk_put (cs := #[u120000, .int .i64 0]) ?_ 1 _ rfl; (with_reducible repeat (first | refine bN ?_ _ | refine bD ?_ | refine bA ?_ _)); exact BK119.out) NB119_0.out (by simp)); replace HK := aM (KeepBut.trans (xK2 HK.out GW112.out GW119.out) hk (.inl rfl)); replace HB := aM (hb); replace HI0 := aM (hi); (try clear hb; try clear hb2; try clear hk; try clear hi); have hcz78_0 : w77.cell? ⟨gb119, 0, none⟩ = some (u120000) := (bC BK119.out 0).trans rfl; have hcz78_1 : w77.cell? ⟨gb119, 1, none⟩ = some (.int .i64 (wrap64 ((wrap64 (t126 - t116)) - 1))) := (bC BK119.out 1).trans rfl; have hfz78_0 := bF BK119.out 0; have hfz78_1 := bF BK119.out 1) | ((with_reducible refine gate_builtin (b := .append) (xs := #[.tmp 62, .tmp 63]) rfl ?_); at_builtin; refine Kd.R_append (Kd.int .i64) w.heap.size rfl (.tmp 62) (.tmp 63) 24 3 (.int .i64 0) 8 rfl Try.underlying24 info3 rfl (by decide) (by omega) u120000 x120000_1 1 [.int .i64 1] (fun _ => True) (fun _ => False) rfl rfl ?aP (fun _ hk => hk.elim) ?aF ?aO (Below.refl _ _) ?aS ?aL ?_; (case aP => exact rfl); (case aF => exact (fun _ _ => trivial)); (case aO => exact (xR HO_120000.out)); (case aS => exact (keep_size (w := w) (g := g) (row := none) (xK2 HK.out GW112.out GW119.out))); (case aL => have := LMc72.out; omega); intro v149 w79 ho hb hg hat; rw [← Ny148.out] at ho; replace BK112 := aM (blk_grown (g := gb112) (o := .cells #[.slice none 0 0, .int .i64 0] 26 (0, 0)) (xB BK112.out) hg (Kd.R_ne HO_120000.out BK112.out (by decide))); replace BK119 := aM (blk_grown (g := gb119) (o := .cells #[u120000, .int .i64 (wrap64 ((wrap64 (t126 - t116)) - 1))] 26 (0, 0)) (xB BK119.out) hg (Kd.R_ne HO_120000.out BK119.out (by decide))); replace HB := aM (below_weaken (xG3 HB.out (IsS75.ge HI0.out) GE112.out GE119.out) HL.out hb); replace HI0 := aM (IsS75.grown (IsS75.x2 HI0.out NB0_112.out NB0_119.out) hg (IsS75.own_ne HI0.out HO_120000.out (by decide))); replace HK := aM (KeepBut.trans (xK2 HK.out GW112.out GW119.out) (KeepBut.of_grown hg g) (Kd.R_base2 HO_120000.out)); have HO150 := aM (ho); clear HO_120000; clear ho hb hg hat; obtain ⟨Ao80, co80, eo80⟩ := Kd.R_slice HO150.out; subst eo80; have hcz81_0 : w79.cell? ⟨gb119, 0, none⟩ = some (u120000) := (bC BK119.out 0).trans rfl; have hcz81_1 : w79.cell? ⟨gb119, 1, none⟩ = some (.int .i64 (wrap64 ((wrap64 (t126 - t116)) - 1))) := (bC BK119.out 1).trans rfl; have hfz81_0 := bF BK119.out 0; have hfz81_1 := bF BK119.out 1; have hnb82 := NB112_0.out; have hnc82 := NB0_112.out; have hcz83_0 : w79.cell? ⟨gb112, 0, none⟩ = some (.slice none 0 0) := (bC BK112.out 0).trans rfl; have hcz83_1 : w79.cell? ⟨gb112, 1, none⟩ = some (.int .i64 0) := (bC BK112.out 1).trans rfl; have hfz83_0 := bF BK112.out 0; have hfz83_1 := bF BK112.out 1))
        refine bodyPost_ret (results_cell_row rfl _ _ gb112 26 #[.slice Ao80 y148.length co80, .int .i64 (wrap64 ((wrap64 (t126 - t116)) - 1))] (0, 0) _ rfl (by (with_reducible repeat (first | refine bN ?_ _ | refine bD ?_ | refine bA ?_ _)); refine blk_put (cs := #[.slice Ao80 y148.length co80, .int .i64 0]) ?_ 1 _ rfl; (with_reducible repeat (first | refine bN ?_ _ | refine bD ?_ | refine bA ?_ _)); refine blk_put (cs := #[.slice none 0 0, .int .i64 0]) ?_ 0 _ rfl; (with_reducible repeat (first | refine bN ?_ _ | refine bD ?_ | refine bA ?_ _)); refine blk_far ?_ NB112_119.out _; (with_reducible repeat (first | refine bN ?_ _ | refine bD ?_ | refine bA ?_ _)); exact BK112.out) Try.underlying26 rfl (by kernel_rfl)) rfl ?_
        exact ⟨_, by first | rfl | (simp [errW_none, errW_some] <;> rfl) | (simp [*, errW_none, errW_some] <;> rfl), by (with_reducible repeat (first | apply rA | apply rN | apply rD)); exact rM (Kd.R_far (p := ⟨gb112, 1, none⟩) (Kd.R_far (p := ⟨gb112, 0, none⟩) (Kd.R_far (p := ⟨gb119, 0, none⟩) (Kd.R_types (Kd.R_types HO150.out BK119.out (by decide)) BK112.out (by decide)) (fun _ hk => hk.1.2) (.slice Ao80 y148.length co80)) (fun _ hk => hk.2) (.slice Ao80 y148.length co80)) (fun _ hk => hk.2) (.int .i64 (wrap64 ((wrap64 (t126 - t116)) - 1)))) (fun _ hk => trivial), IsS75.x2 HI0.out NB0_112.out NB0_119.out, xG3 HB.out (IsS75.ge HI0.out) GE112.out GE119.out, xK2 HK.out GW112.out GW119.out⟩
       ·
        rw [if_neg c72] at H
        exact absurd H (by simp)
      ·
       rw [if_neg c71] at H
       have c71b0 : (t129 == 2) = false := beq_eq_false_iff_ne.mpr c71
       have c71b1 : (t129 != 2) = true := bne_iff_ne.mpr c71
       simp only [Option.some.injEq, Prod.mk.injEq] at H
       obtain ⟨rfl, rfl, rfl, rfl⟩ := H
       go_wp2_with (first | ((with_reducible refine gate_callee (f := 108) rfl ?_); refine goesL_ (some 33) rfl rfl Try.func108 (by kernel_rfl) rfl #[.pointer (some ⟨g, 0, none⟩), .int .i64 (wrap64 ((wrap64 (2 * t116)) + 3))] rfl xL ?_; (with_reducible refine (spec_l1Cur_pick.calls g s0_0 x1001_1 x1002_1 (wrap64 ((wrap64 (2 * t116)) + 3)) t126 t127 t128 w0 _ ?side1 ?side2 A21.out).mono ?_); (case side1 => exact IsS75.x2 HI0.out NB0_112.out NB0_119.out); (case side2 => exact xG3 HB.out (IsS75.ge HI0.out) GE112.out GE119.out); rintro e w84 ⟨rfl, hi, hb, hk⟩; refine ⟨_, rfl, ?_⟩; replace HO_120000 := aM (rM (Kd.R_keep (IsS75.apart (show IsS75 w0 _ g s0_0 x1001_1 x1002_1 from IsS75.x2 HI0.out NB0_112.out NB0_119.out) (xR HO_120000.out) (by decide)) hk (fun _ h => h.2)) (fun _ h => h.1)); replace BK112 := aM (KeepBut.blk hk (g' := gb112) (o := .cells #[.slice none 0 0, .int .i64 0] 26 (0, 0)) (xB BK112.out) NB112_0.out (by simp)); replace BK119 := aM (KeepBut.blk hk (g' := gb119) (o := .cells #[u120000, .int .i64 0] 26 (0, 0)) (xB BK119.out) NB119_0.out (by simp)); replace HK := aM (KeepBut.trans (xK2 HK.out GW112.out GW119.out) hk (.inl rfl)); replace HB := aM (hb); replace HI0 := aM (hi); (try clear hb; try clear hb2; try clear hk; try clear hi); have hnb85 := NB119_112.out; have hnc85 := NB112_119.out; have hnb86 := NB119_0.out; have hnc86 := NB0_119.out; have hcz87_0 : w84.cell? ⟨gb119, 0, none⟩ = some (u120000) := (bC BK119.out 0).trans rfl; have hcz87_1 : w84.cell? ⟨gb119, 1, none⟩ = some (.int .i64 0) := (bC BK119.out 1).trans rfl; have hfz87_0 := bF BK119.out 0; have hfz87_1 := bF BK119.out 1) | ((with_reducible refine gate_callee (f := 108) rfl ?_); refine goesL_ (some 39) rfl rfl Try.func108 (by kernel_rfl) rfl #[.pointer (some ⟨g, 0, none⟩), .int .i64 60] rfl xL ?_; (with_reducible refine (spec_l1Cur_pick.calls g s0_0 t127 t128 60 t129 t130 t131 w0 _ ?side1 ?side2 A22.out).mono ?_); (case side1 => exact IsS75.x2 HI0.out NB0_112.out NB0_119.out); (case side2 => exact xG3 HB.out (IsS75.ge HI0.out) GE112.out GE119.out); rintro e w88 ⟨rfl, hi, hb, hk⟩; refine ⟨_, rfl, ?_⟩; replace HO_120000 := aM (rM (Kd.R_keep (IsS75.apart (show IsS75 w0 _ g s0_0 t127 t128 from IsS75.x2 HI0.out NB0_112.out NB0_119.out) (by (with_reducible repeat (first | apply rA | apply rN | apply rD)); exact (rM (Kd.R_far (p := ⟨gb119, 1, none⟩) (Kd.R_types HO_120000.out BK119.out (by decide)) (fun _ hk => hk.2) (.int .i64 (wrap64 ((wrap64 (t126 - t116)) - 1)))) (fun _ h_ => h_.1))) (by decide)) hk (fun _ h => h.2)) (fun _ h => h.1)); replace BK112 := aM (KeepBut.blk hk (g' := gb112) (o := .cells #[.slice none 0 0, .int .i64 0] 26 (0, 0)) (by (with_reducible repeat (first | refine bN ?_ _ | refine bD ?_ | refine bA ?_ _)); refine blk_far ?_ NB112_119.out _; (with_reducible repeat (first | refine bN ?_ _ | refine bD ?_ | refine bA ?_ _)); exact BK112.out) NB112_0.out (by simp)); replace BK119 := aM (KeepBut.blk hk (g' := gb119) (o := .cells #[u120000, .int .i64 (wrap64 ((wrap64 (t126 - t116)) - 1))] 26 (0, 0)) (by (with_reducible repeat (first | refine bN ?_ _ | refine bD ?_ | refine bA ?_ _)); refine blk_put (cs := #[u120000, .int .i64 0]) ?_ 1 _ rfl; (with_reducible repeat (first | refine bN ?_ _ | refine bD ?_ | refine bA ?_ _)); exact BK119.out) NB119_0.out (by simp)); replace HK := aM (KeepBut.trans (xK2 HK.out GW112.out GW119.out) hk (.inl rfl)); replace HB := aM (hb); replace HI0 := aM (hi); (try clear hb; try clear hb2; try clear hk; try clear hi); have hcz89_0 : w88.cell? ⟨gb119, 0, none⟩ = some (u120000) := (bC BK119.out 0).trans rfl; have hcz89_1 : w88.cell? ⟨gb119, 1, none⟩ = some (.int .i64 (wrap64 ((wrap64 (t126 - t116)) - 1))) := (bC BK119.out 1).trans rfl; have hfz89_0 := bF BK119.out 0; have hfz89_1 := bF BK119.out 1; obtain ⟨Ao90, co90, eo90⟩ := Kd.R_slice HO_120000.out; subst eo90; have hnb91 := NB112_0.out; have hnc91 := NB0_112.out; have hcz92_0 : w88.cell? ⟨gb112, 0, none⟩ = some (.slice none 0 0) := (bC BK112.out 0).trans rfl; have hcz92_1 : w88.cell? ⟨gb112, 1, none⟩ = some (.int .i64 0) := (bC BK112.out 1).trans rfl; have hfz92_0 := bF BK112.out 0; have hfz92_1 := bF BK112.out 1))
       refine bodyPost_ret (results_cell_row rfl _ _ gb112 26 #[.slice Ao90 x120000_1.length co90, .int .i64 (wrap64 ((wrap64 (t126 - t116)) - 1))] (0, 0) _ rfl (by (with_reducible repeat (first | refine bN ?_ _ | refine bD ?_ | refine bA ?_ _)); refine blk_put (cs := #[.slice Ao90 x120000_1.length co90, .int .i64 0]) ?_ 1 _ rfl; (with_reducible repeat (first | refine bN ?_ _ | refine bD ?_ | refine bA ?_ _)); refine blk_put (cs := #[.slice none 0 0, .int .i64 0]) ?_ 0 _ rfl; (with_reducible repeat (first | refine bN ?_ _ | refine bD ?_ | refine bA ?_ _)); exact BK112.out) Try.underlying26 rfl (by kernel_rfl)) rfl ?_
       exact ⟨_, by first | rfl | (simp [errW_none, errW_some] <;> rfl) | (simp [*, errW_none, errW_some] <;> rfl), by (with_reducible repeat (first | apply rA | apply rN | apply rD)); exact rM (Kd.R_far (p := ⟨gb112, 1, none⟩) (Kd.R_far (p := ⟨gb112, 0, none⟩) (Kd.R_types HO_120000.out BK112.out (by decide)) (fun _ hk => hk.2) (.slice Ao90 x120000_1.length co90)) (fun _ hk => hk.2) (.int .i64 (wrap64 ((wrap64 (t126 - t116)) - 1)))) (fun _ hk => trivial), IsS75.x2 HI0.out NB0_112.out NB0_119.out, xG3 HB.out (IsS75.ge HI0.out) GE112.out GE119.out, xK2 HK.out GW112.out GW119.out⟩
def spec_DrawIsPlane.f (k : Nat) (l0 : List Int) : Option (List Int × Int) := (spec_l1Cur_among.f l0 0 0 (([2, 3, 1, 4, 5, 0] : List Int))).bind fun bt156 => ((spec_l1Cur_plane.f k l0 bt156.2.1 bt156.2.2 bt156.1).bind fun bt159 => (some (bt159.1, bt159.2.1)))
theorem spec_DrawIsPlane.mono : ∀ a0 k, LeO (spec_DrawIsPlane.f k a0) (spec_DrawIsPlane.f (k + 1) a0) := by
 intro a0 k
 unfold spec_DrawIsPlane.f
 repeat' first
   | (with_reducible exact spec_l1Cur_plane.mono _ _ _ _ _)
   | (with_reducible exact LeO.refl _)
   | (with_reducible exact LeO.none _)
   | (with_reducible refine LeO.ite ?_ ?_)
   | (with_reducible refine LeO.bind ?_ (fun _ => ?_))
   | exact spec_l1Cur_plane.mono _ _ _ _ _
   | exact LeO.none _
   | refine LeO.ite ?_ ?_
   | refine LeO.bind ?_ (fun _ => ?_)
set_option maxHeartbeats 8000000 in
set_option maxRecDepth 100000 in
theorem spec_DrawIsPlane.calls (k : Nat) (A0 : Option Addr) (c0 : Nat) (l0 : List Int) (r1 : List Int) (r2 : Int) (w : World) (hr0 : Kd.C (Kd.int .u8) w A0 l0.length l0) (hc0 : l0.length ≤ c0) (h : spec_DrawIsPlane.f k l0 = some (r1, r2)) :
  Calls Try.prog 51 #[.slice A0 l0.length c0] w fun e w' => ∃ v0_ : Value, e = .returned (.agg #[v0_, .int .i64 r2]) ∧ Kd.R (Kd.int .i64) 3 w' w.heap.size (fun _ => True) v0_ r1 ∧ Below w.heap.size w w' := by
 have hu26 := Try.underlying26
 have hu75 := Try.underlying75
 have HR0 := aM hr0
 have HC0 := aM hc0
 clear hr0 hc0
 have HB := aM (Below.refl w.heap.size w)
 have H : ((spec_l1Cur_among.f l0 0 0 (([2, 3, 1, 4, 5, 0] : List Int))).bind fun bt156 => ((spec_l1Cur_plane.f k l0 bt156.2.1 bt156.2.2 bt156.1).bind fun bt159 => (some (bt159.1, bt159.2.1)))) = some (r1, r2) := h
 clear h
 obtain ⟨y153, hy153⟩ : ∃ y_ : List Int, y_ = (([2, 3, 1, 4, 5, 0] : List Int)) := ⟨_, rfl⟩
 replace H : ((spec_l1Cur_among.f l0 0 0 y153).bind fun bt156 => ((spec_l1Cur_plane.f k l0 bt156.2.1 bt156.2.2 bt156.1).bind fun bt159 => (some (bt159.1, bt159.2.1)))) = some (r1, r2) := by first | (rw [hy153]; with_reducible exact H) | (have H2_ := (Option.bind_some _ _).symm.trans H; rw [hy153]; with_reducible exact H2_) | (have H2_ := (Option.bind_some _ _).symm.trans H; with_reducible exact H2_) | with_reducible exact H | (rw [hy153]; exact H) | exact H
 have Ny153 := aM hy153
 clear hy153
 replace H := oB.mp H
 obtain ⟨⟨t156, t157, t158⟩, A20, H⟩ := H
 replace H : ((spec_l1Cur_plane.f k l0 t157 t158 t156).bind fun bt159 => (some (bt159.1, bt159.2.1))) = some (r1, r2) := H
 have A2 := aM A20
 clear A20
 replace H := oB.mp H
 obtain ⟨⟨t159, t162, t163, t164⟩, A30, H⟩ := H
 replace H : (some (t159, t162)) = some (r1, r2) := H
 have A3 := aM A30
 clear A30
 simp only [Option.some.injEq, Prod.mk.injEq] at H
 obtain ⟨rfl, rfl⟩ := H
 go_enter Try.func51, Try.ntmps51
 go_wp2_with (first | ((with_reducible refine gate_dst (N := 2) rfl ?_); refine box_event ?hg (N := 2) ?hd (cs := #[.slice none 0 0, .int .i64 0]) (t := 26) ?hr ?_; (case hd => rfl); (case hg => rfl); (case hr => first | (go_simp; done) | (go_simp; rfl)); intro gb151 hg w4 hbox hb; have BK151 := aM (hbox); have GW151 := aM ((by rw [hg]; exact (below_size (xH HB.out)) : w.heap.size ≤ gb151)); have GE151 := aM ((by rw [hg]; exact (below_size (xH HB.out)) : w.heap.size ≤ gb151)); replace HB := aM (below_step (xH HB.out) hb); clear hb hbox hg) | ((with_reducible refine gate_dst (N := 6) rfl ?_); refine box_event ?hg (N := 6) ?hd (cs := #[.slice A0 l0.length c0, .int .i64 0, .int .u64 0]) (t := 75) ?hr ?_; (case hd => rfl); (case hg => rfl); (case hr => first | (go_simp; done) | (go_simp; rfl)); intro gb152 hg w5 hbox hb; have BK152 := aM (hbox); have GW152 := aM ((by rw [hg]; exact (below_size (xG1 HB.out GE151.out)) : w.heap.size ≤ gb152)); have GE152 := aM ((by rw [hg]; exact (below_size (xG1 HB.out GE151.out)) : w.heap.size ≤ gb152)); replace HB := aM (below_step (xG1 HB.out GE151.out) hb); have NB151_152 := aM ((by rw [hg]; exact Nat.ne_of_lt (blk_lt (g := gb151) (o := .cells #[.slice none 0 0, .int .i64 0] 26 (0, 0)) (xB BK151.out)) : gb151 ≠ gb152)); have NB152_151 := aM ((by rw [hg]; exact Nat.ne_of_gt (blk_lt (g := gb151) (o := .cells #[.slice none 0 0, .int .i64 0] 26 (0, 0)) (xB BK151.out)) : gb152 ≠ gb151)); replace BK151 := aM (bB (g := gb151) (o := .cells #[.slice none 0 0, .int .i64 0] 26 (0, 0)) (xB BK151.out) hb); clear hb hbox hg) | ((with_reducible refine gate_dst (N := 9) rfl ?_); refine Kd.R_lit (Kd.int .i64) _ 3 ?hg (N := 9) ?hd (xs := ([2, 3, 1, 4, 5, 0] : List Int)) (inner := [.int .i64 2, .int .i64 3, .int .i64 1, .int .i64 4, .int .i64 5, .int .i64 0]) (ok := fun _ => True) (okp := fun _ => True) ?hr ?hp (fun _ hk => hk) trivial (Below.refl _ _) (Nat.le_refl _) (by simp) ?_; (case hd => rfl); (case hg => rfl); (case hr => first | (go_simp; done) | (go_simp; rfl)); (case hp => exact (Reps.one (show Kd.M (Kd.int .i64) _ _ _ 2 [.int .i64 2] from rfl) (Reps.one (show Kd.M (Kd.int .i64) _ _ _ 3 [.int .i64 3] from rfl) (Reps.one (show Kd.M (Kd.int .i64) _ _ _ 1 [.int .i64 1] from rfl) (Reps.one (show Kd.M (Kd.int .i64) _ _ _ 4 [.int .i64 4] from rfl) (Reps.one (show Kd.M (Kd.int .i64) _ _ _ 5 [.int .i64 5] from rfl) (Reps.one (show Kd.M (Kd.int .i64) _ _ _ 0 [.int .i64 0] from rfl) (Reps.none _ _)))))))); intro v154 w6 ho7 hb hg_ hnew_; clear hg_ hnew_; (first | rw [← Ny153.out] at ho7 | (simp only [Int.reduceToNat] at ho7; rw [← Ny153.out] at ho7)); have HO155 := aM (Kd.R_lower ho7 (below_size (xG2 HB.out GE151.out GE152.out))); replace BK151 := aM (bB (g := gb151) (o := .cells #[.slice none 0 0, .int .i64 0] 26 (0, 0)) (xB BK151.out) hb); replace BK152 := aM (bB (g := gb152) (o := .cells #[.slice A0 l0.length c0, .int .i64 0, .int .u64 0] 75 (0, 0)) (xB BK152.out) hb); replace HB := aM (below_step (xG2 HB.out GE151.out GE152.out) hb); clear hb ho7; have HI152 := aM (show IsS75 w _ gb152 l0 0 0 from ⟨_, _, BK152.out, (by first | exact GW152.out | exact GE152.out), HR0.out⟩); clear BK152; obtain ⟨Ao8, co8, eo8⟩ := Kd.R_slice HO155.out; subst eo8) | ((with_reducible refine gate_callee (f := 57) rfl ?_); refine goesL_ (some 10) rfl rfl Try.func57 (by kernel_rfl) rfl #[.pointer (some ⟨gb152, 0, none⟩), .slice Ao8 y153.length co8] rfl xL ?_; (with_reducible refine (spec_l1Cur_among.calls gb152 l0 0 0 _ _ y153 t156 t157 t158 w _ ?side1 ?side2 ?side3 ?side4 ?side5 A2.out).mono ?_); (case side1 => exact IsS75.x1 HI152.out NB152_151.out); (case side2 => exact xG2 HB.out (IsS75.ge HI152.out) GE151.out); (case side3 => exact xC (Kd.R_reads' HO155.out).2.2); (case side4 => exact (Kd.R_reads' HO155.out).2.1); (case side5 => exact far_slice (IsS75.own_ne HI152.out HO155.out (by decide))); rintro e w9 ⟨rfl, hi, hb, hk⟩; refine ⟨_, rfl, ?_⟩; replace BK151 := aM (KeepBut.blk hk (g' := gb151) (o := .cells #[.slice none 0 0, .int .i64 0] 26 (0, 0)) (xB BK151.out) NB151_152.out (by simp)); replace HO155 := aM (rM (Kd.R_keep (IsS75.apart (show IsS75 w _ gb152 l0 0 0 from IsS75.x1 HI152.out NB152_151.out) (xR HO155.out) (by decide)) hk (fun _ h => h.2)) (fun _ h => h.1)); replace HB := aM (hb); replace HI152 := aM (hi); (try clear hb; try clear hb2; try clear hk; try clear hi)) | ((with_reducible refine gate_callee (f := 105) rfl ?_); refine goesL_ (some 11) rfl rfl Try.func105 (by kernel_rfl) rfl #[.pointer (some ⟨gb152, 0, none⟩), .int .i64 t156] rfl xL ?_; (with_reducible refine (spec_l1Cur_plane.calls k gb152 l0 t157 t158 t156 t159 t162 t163 t164 w _ ?side1 ?side2 A3.out).mono ?_); (case side1 => exact IsS75.x1 HI152.out NB152_151.out); (case side2 => exact xG2 HB.out (IsS75.ge HI152.out) GE151.out); rintro e w10 ⟨v160, rfl, ho0, hi, hb, hk⟩; refine ⟨_, rfl, ?_⟩; replace BK151 := aM (KeepBut.blk hk (g' := gb151) (o := .cells #[.slice none 0 0, .int .i64 0] 26 (0, 0)) (xB BK151.out) NB151_152.out (by simp)); have HO161 := aM (Kd.R_lower (Kd.R_new' ho0 (Kd.R_lt (xR HO155.out))) (below_size (xG2 HB.out (IsS75.ge HI152.out) GE151.out))); replace HO155 := aM (rM (Kd.R_told (Kd.R_oldK (IsS75.apart (show IsS75 w _ gb152 l0 t157 t158 from IsS75.x1 HI152.out NB152_151.out) (xR HO155.out) (by decide)) hk) (Kd.R_base ho0)) (fun _ h_ => h_.1)); replace HB := aM (hb); replace HI152 := aM (hi); (try clear hb; try clear hb2; try clear hk; try clear hi; try clear ho0); obtain ⟨Ao11, co11, eo11⟩ := Kd.R_slice HO161.out; subst eo11; have hnb12 := NB151_152.out; have hnc12 := NB152_151.out; have hcz13_0 : w10.cell? ⟨gb151, 0, none⟩ = some (.slice none 0 0) := (bC BK151.out 0).trans rfl; have hcz13_1 : w10.cell? ⟨gb151, 1, none⟩ = some (.int .i64 0) := (bC BK151.out 1).trans rfl; have hfz13_0 := bF BK151.out 0; have hfz13_1 := bF BK151.out 1))
 refine bodyPost_ret (results_cell_row rfl _ _ gb151 26 #[.slice Ao11 t159.length co11, .int .i64 t162] (0, 0) _ rfl (by (with_reducible repeat (first | refine bN ?_ _ | refine bD ?_ | refine bA ?_ _)); refine blk_put (cs := #[.slice Ao11 t159.length co11, .int .i64 0]) ?_ 1 _ rfl; (with_reducible repeat (first | refine bN ?_ _ | refine bD ?_ | refine bA ?_ _)); refine blk_put (cs := #[.slice none 0 0, .int .i64 0]) ?_ 0 _ rfl; (with_reducible repeat (first | refine bN ?_ _ | refine bD ?_ | refine bA ?_ _)); exact BK151.out) Try.underlying26 rfl (by kernel_rfl)) rfl ?_
 exact ⟨_, by first | rfl | (simp [errW_none, errW_some] <;> rfl) | (simp [*, errW_none, errW_some] <;> rfl), by (with_reducible repeat (first | apply rA | apply rN | apply rD)); exact rM (Kd.R_far (p := ⟨gb151, 1, none⟩) (Kd.R_far (p := ⟨gb151, 0, none⟩) (Kd.R_types HO161.out BK151.out (by decide)) (fun _ hk => hk.2) (.slice Ao11 t159.length co11)) (fun _ hk => hk.2) (.int .i64 t162)) (fun _ hk => trivial), xG2 HB.out (IsS75.ge HI152.out) GE151.out⟩
def spec_DrawPlaneTable.f (k : Nat) (l0 : List Int) : Option (List Int × Int) := (spec_DrawIsPlane.f k l0).bind fun bt166 => (some (bt166.1, bt166.2))
theorem spec_DrawPlaneTable.mono : ∀ a0 k, LeO (spec_DrawPlaneTable.f k a0) (spec_DrawPlaneTable.f (k + 1) a0) := by
 intro a0 k
 unfold spec_DrawPlaneTable.f
 repeat' first
   | (with_reducible exact spec_DrawIsPlane.mono _ _)
   | (with_reducible exact LeO.refl _)
   | (with_reducible exact LeO.none _)
   | (with_reducible refine LeO.ite ?_ ?_)
   | (with_reducible refine LeO.bind ?_ (fun _ => ?_))
   | exact spec_DrawIsPlane.mono _ _
   | exact LeO.none _
   | refine LeO.ite ?_ ?_
   | refine LeO.bind ?_ (fun _ => ?_)
set_option maxHeartbeats 8000000 in
set_option maxRecDepth 100000 in
theorem spec_DrawPlaneTable.calls (k : Nat) (A0 : Option Addr) (c0 : Nat) (l0 : List Int) (r1 : List Int) (r2 : Int) (w : World) (hr0 : Kd.C (Kd.int .u8) w A0 l0.length l0) (hc0 : l0.length ≤ c0) (h : spec_DrawPlaneTable.f k l0 = some (r1, r2)) :
  Calls Try.prog 7 #[.slice A0 l0.length c0] w fun e w' => ∃ v0_ : Value, e = .returned (.agg #[v0_, .int .i64 r2]) ∧ Kd.R (Kd.int .i64) 3 w' w.heap.size (fun _ => True) v0_ r1 ∧ Below w.heap.size w w' := by
 have hu26 := Try.underlying26
 have HR0 := aM hr0
 have HC0 := aM hc0
 clear hr0 hc0
 have HB := aM (Below.refl w.heap.size w)
 have H : ((spec_DrawIsPlane.f k l0).bind fun bt166 => (some (bt166.1, bt166.2))) = some (r1, r2) := h
 clear h
 replace H := oB.mp H
 obtain ⟨⟨t166, t169⟩, A20, H⟩ := H
 replace H : (some (t166, t169)) = some (r1, r2) := H
 have A2 := aM A20
 clear A20
 simp only [Option.some.injEq, Prod.mk.injEq] at H
 obtain ⟨rfl, rfl⟩ := H
 go_enter Try.func7, Try.ntmps7
 go_wp2_with (first | ((with_reducible refine gate_dst (N := 2) rfl ?_); refine box_event ?hg (N := 2) ?hd (cs := #[.slice none 0 0, .int .i64 0]) (t := 26) ?hr ?_; (case hd => rfl); (case hg => rfl); (case hr => first | (go_simp; done) | (go_simp; rfl)); intro gb165 hg w3 hbox hb; have BK165 := aM (hbox); have GW165 := aM ((by rw [hg]; exact (below_size (xH HB.out)) : w.heap.size ≤ gb165)); have GE165 := aM ((by rw [hg]; exact (below_size (xH HB.out)) : w.heap.size ≤ gb165)); replace HB := aM (below_step (xH HB.out) hb); clear hb hbox hg) | ((with_reducible refine gate_callee (f := 51) rfl ?_); refine goesL_ (some 4) rfl rfl Try.func51 (by kernel_rfl) rfl #[.slice A0 l0.length c0] rfl xL ?_; (with_reducible refine (spec_DrawIsPlane.calls k _ _ l0 t166 t169 _ ?side1 ?side2 A2.out).mono ?_); (case side1 => repeat (first | exact (Kd.C_below HR0.out HB.out) | (with_reducible refine Kd.C_alloc ?_ _) | (with_reducible refine Kd.C_drewN ?_ _) | (with_reducible refine Kd.C_drew ?_))); (case side2 => exact HC0.out); rintro e w4 ⟨v167, rfl, ho0, hb⟩; refine ⟨_, rfl, ?_⟩; have HO168 := aM (Kd.R_lower ho0 (below_size (xG1 HB.out GE165.out))); replace BK165 := aM (bB (g := gb165) (o := .cells #[.slice none 0 0, .int .i64 0] 26 (0, 0)) (xB BK165.out) hb); replace HB := aM (below_step (xG1 HB.out GE165.out) hb); (try clear hb; try clear hb2; try clear hk; try clear hi; try clear ho0); obtain ⟨Ao5, co5, eo5⟩ := Kd.R_slice HO168.out; subst eo5; have hcz6_0 : w4.cell? ⟨gb165, 0, none⟩ = some (.slice none 0 0) := (bC BK165.out 0).trans rfl; have hcz6_1 : w4.cell? ⟨gb165, 1, none⟩ = some (.int .i64 0) := (bC BK165.out 1).trans rfl; have hfz6_0 := bF BK165.out 0; have hfz6_1 := bF BK165.out 1))
 refine bodyPost_ret (results_cell_row rfl _ _ gb165 26 #[.slice Ao5 t166.length co5, .int .i64 t169] (0, 0) _ rfl (by (with_reducible repeat (first | refine bN ?_ _ | refine bD ?_ | refine bA ?_ _)); refine blk_put (cs := #[.slice Ao5 t166.length co5, .int .i64 0]) ?_ 1 _ rfl; (with_reducible repeat (first | refine bN ?_ _ | refine bD ?_ | refine bA ?_ _)); refine blk_put (cs := #[.slice none 0 0, .int .i64 0]) ?_ 0 _ rfl; (with_reducible repeat (first | refine bN ?_ _ | refine bD ?_ | refine bA ?_ _)); exact BK165.out) Try.underlying26 rfl (by kernel_rfl)) rfl ?_
 exact ⟨_, by first | rfl | (simp [errW_none, errW_some] <;> rfl) | (simp [*, errW_none, errW_some] <;> rfl), by (with_reducible repeat (first | apply rA | apply rN | apply rD)); exact rM (Kd.R_far (p := ⟨gb165, 1, none⟩) (Kd.R_far (p := ⟨gb165, 0, none⟩) (Kd.R_types HO168.out BK165.out (by decide)) (fun _ hk => hk.2) (.slice Ao5 t166.length co5)) (fun _ hk => hk.2) (.int .i64 t169)) (fun _ hk => trivial), xG1 HB.out GE165.out⟩
def impl_within.f (a0 : Int) (a1 : Int) (a2 : Int) : Option (Bool) := if a0 ≥ a1 then (some (decide (a0 ≤ a2))) else (some false)
set_option maxHeartbeats 8000000 in
set_option maxRecDepth 100000 in
theorem impl_within.calls (a0 : Int) (a1 : Int) (a2 : Int) (r : Bool) (w : World) (h : impl_within.f a0 a1 a2 = some r) :
  Calls Try.prog 55 #[.int .i64 a0, .int .i64 a1, .int .i64 a2] w fun e w' => e = .returned (.bool r) ∧ Drawn0 w w' := by
 have H : (if a0 ≥ a1 then (some (decide (a0 ≤ a2))) else (some false)) = some r := h
 clear h
 by_cases c4 : a0 ≥ a1
 ·
  rw [if_pos c4] at H
  have c4b0 : decide (a1 ≤ a0) = true := decide_eq_true c4
  clear c4
  obtain rfl := Option.some.inj H
  go_enter Try.func55, Try.ntmps55
  go_wp2
  go_ret
  exact ⟨by first | rfl | (simp; done) | (simp [*]; done), by repeat (first | exact Drawn0.refl _ | apply Drawn0.step)⟩
 ·
  rw [if_neg c4] at H
  have c4b0 : decide (a1 ≤ a0) = false := decide_eq_false c4
  clear c4
  obtain rfl := Option.some.inj H
  go_enter Try.func55, Try.ntmps55
  go_wp2
  go_ret
  exact ⟨by first | rfl | (simp; done) | (simp [*]; done), by repeat (first | exact Drawn0.refl _ | apply Drawn0.step)⟩
end Go.Proofs.Ytkgekmpnbhomgaa.PFnBits
