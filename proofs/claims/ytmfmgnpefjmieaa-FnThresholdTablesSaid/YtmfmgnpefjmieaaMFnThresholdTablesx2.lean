-- Laid for this claim by a program of the session's own (wip/tool/myprint.py).
import Derived.Test.YtmfmgnpefjmieaaMFnThresholdTablesx1
namespace Go.Proofs.Ytmfmgnpefjmieaa.PFnThresholdTables
open Go.RowKit Go.Proofs.YtmfmgnpefjmieaaW.PrintWords Go.Proofs.YtmfmgnpefjmieaaW.PrintLast Go.Proofs.YtmfmgnpefjmieaaW.PrintMore
attribute [local go_sem] max2_int min2_int max_two min_two max_three min_three max_four min_four
set_option linter.unusedVariables false
set_option maxHeartbeats 8000000
set_option maxRecDepth 100000
set_option linter.unusedSimpArgs false
def spec_l1Cur_plane.l0 : Nat → Int → Int → Int → List Int → Int → Int → List Int → Int → Option (List Int × Int × Int × Int)
  | 0, _, _, _, _, _, _, _, _ => none
  | k + 1, x1, x6, x7, x1000, x1001, x1002, x123000, x123001 => if x7 < x1 then ((spec_l1Cur_pick.f x1000 x1001 x1002 (wrap64 ((wrap64 (2 * x6)) + 1))).bind fun bt123 => (if x123000.length < 17592186044416 then (spec_l1Cur_plane.l0 k x1 x6 (wrap64 (x7 + 1)) x1000 bt123.2.1 bt123.2.2 (x123000 ++ [wrap64 (bt123.1 - x6)]) x123001) else (none))) else ((spec_l1Cur_pick.f x1000 x1001 x1002 (wrap64 ((wrap64 (2 * x6)) + 3))).bind fun bt129 => ((spec_l1Cur_pick.f x1000 bt129.2.1 bt129.2.2 60).bind fun bt132 => (if bt132.1 = 0 then ((spec_l1Cur_among.f x1000 bt132.2.1 bt132.2.2 (([99, (-99), 100, (-100), 4611686018427387904] : List Int))).bind fun bt138 => (some (x123000, bt138.1, bt138.2.1, bt138.2.2))) else (if bt132.1 = 1 then (if x1 > 0 then ((spec_l1Cur_pick.f x1000 bt132.2.1 bt132.2.2 x1).bind fun bt141 => ((spec_l1Cur_among.f x1000 bt141.2.1 bt141.2.2 (([99, (-99), 100, (-100)] : List Int))).bind fun bt147 => (if 0 ≤ bt141.1 then (if bt141.1 < (x123000.length : Int) then (some ((x123000.set (bt141.1 : Int).toNat bt147.1), wrap64 ((wrap64 (bt129.1 - x6)) - 1), bt147.2.1, bt147.2.2)) else (none)) else (none)))) else (some (x123000, wrap64 ((wrap64 (bt129.1 - x6)) - 1), bt132.2.1, bt132.2.2))) else (if bt132.1 = 2 then (if x123000.length < 17592186044416 then (some ((x123000 ++ [1]), wrap64 ((wrap64 (bt129.1 - x6)) - 1), bt132.2.1, bt132.2.2)) else (none)) else (some (x123000, wrap64 ((wrap64 (bt129.1 - x6)) - 1), bt132.2.1, bt132.2.2)))))))
def spec_l1Cur_plane.f (k : Nat) (s0_0 : List Int) (s0_1 : Int) (s0_2 : Int) (a1 : Int) : Option (List Int × Int × Int × Int) := (spec_l1Cur_among.f s0_0 s0_1 s0_2 (([1, 3, 5, 20] : List Int))).bind fun bt119 => (spec_l1Cur_plane.l0 k a1 bt119.1 0 s0_0 bt119.2.1 bt119.2.2 ([] : List Int) 0)
def spec_l1Cur_plane.T5 : Bool × List (List Nat × List Nat) := (true, [([], []), ([0], [0]), ([], []), ([], []), ([3], [3]), ([4], [4]), ([2, 5], [2, 5]), ([], []), ([6, 7], [6, 7]), ([8], [8]), ([1, 9, 6], [1, 9]), ([0, 1, 2, 3, 4, 5, 6, 7, 8, 9, 10], []), ([11, 10, 10, 0, 1, 2, 3, 4, 5, 6, 7, 8, 9, 10], [10, 11])])
def spec_l1Cur_plane.B5 : List Nat := [0, 1, 0, 0, 8, 24, 60, 0, 252, 508, 1023, 2047, 4095]
theorem spec_l1Cur_plane.tab5 : rtab .any (opsOf Try.f143 5) = spec_l1Cur_plane.T5 := by kernel_rfl
theorem spec_l1Cur_plane.bits5 : waitsOk spec_l1Cur_plane.T5.2 spec_l1Cur_plane.B5 = true := by kernel_rfl
def spec_l1Cur_plane.T12 : Bool × List (List Nat × List Nat) := (true, [([], []), ([0], [0]), ([], []), ([], []), ([2, 3], [2, 3]), ([], []), ([], []), ([5, 6, 4], [5, 6]), ([1, 4, 0, 1, 2, 3, 4, 5, 6, 7], [1, 4]), ([8, 7, 7, 0, 1, 2, 3, 4, 5, 6, 7], [7, 8])])
def spec_l1Cur_plane.B12 : List Nat := [0, 1, 0, 0, 12, 0, 0, 124, 255, 511]
theorem spec_l1Cur_plane.tab12 : rtab .any (opsOf Try.f143 12) = spec_l1Cur_plane.T12 := by kernel_rfl
theorem spec_l1Cur_plane.bits12 : waitsOk spec_l1Cur_plane.T12.2 spec_l1Cur_plane.B12 = true := by kernel_rfl
theorem spec_l1Cur_plane.calls (k : Nat) (g : Nat) (s0_0 : List Int) (s0_1 : Int) (s0_2 : Int) (a1 : Int) (r1 : List Int) (r2 : Int) (r3 : Int) (r4 : Int) (w0 w : World) (hI : IsS78 w0 w g s0_0 s0_1 s0_2) (hB : Below w0.heap.size w0 w) (h : spec_l1Cur_plane.f k s0_0 s0_1 s0_2 a1 = some (r1, r2, r3, r4)) :
    Calls Try.prog 143 #[.pointer (some ⟨g, 0, none⟩), .int .i64 a1] w fun e w' => ∃ v0_ : Value, e = .returned (.agg #[v0_, .int .i64 r2]) ∧ Kd.R (Kd.int .i64) 3 w' w.heap.size (fun _ => True) v0_ r1 ∧ IsS78 w0 w' g s0_0 r3 r4 ∧ Below w0.heap.size w0 w' ∧ KeepBut w w' g none := by
 have hu28 := Try.underlying28
 have HI0 := aM hI
 have HK := aM (KeepBut.refl w g none)
 have HL := aM hB.size
 clear hI
 have HW0 := aM hB.size
 have HB := aM hB
 clear hB
 have H : ((spec_l1Cur_among.f s0_0 s0_1 s0_2 (([1, 3, 5, 20] : List Int))).bind fun bt119 => (spec_l1Cur_plane.l0 k a1 bt119.1 0 s0_0 bt119.2.1 bt119.2.2 ([] : List Int) 0)) = some (r1, r2, r3, r4) := h
 clear h
 obtain ⟨y116, hy116⟩ := yE (([1, 3, 5, 20] : List Int) : List Int)
 replace H : ((spec_l1Cur_among.f s0_0 s0_1 s0_2 y116).bind fun bt119 => (spec_l1Cur_plane.l0 k a1 bt119.1 0 s0_0 bt119.2.1 bt119.2.2 ([] : List Int) 0)) = some (r1, r2, r3, r4) := yI hy116 H
 have Ny116 := aM hy116
 clear hy116
 replace H := oB.mp H
 obtain ⟨⟨t119, t120, t121⟩, A30, H⟩ := H
 (try dsimp only at H)
 have A3 := aM A30
 clear A30
 have H' := aM H
 clear H
 go_enter Try.func143, Try.ntmps143
 go_wp2_with (first | (refine yB 4 #[.slice none 0 0, .int .i64 0] 28 ?_; intro gb115 hg w4 hbox hb; replace HB := aM (below_step (xG1 HB.out (IsS78.ge HI0.out)) hb); have BK115 := aM (hbox); have GW115 := aM ((by rw [hg]; exact (keep_size (w := w) (g := g) (row := none) (xK0 HK.out)) : w.heap.size ≤ gb115)); have GE115 := aM ((Nat.le_trans HW0.out (by rw [hg]; exact (keep_size (w := w) (g := g) (row := none) (xK0 HK.out)) : w.heap.size ≤ gb115) : w0.heap.size ≤ gb115)); replace HK := aM (KeepBut.trans (xK0 HK.out) (KeepBut.of_below hb g none) (.inl rfl)); have NB0_115 := aM ((by rw [hg]; exact Nat.ne_of_lt (IsS78.lt (show IsS78 w0 _ g s0_0 s0_1 s0_2 from IsS78.x0 HI0.out)) : g ≠ gb115)); have NB115_0 := aM ((by rw [hg]; exact Nat.ne_of_gt (IsS78.lt (show IsS78 w0 _ g s0_0 s0_1 s0_2 from IsS78.x0 HI0.out)) : gb115 ≠ g)); replace HI0 := aM (IsS78.below (IsS78.x0 HI0.out) hb); clear hb hbox hg) | ((with_reducible refine gate_dst (N := 10) rfl ?_); refine Kd.R_lit (Kd.int .i64) _ 3 ?hg (N := 10) ?hd (xs := ([1, 3, 5, 20] : List Int)) (inner := [.int .i64 1, .int .i64 3, .int .i64 5, .int .i64 20]) (ok := fun _ => True) (okp := fun _ => True) ?hr ?hp (fun _ hk => hk) trivial (Below.refl _ _) (Nat.le_refl _) (by simp) ?_; (case hd => rfl); (case hg => rfl); (case hr => first | (go_simp; done) | (go_simp; rfl)); (case hp => exact (Reps.one (show Kd.M (Kd.int .i64) _ _ _ 1 [.int .i64 1] from rfl) (Reps.one (show Kd.M (Kd.int .i64) _ _ _ 3 [.int .i64 3] from rfl) (Reps.one (show Kd.M (Kd.int .i64) _ _ _ 5 [.int .i64 5] from rfl) (Reps.one (show Kd.M (Kd.int .i64) _ _ _ 20 [.int .i64 20] from rfl) (Reps.none _ _)))))); intro v117 w5 ho6 hb hg_ hnew_; clear hg_ hnew_; (first | rw [← Ny116.out] at ho6 | (simp only [Int.reduceToNat] at ho6; rw [← Ny116.out] at ho6)); have HO118 := aM (Kd.R_lower ho6 (keep_size (w := w) (g := g) (row := none) (xK1 HK.out GW115.out))); replace BK115 := yK BK115 hb; replace HK := aM (KeepBut.trans (xK1 HK.out GW115.out) (KeepBut.of_below hb g none) (.inl rfl)); replace HB := aM (below_step (xG2 HB.out (IsS78.ge HI0.out) GE115.out) hb); replace HI0 := aM (IsS78.below (IsS78.x1 HI0.out NB0_115.out) hb); clear hb ho6; obtain ⟨Ao7, co7, eo7⟩ := Kd.R_slice HO118.out; subst eo7) | (refine yL 11 Try.func87 #[.pointer (some ⟨g, 0, none⟩), .slice Ao7 y116.length co7] ?_; (with_reducible refine (spec_l1Cur_among.calls g s0_0 s0_1 s0_2 _ _ y116 t119 t120 t121 w0 _ (IsS78.x1 HI0.out NB0_115.out) (xG2 HB.out (IsS78.ge HI0.out) GE115.out) (xC (Kd.R_reads' HO118.out).2.2) ((Kd.R_reads' HO118.out).2.1) (far_slice (IsS78.own_ne HI0.out HO118.out (by decide))) A3.out).mono ?_); rintro e w8 ⟨rfl, hi, hb, hk⟩; refine ⟨_, rfl, ?_⟩; replace BK115 := yQ hk BK115 NB115_0; replace HO118 := aM (rM (Kd.R_keep (IsS78.apart (show IsS78 w0 _ g s0_0 s0_1 s0_2 from IsS78.x1 HI0.out NB0_115.out) (xR HO118.out) (by decide)) hk (fun _ h => h.2)) (fun _ h => h.1)); replace HK := aM (KeepBut.trans (xK1 HK.out GW115.out) hk (.inl rfl)); replace HB := aM (hb); replace HI0 := aM (hi); (try clear hb; try clear hk; try clear hi)) | (refine yB 5 #[.slice none 0 0, .int .i64 0] 28 ?_; intro gb122 hg w9 hbox hb; replace HO118 := aM (Kd.R_below (xR HO118.out) hb); replace HB := aM (below_step (xG2 HB.out (IsS78.ge HI0.out) GE115.out) hb); have BK122 := aM (hbox); have GW122 := aM ((by rw [hg]; exact (keep_size (w := w) (g := g) (row := none) (xK1 HK.out GW115.out)) : w.heap.size ≤ gb122)); have GE122 := aM ((Nat.le_trans HW0.out (by rw [hg]; exact (keep_size (w := w) (g := g) (row := none) (xK1 HK.out GW115.out)) : w.heap.size ≤ gb122) : w0.heap.size ≤ gb122)); replace HK := aM (KeepBut.trans (xK1 HK.out GW115.out) (KeepBut.of_below hb g none) (.inl rfl)); have NB115_122 := yX hg BK115; have NB122_115 := yY NB115_122; replace BK115 := yK BK115 hb; have NB0_122 := aM ((by rw [hg]; exact Nat.ne_of_lt (IsS78.lt (show IsS78 w0 _ g s0_0 t120 t121 from IsS78.x1 HI0.out NB0_115.out)) : g ≠ gb122)); have NB122_0 := aM ((by rw [hg]; exact Nat.ne_of_gt (IsS78.lt (show IsS78 w0 _ g s0_0 t120 t121 from IsS78.x1 HI0.out NB0_115.out)) : gb122 ≠ g)); replace HI0 := aM (IsS78.below (IsS78.x1 HI0.out NB0_115.out) hb); clear hb hbox hg; have hnb10 := NB122_115.out; have hnc10 := NB115_122.out; have hnb11 := NB122_0.out; have hnc11 := NB0_122.out; obtain ⟨hcz12_0, hcz12_1, hfz12_0, hfz12_1⟩ := yD2 BK122))
 go_loopg [7] k (fun kq v7 w' => ∃ (x7_1 : Int) (x1001_1 : Int) (x1002_1 : Int) (x123000_1 : List Int) (u123000 : Value), v7 = .int .i64 x7_1 ∧ Aside0 (spec_l1Cur_plane.l0 kq a1 t119 x7_1 s0_0 x1001_1 x1002_1 x123000_1 0 = some (r1, r2, r3, r4)) ∧ Aside0 (kq ≤ k) ∧ Aside0 (Kd.R (Kd.int .i64) 3 w' w.heap.size (fun _ => True) u123000 x123000_1) ∧ Aside0 (w'.heap[gb115]? = some (.cells #[(.slice none 0 0), .int .i64 0] 28 (0, 0))) ∧ Aside0 (w'.heap[gb122]? = some (.cells #[u123000, .int .i64 0] 28 (0, 0))) ∧ Aside0 (IsS78 w0 w' g s0_0 x1001_1 x1002_1) ∧ Aside0 (KeepBut w w' g none) ∧ Aside0 (Below w0.heap.size w0 w'))
 case atStart => exact ⟨(0), (t120), (t121), (([] : List Int)), (.slice none 0 0), yZ, H', ⟨Nat.le_refl _⟩, ⟨yNi⟩, ⟨by (with_reducible repeat (first | refine bN ?_ _ | refine bD ?_ | refine bA ?_ _)); refine blk_far ?_ NB115_122.out _; (with_reducible repeat (first | refine bN ?_ _ | refine bD ?_ | refine bA ?_ _)); refine blk_far ?_ NB115_122.out _; (with_reducible repeat (first | refine bN ?_ _ | refine bD ?_ | refine bA ?_ _)); exact BK115.out⟩, ⟨by (with_reducible repeat (first | refine bN ?_ _ | refine bD ?_ | refine bA ?_ _)); refine blk_put (cs := #[.slice none 0 0, .int .i64 0]) ?_ 1 _ rfl; (with_reducible repeat (first | refine bN ?_ _ | refine bD ?_ | refine bA ?_ _)); refine blk_put (cs := #[.slice none 0 0, .int .i64 0]) ?_ 0 _ rfl; (with_reducible repeat (first | refine bN ?_ _ | refine bD ?_ | refine bA ?_ _)); exact BK122.out⟩, ⟨IsS78.x2 HI0.out NB0_115.out NB0_122.out⟩, ⟨xK2 HK.out GW115.out GW122.out⟩, ⟨xG3 HB.out (IsS78.ge HI0.out) GE115.out GE122.out⟩⟩
 case round =>
  clear H'
  try clear hcz12_0
  try clear hcz12_1
  try clear hfz12_0
  try clear hfz12_1
  obtain ⟨x7_1, x1001_1, x1002_1, x123000_1, u123000, rfl, HA, HK1, HO_123000, BK115, BK122, HI0, HK, HB⟩ := hrel
  cases gk with
  | zero => exact absurd HA.out (by simp [spec_l1Cur_plane.l0])
  | succ k1 =>
   have H := HA.out
   clear HA
   simp only [spec_l1Cur_plane.l0] at H
   obtain ⟨-, c13b0, H⟩ | ⟨-, c13b0, H⟩ := yif H
   ·
    replace H := oB.mp H
    obtain ⟨⟨t123, t124, t125⟩, A140, H⟩ := H
    (try dsimp only at H)
    have A14 := aM A140
    clear A140
    obtain ⟨c15, -, H⟩ | ⟨c15, -, H⟩ := yif H
    rotate_left
    · exact absurd H (by simp)
    have LMc15 := aM c15
    clear c15
    obtain ⟨y126, hy126⟩ := yE (x123000_1 ++ [wrap64 (t123 - t119)] : List Int)
    replace H : (spec_l1Cur_plane.l0 k1 a1 t119 (wrap64 (x7_1 + 1)) s0_0 t124 t125 y126 0) = some (r1, r2, r3, r4) := yI hy126 H
    have Ny126 := aM hy126
    clear hy126
    have H' := aM H
    clear H
    try go_wp2
    replace HO_123000 := aM (rD HO_123000.out)
    replace BK115 := aM (bD BK115.out)
    replace BK122 := aM (bD BK122.out)
    replace HI0 := aM (IsS78.drew HI0.out)
    replace HK := aM (keep_drew HK.out)
    replace HB := aM (eD HB.out)
    refine start_ (n := 13) (S := fun w' => w'.cell? ⟨gb122, 0, none⟩ = some (u123000) ∧ w'.cell? ⟨gb122, 1, none⟩ = some (.int .i64 0)) (ds := [12]) (bm 13 0) (by kernel_rfl) rfl rfl ⟨(bC BK122.out 0).trans rfl, (bC BK122.out 1).trans rfl⟩ (fun hHeld => ?_); refine with_tabW spec_l1Cur_plane.tab5 spec_l1Cur_plane.bits5 (fun HT_ HW_ => ?_)
    generalize wr.drew = w16 at HO_123000 BK115 BK122 HI0 HK HB hHeld ⊢
    refine yP 0 17 (bm 13 1) HT_ ?_
    refine yP 2 19 (bm 13 5) HT_ ?_
    refine yP 3 20 (bm 13 13) HT_ ?_
    refine yP 4 21 (bm 13 29) HT_ ?_
    refine yP 5 22 (bm 13 61) HT_ ?_
    refine yP 7 24 (bm 13 189) HT_ ?_
    refine yT2 1 18 (bm 13 191) HT_ HW_ hHeld ?_
    refine yO 6 23 (bm 13 255) HT_ (fun K hK => ?_)
    refine yG Try.func85 #[.pointer (some ⟨g, 0, none⟩), .int .i64 (wrap64 ((wrap64 (2 * t119)) + 1))] ?_
    with_reducible refine (spec_l1Cur_pick.calls g s0_0 x1001_1 x1002_1 (wrap64 ((wrap64 (2 * t119)) + 1)) t123 t124 t125 w0 _ ?side1 ?side2 A14.out).mono ?_
    (case side1 => exact IsS78.x2 HI0.out NB0_115.out NB0_122.out)
    (case side2 => exact xG3 HB.out (IsS78.ge HI0.out) GE115.out GE122.out)
    rintro e w17 ⟨rfl, hi, hb, hk⟩
    refine ⟨_, rfl, ?_⟩
    replace HO_123000 := aM (rM (Kd.R_keep (IsS78.apart (show IsS78 w0 _ g s0_0 x1001_1 x1002_1 from IsS78.x2 HI0.out NB0_115.out NB0_122.out) (xR HO_123000.out) (by decide)) hk (fun _ h => h.2)) (fun _ h => h.1))
    replace BK115 := yQ hk BK115 NB115_0
    replace BK122 := yQ hk BK122 NB122_0
    replace HK := aM (KeepBut.trans (xK2 HK.out GW115.out GW122.out) hk (.inl rfl))
    replace HB := aM (hb)
    replace HI0 := aM (hi)
    (try clear hb)
    (try clear hb2)
    (try clear hk)
    (try clear hi)
    refine hK.out _ _ ⟨(bC BK122.out 0).trans rfl, (bC BK122.out 1).trans rfl⟩ (fun hHeld => ?_)
    clear hK K
    refine norm_ (a' := ?_) ?_ ?_
    rotate_left
    ·
     show Act.put _ (some 23) _ = _
     simp only [Act.put, sA, sZ, sU, i64_w, i32_w]
     rfl
    refine yP 8 25 (bm 13 511) HT_ ?_
    refine yO 9 26 (bm 13 1023) HT_ (fun K hK => ?_)
    refine value_ (w1 := ?_) (v := ?_) (by rfl) rfl ?_ ?_
    rotate_left 2
    ·
     go_simp
     constructor
     · rfl
     · rfl
    refine hK.out _ _ ⟨(bC (bA BK122.out _) 0).trans rfl, (bC (bA BK122.out _) 1).trans rfl⟩ (fun hHeld => ?_)
    clear hK K
    refine norm_ (a' := ?_) ?_ ?_
    rotate_left
    ·
     show Act.put _ (some 26) _ = _
     simp only [Act.put, sA, sZ, sU, i64_w, i32_w]
     rfl
    refine yO 10 27 (bm 13 2047) HT_ (fun K hK => ?_)
    refine Kd.R_append_step (Kd.int .i64) w.heap.size (by rfl) (.tmp 18) (.tmp 26) 24 3 (.int .i64 0) 8 rfl Try.underlying24 info3 rfl (by decide) (by omega) u123000 x123000_1 (wrap64 (t123 - t119)) [.int .i64 (wrap64 (t123 - t119))] (fun _ => True) (fun _ => False) rfl rfl ?aP (fun _ hk => hk.elim) ?aF ?aO (Below.refl _ _) ?aS ?aL ?_
    (case aP => exact rfl)
    (case aF => exact (fun _ _ => trivial))
    (case aO => exact (xR HO_123000.out))
    (case aS => exact (keep_size (w := w) (g := g) (row := none) (xK2 HK.out GW115.out GW122.out)))
    (case aL => have := LMc15.out; omega)
    intro v127 w18 ho hb hg hat
    rw [← Ny126.out] at ho
    replace BK115 := yR BK115 hg (Kd.R_ne HO_123000.out BK115.out (by decide))
    replace BK122 := yR BK122 hg (Kd.R_ne HO_123000.out BK122.out (by decide))
    replace HB := aM (below_weaken (xG3 HB.out (IsS78.ge HI0.out) GE115.out GE122.out) HL.out hb)
    replace HI0 := aM (IsS78.grown (IsS78.x2 HI0.out NB0_115.out NB0_122.out) hg (IsS78.own_ne HI0.out HO_123000.out (by decide)))
    replace HK := aM (KeepBut.trans (xK2 HK.out GW115.out GW122.out) (KeepBut.of_grown hg g) (Kd.R_base2 HO_123000.out))
    have HO128 := aM (ho)
    clear HO_123000
    clear ho hb hg hat
    obtain ⟨Ao19, co19, eo19⟩ := Kd.R_slice HO128.out
    (first | subst eo19 | (injection eo19 with f1_ f2_ f3_; have f4_ := f1_.symm; have f5_ := f3_.symm; clear f1_ f2_ f3_; subst f4_; subst f5_))
    refine hK.out _ _ ⟨(bC BK122.out 0).trans rfl, (bC BK122.out 1).trans rfl⟩ (fun hHeld => ?_)
    clear hK K
    refine norm_ (a' := ?_) ?_ ?_
    rotate_left
    ·
     show Act.put _ (some 27) _ = _
     simp only [Act.put, sA, sZ, sU, i64_w, i32_w]
     rfl
    refine yP 11 28 (bm 13 4095) HT_ ?_
    refine last_ (i := 12) (N := none) (bm 13 8191) rfl rfl (one_of HT_.out (by kernel_rfl)) (by decide) (fun K hK => ?_)
    have hs20 : w18.cell? ⟨gb122, 0, none⟩ = some (u123000) := (bC BK122.out 0).trans rfl
    have hfs20 := bF BK122.out 0
    have hns20_0 := NB115_122.out
    have hms20_0 := NB122_115.out
    refine skip_ (w1 := ?_) (by rfl) rfl ?_ ?_
    rotate_left
    ·
     go_simp
     rfl
    refine hK.out _ _ ?_
    clear hK K
    refine done_ (done_of HT_.out (by kernel_rfl)) ?_
    try go_wp2
    go_roundg k1
    case measure => have := HK1.out; omega
    case rel => exact ⟨(wrap64 (x7_1 + 1)), (t124), (t125), (y126), (.slice Ao19 y126.length co19), yZ, H', ⟨by have := HK1.out; omega⟩, ⟨zR (rM (Kd.R_far (p := ⟨gb122, 0, none⟩) (Kd.R_types HO128.out BK122.out (by decide)) (fun _ hk => hk.2) (.slice Ao19 y126.length co19)) (fun _ hk => trivial))⟩, ⟨by (with_reducible repeat (first | refine bN ?_ _ | refine bD ?_ | refine bA ?_ _)); refine blk_far ?_ NB115_122.out _; (with_reducible repeat (first | refine bN ?_ _ | refine bD ?_ | refine bA ?_ _)); exact BK115.out⟩, ⟨by (with_reducible repeat (first | refine bN ?_ _ | refine bD ?_ | refine bA ?_ _)); refine blk_put (cs := #[u123000, .int .i64 0]) ?_ 0 _ rfl; (with_reducible repeat (first | refine bN ?_ _ | refine bD ?_ | refine bA ?_ _)); exact BK122.out⟩, ⟨IsS78.x2 HI0.out NB0_115.out NB0_122.out⟩, ⟨xK2 HK.out GW115.out GW122.out⟩, ⟨xG3 HB.out (IsS78.ge HI0.out) GE115.out GE122.out⟩⟩
   replace H := oB.mp H
   obtain ⟨⟨t129, t130, t131⟩, A210, H⟩ := H
   (try dsimp only at H)
   have A21 := aM A210
   clear A210
   replace H := oB.mp H
   obtain ⟨⟨t132, t133, t134⟩, A220, H⟩ := H
   (try dsimp only at H)
   have A22 := aM A220
   clear A220
   obtain ⟨c23, -, H⟩ | ⟨c23, -, H⟩ := yif H
   ·
    have c23b0 : (t132 == 0) = true := beq_iff_eq.mpr c23
    have c23b1 : (t132 != 0) = false := bne_eq_false_iff_eq.mpr c23
    clear c23
    obtain ⟨y135, hy135⟩ := yE (([99, (-99), 100, (-100), 4611686018427387904] : List Int) : List Int)
    replace H : ((spec_l1Cur_among.f s0_0 t133 t134 y135).bind fun bt138 => (some (x123000_1, bt138.1, bt138.2.1, bt138.2.2))) = some (r1, r2, r3, r4) := yI hy135 H
    have Ny135 := aM hy135
    clear hy135
    replace H := oB.mp H
    obtain ⟨⟨t138, t139, t140⟩, A240, H⟩ := H
    (try dsimp only at H)
    have A24 := aM A240
    clear A240
    simp only [Option.some.injEq, Prod.mk.injEq] at H
    obtain ⟨rfl, rfl, rfl, rfl⟩ := H
    go_wp2_with (first | (refine yL 33 Try.func85 #[.pointer (some ⟨g, 0, none⟩), .int .i64 (wrap64 ((wrap64 (2 * t119)) + 3))] ?_; (with_reducible refine (spec_l1Cur_pick.calls g s0_0 x1001_1 x1002_1 (wrap64 ((wrap64 (2 * t119)) + 3)) t129 t130 t131 w0 _ (IsS78.x2 HI0.out NB0_115.out NB0_122.out) (xG3 HB.out (IsS78.ge HI0.out) GE115.out GE122.out) A21.out).mono ?_); rintro e w25 ⟨rfl, hi, hb, hk⟩; refine ⟨_, rfl, ?_⟩; replace HO_123000 := aM (rM (Kd.R_keep (IsS78.apart (show IsS78 w0 _ g s0_0 x1001_1 x1002_1 from IsS78.x2 HI0.out NB0_115.out NB0_122.out) (xR HO_123000.out) (by decide)) hk (fun _ h => h.2)) (fun _ h => h.1)); replace BK115 := yQ hk BK115 NB115_0; replace BK122 := yQ hk BK122 NB122_0; replace HK := aM (KeepBut.trans (xK2 HK.out GW115.out GW122.out) hk (.inl rfl)); replace HB := aM (hb); replace HI0 := aM (hi); (try clear hb; try clear hk; try clear hi); have hnb26 := NB122_115.out; have hnc26 := NB115_122.out; have hnb27 := NB122_0.out; have hnc27 := NB0_122.out; obtain ⟨hcz28_0, hcz28_1, hfz28_0, hfz28_1⟩ := yD2 BK122) | (refine yL 39 Try.func85 #[.pointer (some ⟨g, 0, none⟩), .int .i64 60] ?_; (with_reducible refine (spec_l1Cur_pick.calls g s0_0 t130 t131 60 t132 t133 t134 w0 _ (IsS78.x2 HI0.out NB0_115.out NB0_122.out) (xG3 HB.out (IsS78.ge HI0.out) GE115.out GE122.out) A22.out).mono ?_); rintro e w29 ⟨rfl, hi, hb, hk⟩; refine ⟨_, rfl, ?_⟩; replace HO_123000 := aM (rM (Kd.R_keep (IsS78.apart (show IsS78 w0 _ g s0_0 t130 t131 from IsS78.x2 HI0.out NB0_115.out NB0_122.out) (zR (rM (Kd.R_far (p := ⟨gb122, 1, none⟩) (Kd.R_types HO_123000.out BK122.out (by decide)) (fun _ hk => hk.2) (.int .i64 (wrap64 ((wrap64 (t129 - t119)) - 1)))) (fun _ h_ => h_.1))) (by decide)) hk (fun _ h => h.2)) (fun _ h => h.1)); replace BK115 := yQ1 hk BK115 NB115_0 NB115_122; replace BK122 := aM (KeepBut.blk hk (g' := gb122) (o := .cells #[u123000, .int .i64 (wrap64 ((wrap64 (t129 - t119)) - 1))] 28 (0, 0)) (by (with_reducible repeat (first | refine bN ?_ _ | refine bD ?_ | refine bA ?_ _)); refine blk_put (cs := #[u123000, .int .i64 0]) ?_ 1 _ rfl; (with_reducible repeat (first | refine bN ?_ _ | refine bD ?_ | refine bA ?_ _)); exact BK122.out) NB122_0.out (by simp)); replace HK := aM (KeepBut.trans (xK2 HK.out GW115.out GW122.out) hk (.inl rfl)); replace HB := aM (hb); replace HI0 := aM (hi); (try clear hb; try clear hk; try clear hi)) | ((with_reducible refine gate_dst (N := 43) rfl ?_); refine Kd.R_lit (Kd.int .i64) _ 3 ?hg (N := 43) ?hd (xs := ([99, (-99), 100, (-100), 4611686018427387904] : List Int)) (inner := [.int .i64 99, .int .i64 (-99), .int .i64 100, .int .i64 (-100), .int .i64 4611686018427387904]) (ok := fun _ => True) (okp := fun _ => True) ?hr ?hp (fun _ hk => hk) trivial (Below.refl _ _) (Nat.le_refl _) (by simp) ?_; (case hd => rfl); (case hg => rfl); (case hr => first | (go_simp; done) | (go_simp; rfl)); (case hp => exact (Reps.one (show Kd.M (Kd.int .i64) _ _ _ 99 [.int .i64 99] from rfl) (Reps.one (show Kd.M (Kd.int .i64) _ _ _ (-99) [.int .i64 (-99)] from rfl) (Reps.one (show Kd.M (Kd.int .i64) _ _ _ 100 [.int .i64 100] from rfl) (Reps.one (show Kd.M (Kd.int .i64) _ _ _ (-100) [.int .i64 (-100)] from rfl) (Reps.one (show Kd.M (Kd.int .i64) _ _ _ 4611686018427387904 [.int .i64 4611686018427387904] from rfl) (Reps.none _ _))))))); intro v136 w30 ho31 hb hg_ hnew_; clear hg_ hnew_; (first | rw [← Ny135.out] at ho31 | (simp only [Int.reduceToNat] at ho31; rw [← Ny135.out] at ho31)); have HO137 := aM (Kd.R_lower (Kd.R_new' ho31 (Kd.R_lt (xR HO_123000.out))) (keep_size (w := w) (g := g) (row := none) (xK2 HK.out GW115.out GW122.out))); replace HO_123000 := aM (Kd.R_elder' (xR HO_123000.out) (Kd.R_base ho31) hb); replace BK115 := yK BK115 hb; replace BK122 := yK BK122 hb; replace HK := aM (KeepBut.trans (xK2 HK.out GW115.out GW122.out) (KeepBut.of_below hb g none) (.inl rfl)); replace HB := aM (below_step (xG3 HB.out (IsS78.ge HI0.out) GE115.out GE122.out) hb); replace HI0 := aM (IsS78.below (IsS78.x2 HI0.out NB0_115.out NB0_122.out) hb); clear hb ho31; obtain ⟨Ao32, co32, eo32⟩ := Kd.R_slice HO137.out; subst eo32) | (refine yL 44 Try.func87 #[.pointer (some ⟨g, 0, none⟩), .slice Ao32 y135.length co32] ?_; (with_reducible refine (spec_l1Cur_among.calls g s0_0 t133 t134 _ _ y135 t138 t139 t140 w0 _ (IsS78.x2 HI0.out NB0_115.out NB0_122.out) (xG3 HB.out (IsS78.ge HI0.out) GE115.out GE122.out) (xC (Kd.R_reads' HO137.out).2.2) ((Kd.R_reads' HO137.out).2.1) (far_slice (IsS78.own_ne HI0.out HO137.out (by decide))) A24.out).mono ?_); rintro e w33 ⟨rfl, hi, hb, hk⟩; refine ⟨_, rfl, ?_⟩; replace HO_123000 := aM (rM (Kd.R_keep (IsS78.apart (show IsS78 w0 _ g s0_0 t133 t134 from IsS78.x2 HI0.out NB0_115.out NB0_122.out) (xR HO_123000.out) (by decide)) hk (fun _ h => h.2)) (fun _ h => h.1)); replace BK115 := yQ hk BK115 NB115_0; replace BK122 := yQ hk BK122 NB122_0; replace HO137 := aM (rM (Kd.R_keep (IsS78.apart (show IsS78 w0 _ g s0_0 t133 t134 from IsS78.x2 HI0.out NB0_115.out NB0_122.out) (xR HO137.out) (by decide)) hk (fun _ h => h.2)) (fun _ h => h.1)); replace HK := aM (KeepBut.trans (xK2 HK.out GW115.out GW122.out) hk (.inl rfl)); replace HB := aM (hb); replace HI0 := aM (hi); (try clear hb; try clear hk; try clear hi); obtain ⟨hcz34_0, hcz34_1, hfz34_0, hfz34_1⟩ := yD2 BK122; obtain ⟨Ao35, co35, eo35⟩ := Kd.R_slice HO_123000.out; subst eo35; have hnb36 := NB115_0.out; have hnc36 := NB0_115.out; obtain ⟨hcz37_0, hcz37_1, hfz37_0, hfz37_1⟩ := yD2 BK115))
    refine bodyPost_ret (results_cell_row rfl _ _ gb115 28 #[.slice Ao35 x123000_1.length co35, .int .i64 t138] (0, 0) _ rfl (by (with_reducible repeat (first | refine bN ?_ _ | refine bD ?_ | refine bA ?_ _)); refine blk_put (cs := #[.slice Ao35 x123000_1.length co35, .int .i64 0]) ?_ 1 _ rfl; (with_reducible repeat (first | refine bN ?_ _ | refine bD ?_ | refine bA ?_ _)); refine blk_put (cs := #[.slice none 0 0, .int .i64 0]) ?_ 0 _ rfl; (with_reducible repeat (first | refine bN ?_ _ | refine bD ?_ | refine bA ?_ _)); refine blk_far ?_ NB115_122.out _; (with_reducible repeat (first | refine bN ?_ _ | refine bD ?_ | refine bA ?_ _)); exact BK115.out) Try.underlying28 rfl (by kernel_rfl)) rfl ?_
    exact ⟨_, yF, zR (rM (Kd.R_far (p := ⟨gb115, 1, none⟩) (Kd.R_far (p := ⟨gb115, 0, none⟩) (Kd.R_far (p := ⟨gb122, 1, none⟩) (Kd.R_types (Kd.R_types HO_123000.out BK122.out (by decide)) BK115.out (by decide)) (fun _ hk => hk.1.2) (.int .i64 t138)) (fun _ hk => hk.2) (.slice Ao35 x123000_1.length co35)) (fun _ hk => hk.2) (.int .i64 t138)) (fun _ hk => trivial)), IsS78.x2 HI0.out NB0_115.out NB0_122.out, xG3 HB.out (IsS78.ge HI0.out) GE115.out GE122.out, xK2 HK.out GW115.out GW122.out⟩
   have c23b0 : (t132 == 0) = false := beq_eq_false_iff_ne.mpr c23
   have c23b1 : (t132 != 0) = true := bne_iff_ne.mpr c23
   obtain ⟨c38, -, H⟩ | ⟨c38, -, H⟩ := yif H
   rotate_left
   ·
    have c38b0 : (t132 == 1) = false := beq_eq_false_iff_ne.mpr c38
    have c38b1 : (t132 != 1) = true := bne_iff_ne.mpr c38
    obtain ⟨c71, -, H⟩ | ⟨c71, -, H⟩ := yif H
    rotate_left
    ·
     have c71b0 : (t132 == 2) = false := beq_eq_false_iff_ne.mpr c71
     have c71b1 : (t132 != 2) = true := bne_iff_ne.mpr c71
     simp only [Option.some.injEq, Prod.mk.injEq] at H
     obtain ⟨rfl, rfl, rfl, rfl⟩ := H
     go_wp2_with (first | (refine yL 33 Try.func85 #[.pointer (some ⟨g, 0, none⟩), .int .i64 (wrap64 ((wrap64 (2 * t119)) + 3))] ?_; (with_reducible refine (spec_l1Cur_pick.calls g s0_0 x1001_1 x1002_1 (wrap64 ((wrap64 (2 * t119)) + 3)) t129 t130 t131 w0 _ (IsS78.x2 HI0.out NB0_115.out NB0_122.out) (xG3 HB.out (IsS78.ge HI0.out) GE115.out GE122.out) A21.out).mono ?_); rintro e w84 ⟨rfl, hi, hb, hk⟩; refine ⟨_, rfl, ?_⟩; replace HO_123000 := aM (rM (Kd.R_keep (IsS78.apart (show IsS78 w0 _ g s0_0 x1001_1 x1002_1 from IsS78.x2 HI0.out NB0_115.out NB0_122.out) (xR HO_123000.out) (by decide)) hk (fun _ h => h.2)) (fun _ h => h.1)); replace BK115 := yQ hk BK115 NB115_0; replace BK122 := yQ hk BK122 NB122_0; replace HK := aM (KeepBut.trans (xK2 HK.out GW115.out GW122.out) hk (.inl rfl)); replace HB := aM (hb); replace HI0 := aM (hi); (try clear hb; try clear hk; try clear hi); have hnb85 := NB122_115.out; have hnc85 := NB115_122.out; have hnb86 := NB122_0.out; have hnc86 := NB0_122.out; obtain ⟨hcz87_0, hcz87_1, hfz87_0, hfz87_1⟩ := yD2 BK122) | (refine yL 39 Try.func85 #[.pointer (some ⟨g, 0, none⟩), .int .i64 60] ?_; (with_reducible refine (spec_l1Cur_pick.calls g s0_0 t130 t131 60 t132 t133 t134 w0 _ (IsS78.x2 HI0.out NB0_115.out NB0_122.out) (xG3 HB.out (IsS78.ge HI0.out) GE115.out GE122.out) A22.out).mono ?_); rintro e w88 ⟨rfl, hi, hb, hk⟩; refine ⟨_, rfl, ?_⟩; replace HO_123000 := aM (rM (Kd.R_keep (IsS78.apart (show IsS78 w0 _ g s0_0 t130 t131 from IsS78.x2 HI0.out NB0_115.out NB0_122.out) (zR (rM (Kd.R_far (p := ⟨gb122, 1, none⟩) (Kd.R_types HO_123000.out BK122.out (by decide)) (fun _ hk => hk.2) (.int .i64 (wrap64 ((wrap64 (t129 - t119)) - 1)))) (fun _ h_ => h_.1))) (by decide)) hk (fun _ h => h.2)) (fun _ h => h.1)); replace BK115 := yQ1 hk BK115 NB115_0 NB115_122; replace BK122 := aM (KeepBut.blk hk (g' := gb122) (o := .cells #[u123000, .int .i64 (wrap64 ((wrap64 (t129 - t119)) - 1))] 28 (0, 0)) (by (with_reducible repeat (first | refine bN ?_ _ | refine bD ?_ | refine bA ?_ _)); refine blk_put (cs := #[u123000, .int .i64 0]) ?_ 1 _ rfl; (with_reducible repeat (first | refine bN ?_ _ | refine bD ?_ | refine bA ?_ _)); exact BK122.out) NB122_0.out (by simp)); replace HK := aM (KeepBut.trans (xK2 HK.out GW115.out GW122.out) hk (.inl rfl)); replace HB := aM (hb); replace HI0 := aM (hi); (try clear hb; try clear hk; try clear hi); obtain ⟨hcz89_0, hcz89_1, hfz89_0, hfz89_1⟩ := yD2 BK122; obtain ⟨Ao90, co90, eo90⟩ := Kd.R_slice HO_123000.out; subst eo90; have hnb91 := NB115_0.out; have hnc91 := NB0_115.out; obtain ⟨hcz92_0, hcz92_1, hfz92_0, hfz92_1⟩ := yD2 BK115))
     refine bodyPost_ret (results_cell_row rfl _ _ gb115 28 #[.slice Ao90 x123000_1.length co90, .int .i64 (wrap64 ((wrap64 (t129 - t119)) - 1))] (0, 0) _ rfl (by (with_reducible repeat (first | refine bN ?_ _ | refine bD ?_ | refine bA ?_ _)); refine blk_put (cs := #[.slice Ao90 x123000_1.length co90, .int .i64 0]) ?_ 1 _ rfl; (with_reducible repeat (first | refine bN ?_ _ | refine bD ?_ | refine bA ?_ _)); refine blk_put (cs := #[.slice none 0 0, .int .i64 0]) ?_ 0 _ rfl; (with_reducible repeat (first | refine bN ?_ _ | refine bD ?_ | refine bA ?_ _)); exact BK115.out) Try.underlying28 rfl (by kernel_rfl)) rfl ?_
     exact ⟨_, yF, zR (rM (Kd.R_far (p := ⟨gb115, 1, none⟩) (Kd.R_far (p := ⟨gb115, 0, none⟩) (Kd.R_types HO_123000.out BK115.out (by decide)) (fun _ hk => hk.2) (.slice Ao90 x123000_1.length co90)) (fun _ hk => hk.2) (.int .i64 (wrap64 ((wrap64 (t129 - t119)) - 1)))) (fun _ hk => trivial)), IsS78.x2 HI0.out NB0_115.out NB0_122.out, xG3 HB.out (IsS78.ge HI0.out) GE115.out GE122.out, xK2 HK.out GW115.out GW122.out⟩
    have c71b0 : (t132 == 2) = true := beq_iff_eq.mpr c71
    have c71b1 : (t132 != 2) = false := bne_eq_false_iff_eq.mpr c71
    clear c71
    obtain ⟨c72, -, H⟩ | ⟨c72, -, H⟩ := yif H
    rotate_left
    · exact absurd H (by simp)
    have LMc72 := aM c72
    clear c72
    obtain ⟨y151, hy151⟩ := yE (x123000_1 ++ [1] : List Int)
    replace H : (some (y151, wrap64 ((wrap64 (t129 - t119)) - 1), t133, t134)) = some (r1, r2, r3, r4) := yI hy151 H
    have Ny151 := aM hy151
    clear hy151
    simp only [Option.some.injEq, Prod.mk.injEq] at H
    obtain ⟨rfl, rfl, rfl, rfl⟩ := H
    go_wp2_with (first | (refine yL 33 Try.func85 #[.pointer (some ⟨g, 0, none⟩), .int .i64 (wrap64 ((wrap64 (2 * t119)) + 3))] ?_; (with_reducible refine (spec_l1Cur_pick.calls g s0_0 x1001_1 x1002_1 (wrap64 ((wrap64 (2 * t119)) + 3)) t129 t130 t131 w0 _ (IsS78.x2 HI0.out NB0_115.out NB0_122.out) (xG3 HB.out (IsS78.ge HI0.out) GE115.out GE122.out) A21.out).mono ?_); rintro e w73 ⟨rfl, hi, hb, hk⟩; refine ⟨_, rfl, ?_⟩; replace HO_123000 := aM (rM (Kd.R_keep (IsS78.apart (show IsS78 w0 _ g s0_0 x1001_1 x1002_1 from IsS78.x2 HI0.out NB0_115.out NB0_122.out) (xR HO_123000.out) (by decide)) hk (fun _ h => h.2)) (fun _ h => h.1)); replace BK115 := yQ hk BK115 NB115_0; replace BK122 := yQ hk BK122 NB122_0; replace HK := aM (KeepBut.trans (xK2 HK.out GW115.out GW122.out) hk (.inl rfl)); replace HB := aM (hb); replace HI0 := aM (hi); (try clear hb; try clear hk; try clear hi); have hnb74 := NB122_115.out; have hnc74 := NB115_122.out; have hnb75 := NB122_0.out; have hnc75 := NB0_122.out; obtain ⟨hcz76_0, hcz76_1, hfz76_0, hfz76_1⟩ := yD2 BK122) | (refine yL 39 Try.func85 #[.pointer (some ⟨g, 0, none⟩), .int .i64 60] ?_; (with_reducible refine (spec_l1Cur_pick.calls g s0_0 t130 t131 60 t132 t133 t134 w0 _ (IsS78.x2 HI0.out NB0_115.out NB0_122.out) (xG3 HB.out (IsS78.ge HI0.out) GE115.out GE122.out) A22.out).mono ?_); rintro e w77 ⟨rfl, hi, hb, hk⟩; refine ⟨_, rfl, ?_⟩; replace HO_123000 := aM (rM (Kd.R_keep (IsS78.apart (show IsS78 w0 _ g s0_0 t130 t131 from IsS78.x2 HI0.out NB0_115.out NB0_122.out) (zR (rM (Kd.R_far (p := ⟨gb122, 1, none⟩) (Kd.R_types HO_123000.out BK122.out (by decide)) (fun _ hk => hk.2) (.int .i64 (wrap64 ((wrap64 (t129 - t119)) - 1)))) (fun _ h_ => h_.1))) (by decide)) hk (fun _ h => h.2)) (fun _ h => h.1)); replace BK115 := yQ1 hk BK115 NB115_0 NB115_122; replace BK122 := aM (KeepBut.blk hk (g' := gb122) (o := .cells #[u123000, .int .i64 (wrap64 ((wrap64 (t129 - t119)) - 1))] 28 (0, 0)) (by (with_reducible repeat (first | refine bN ?_ _ | refine bD ?_ | refine bA ?_ _)); refine blk_put (cs := #[u123000, .int .i64 0]) ?_ 1 _ rfl; (with_reducible repeat (first | refine bN ?_ _ | refine bD ?_ | refine bA ?_ _)); exact BK122.out) NB122_0.out (by simp)); replace HK := aM (KeepBut.trans (xK2 HK.out GW115.out GW122.out) hk (.inl rfl)); replace HB := aM (hb); replace HI0 := aM (hi); (try clear hb; try clear hk; try clear hi); obtain ⟨hcz78_0, hcz78_1, hfz78_0, hfz78_1⟩ := yD2 BK122) | ((with_reducible refine gate_builtin (b := .append) (xs := #[.tmp 62, .tmp 63]) rfl ?_); at_builtin; refine Kd.R_append (Kd.int .i64) w.heap.size rfl (.tmp 62) (.tmp 63) 24 3 (.int .i64 0) 8 rfl Try.underlying24 info3 rfl (by decide) (by omega) u123000 x123000_1 1 [.int .i64 1] (fun _ => True) (fun _ => False) rfl rfl ?aP (fun _ hk => hk.elim) ?aF ?aO (Below.refl _ _) ?aS ?aL ?_; (case aP => exact rfl); (case aF => exact (fun _ _ => trivial)); (case aO => exact (xR HO_123000.out)); (case aS => exact (keep_size (w := w) (g := g) (row := none) (xK2 HK.out GW115.out GW122.out))); (case aL => have := LMc72.out; omega); intro v152 w79 ho hb hg hat; rw [← Ny151.out] at ho; replace BK115 := yR BK115 hg (Kd.R_ne HO_123000.out BK115.out (by decide)); replace BK122 := yR BK122 hg (Kd.R_ne HO_123000.out BK122.out (by decide)); replace HB := aM (below_weaken (xG3 HB.out (IsS78.ge HI0.out) GE115.out GE122.out) HL.out hb); replace HI0 := aM (IsS78.grown (IsS78.x2 HI0.out NB0_115.out NB0_122.out) hg (IsS78.own_ne HI0.out HO_123000.out (by decide))); replace HK := aM (KeepBut.trans (xK2 HK.out GW115.out GW122.out) (KeepBut.of_grown hg g) (Kd.R_base2 HO_123000.out)); have HO153 := aM (ho); clear HO_123000; clear ho hb hg hat; obtain ⟨Ao80, co80, eo80⟩ := Kd.R_slice HO153.out; subst eo80; obtain ⟨hcz81_0, hcz81_1, hfz81_0, hfz81_1⟩ := yD2 BK122; have hnb82 := NB115_0.out; have hnc82 := NB0_115.out; obtain ⟨hcz83_0, hcz83_1, hfz83_0, hfz83_1⟩ := yD2 BK115))
    refine bodyPost_ret (results_cell_row rfl _ _ gb115 28 #[.slice Ao80 y151.length co80, .int .i64 (wrap64 ((wrap64 (t129 - t119)) - 1))] (0, 0) _ rfl (by (with_reducible repeat (first | refine bN ?_ _ | refine bD ?_ | refine bA ?_ _)); refine blk_put (cs := #[.slice Ao80 y151.length co80, .int .i64 0]) ?_ 1 _ rfl; (with_reducible repeat (first | refine bN ?_ _ | refine bD ?_ | refine bA ?_ _)); refine blk_put (cs := #[.slice none 0 0, .int .i64 0]) ?_ 0 _ rfl; (with_reducible repeat (first | refine bN ?_ _ | refine bD ?_ | refine bA ?_ _)); refine blk_far ?_ NB115_122.out _; (with_reducible repeat (first | refine bN ?_ _ | refine bD ?_ | refine bA ?_ _)); exact BK115.out) Try.underlying28 rfl (by kernel_rfl)) rfl ?_
    exact ⟨_, yF, zR (rM (Kd.R_far (p := ⟨gb115, 1, none⟩) (Kd.R_far (p := ⟨gb115, 0, none⟩) (Kd.R_far (p := ⟨gb122, 0, none⟩) (Kd.R_types (Kd.R_types HO153.out BK122.out (by decide)) BK115.out (by decide)) (fun _ hk => hk.1.2) (.slice Ao80 y151.length co80)) (fun _ hk => hk.2) (.slice Ao80 y151.length co80)) (fun _ hk => hk.2) (.int .i64 (wrap64 ((wrap64 (t129 - t119)) - 1)))) (fun _ hk => trivial)), IsS78.x2 HI0.out NB0_115.out NB0_122.out, xG3 HB.out (IsS78.ge HI0.out) GE115.out GE122.out, xK2 HK.out GW115.out GW122.out⟩
   have c38b0 : (t132 == 1) = true := beq_iff_eq.mpr c38
   have c38b1 : (t132 != 1) = false := bne_eq_false_iff_eq.mpr c38
   clear c38
   obtain ⟨c39, -, H⟩ | ⟨c39, -, H⟩ := yif H
   rotate_left
   ·
    have c39b0 : decide (0 < a1) = false := decide_eq_false c39
    clear c39
    simp only [Option.some.injEq, Prod.mk.injEq] at H
    obtain ⟨rfl, rfl, rfl, rfl⟩ := H
    go_wp2_with (first | (refine yL 33 Try.func85 #[.pointer (some ⟨g, 0, none⟩), .int .i64 (wrap64 ((wrap64 (2 * t119)) + 3))] ?_; (with_reducible refine (spec_l1Cur_pick.calls g s0_0 x1001_1 x1002_1 (wrap64 ((wrap64 (2 * t119)) + 3)) t129 t130 t131 w0 _ (IsS78.x2 HI0.out NB0_115.out NB0_122.out) (xG3 HB.out (IsS78.ge HI0.out) GE115.out GE122.out) A21.out).mono ?_); rintro e w62 ⟨rfl, hi, hb, hk⟩; refine ⟨_, rfl, ?_⟩; replace HO_123000 := aM (rM (Kd.R_keep (IsS78.apart (show IsS78 w0 _ g s0_0 x1001_1 x1002_1 from IsS78.x2 HI0.out NB0_115.out NB0_122.out) (xR HO_123000.out) (by decide)) hk (fun _ h => h.2)) (fun _ h => h.1)); replace BK115 := yQ hk BK115 NB115_0; replace BK122 := yQ hk BK122 NB122_0; replace HK := aM (KeepBut.trans (xK2 HK.out GW115.out GW122.out) hk (.inl rfl)); replace HB := aM (hb); replace HI0 := aM (hi); (try clear hb; try clear hk; try clear hi); have hnb63 := NB122_115.out; have hnc63 := NB115_122.out; have hnb64 := NB122_0.out; have hnc64 := NB0_122.out; obtain ⟨hcz65_0, hcz65_1, hfz65_0, hfz65_1⟩ := yD2 BK122) | (refine yL 39 Try.func85 #[.pointer (some ⟨g, 0, none⟩), .int .i64 60] ?_; (with_reducible refine (spec_l1Cur_pick.calls g s0_0 t130 t131 60 t132 t133 t134 w0 _ (IsS78.x2 HI0.out NB0_115.out NB0_122.out) (xG3 HB.out (IsS78.ge HI0.out) GE115.out GE122.out) A22.out).mono ?_); rintro e w66 ⟨rfl, hi, hb, hk⟩; refine ⟨_, rfl, ?_⟩; replace HO_123000 := aM (rM (Kd.R_keep (IsS78.apart (show IsS78 w0 _ g s0_0 t130 t131 from IsS78.x2 HI0.out NB0_115.out NB0_122.out) (zR (rM (Kd.R_far (p := ⟨gb122, 1, none⟩) (Kd.R_types HO_123000.out BK122.out (by decide)) (fun _ hk => hk.2) (.int .i64 (wrap64 ((wrap64 (t129 - t119)) - 1)))) (fun _ h_ => h_.1))) (by decide)) hk (fun _ h => h.2)) (fun _ h => h.1)); replace BK115 := yQ1 hk BK115 NB115_0 NB115_122; replace BK122 := aM (KeepBut.blk hk (g' := gb122) (o := .cells #[u123000, .int .i64 (wrap64 ((wrap64 (t129 - t119)) - 1))] 28 (0, 0)) (by (with_reducible repeat (first | refine bN ?_ _ | refine bD ?_ | refine bA ?_ _)); refine blk_put (cs := #[u123000, .int .i64 0]) ?_ 1 _ rfl; (with_reducible repeat (first | refine bN ?_ _ | refine bD ?_ | refine bA ?_ _)); exact BK122.out) NB122_0.out (by simp)); replace HK := aM (KeepBut.trans (xK2 HK.out GW115.out GW122.out) hk (.inl rfl)); replace HB := aM (hb); replace HI0 := aM (hi); (try clear hb; try clear hk; try clear hi); obtain ⟨hcz67_0, hcz67_1, hfz67_0, hfz67_1⟩ := yD2 BK122; obtain ⟨Ao68, co68, eo68⟩ := Kd.R_slice HO_123000.out; subst eo68; have hnb69 := NB115_0.out; have hnc69 := NB0_115.out; obtain ⟨hcz70_0, hcz70_1, hfz70_0, hfz70_1⟩ := yD2 BK115))
    refine bodyPost_ret (results_cell_row rfl _ _ gb115 28 #[.slice Ao68 x123000_1.length co68, .int .i64 (wrap64 ((wrap64 (t129 - t119)) - 1))] (0, 0) _ rfl (by (with_reducible repeat (first | refine bN ?_ _ | refine bD ?_ | refine bA ?_ _)); refine blk_put (cs := #[.slice Ao68 x123000_1.length co68, .int .i64 0]) ?_ 1 _ rfl; (with_reducible repeat (first | refine bN ?_ _ | refine bD ?_ | refine bA ?_ _)); refine blk_put (cs := #[.slice none 0 0, .int .i64 0]) ?_ 0 _ rfl; (with_reducible repeat (first | refine bN ?_ _ | refine bD ?_ | refine bA ?_ _)); exact BK115.out) Try.underlying28 rfl (by kernel_rfl)) rfl ?_
    exact ⟨_, yF, zR (rM (Kd.R_far (p := ⟨gb115, 1, none⟩) (Kd.R_far (p := ⟨gb115, 0, none⟩) (Kd.R_types HO_123000.out BK115.out (by decide)) (fun _ hk => hk.2) (.slice Ao68 x123000_1.length co68)) (fun _ hk => hk.2) (.int .i64 (wrap64 ((wrap64 (t129 - t119)) - 1)))) (fun _ hk => trivial)), IsS78.x2 HI0.out NB0_115.out NB0_122.out, xG3 HB.out (IsS78.ge HI0.out) GE115.out GE122.out, xK2 HK.out GW115.out GW122.out⟩
   have c39b0 : decide (0 < a1) = true := decide_eq_true c39
   clear c39
   replace H := oB.mp H
   obtain ⟨⟨t141, t142, t143⟩, A400, H⟩ := H
   (try dsimp only at H)
   have A40 := aM A400
   clear A400
   obtain ⟨y144, hy144⟩ := yE (([99, (-99), 100, (-100)] : List Int) : List Int)
   replace H : ((spec_l1Cur_among.f s0_0 t142 t143 y144).bind fun bt147 => (if 0 ≤ t141 then (if t141 < (x123000_1.length : Int) then (some ((x123000_1.set (t141 : Int).toNat bt147.1), wrap64 ((wrap64 (t129 - t119)) - 1), bt147.2.1, bt147.2.2)) else (none)) else (none))) = some (r1, r2, r3, r4) := yI hy144 H
   have Ny144 := aM hy144
   clear hy144
   replace H := oB.mp H
   obtain ⟨⟨t147, t148, t149⟩, A410, H⟩ := H
   (try dsimp only at H)
   have A41 := aM A410
   clear A410
   obtain ⟨-, c42b0, H⟩ | ⟨c42, -, H⟩ := yif H
   rotate_left
   · exact absurd H (by simp)
   obtain ⟨-, c43b0, H⟩ | ⟨c43, -, H⟩ := yif H
   rotate_left
   · exact absurd H (by simp)
   obtain ⟨y150, hy150⟩ := yE (x123000_1.set (t141 : Int).toNat t147 : List Int)
   replace H : (some (y150, wrap64 ((wrap64 (t129 - t119)) - 1), t148, t149)) = some (r1, r2, r3, r4) := yI hy150 H
   have Ny150 := aM hy150
   clear hy150
   simp only [Option.some.injEq, Prod.mk.injEq] at H
   obtain ⟨rfl, rfl, rfl, rfl⟩ := H
   try go_wp2_with (first | (refine yL 33 Try.func85 #[.pointer (some ⟨g, 0, none⟩), .int .i64 (wrap64 ((wrap64 (2 * t119)) + 3))] ?_; (with_reducible refine (spec_l1Cur_pick.calls g s0_0 x1001_1 x1002_1 (wrap64 ((wrap64 (2 * t119)) + 3)) t129 t130 t131 w0 _ (IsS78.x2 HI0.out NB0_115.out NB0_122.out) (xG3 HB.out (IsS78.ge HI0.out) GE115.out GE122.out) A21.out).mono ?_); rintro e w45 ⟨rfl, hi, hb, hk⟩; refine ⟨_, rfl, ?_⟩; replace HO_123000 := aM (rM (Kd.R_keep (IsS78.apart (show IsS78 w0 _ g s0_0 x1001_1 x1002_1 from IsS78.x2 HI0.out NB0_115.out NB0_122.out) (xR HO_123000.out) (by decide)) hk (fun _ h => h.2)) (fun _ h => h.1)); replace BK115 := yQ hk BK115 NB115_0; replace BK122 := yQ hk BK122 NB122_0; replace HK := aM (KeepBut.trans (xK2 HK.out GW115.out GW122.out) hk (.inl rfl)); replace HB := aM (hb); replace HI0 := aM (hi); (try clear hb; try clear hk; try clear hi); have hnb46 := NB122_115.out; have hnc46 := NB115_122.out; have hnb47 := NB122_0.out; have hnc47 := NB0_122.out; obtain ⟨hcz48_0, hcz48_1, hfz48_0, hfz48_1⟩ := yD2 BK122) | (refine yL 39 Try.func85 #[.pointer (some ⟨g, 0, none⟩), .int .i64 60] ?_; (with_reducible refine (spec_l1Cur_pick.calls g s0_0 t130 t131 60 t132 t133 t134 w0 _ (IsS78.x2 HI0.out NB0_115.out NB0_122.out) (xG3 HB.out (IsS78.ge HI0.out) GE115.out GE122.out) A22.out).mono ?_); rintro e w49 ⟨rfl, hi, hb, hk⟩; refine ⟨_, rfl, ?_⟩; replace HO_123000 := aM (rM (Kd.R_keep (IsS78.apart (show IsS78 w0 _ g s0_0 t130 t131 from IsS78.x2 HI0.out NB0_115.out NB0_122.out) (zR (rM (Kd.R_far (p := ⟨gb122, 1, none⟩) (Kd.R_types HO_123000.out BK122.out (by decide)) (fun _ hk => hk.2) (.int .i64 (wrap64 ((wrap64 (t129 - t119)) - 1)))) (fun _ h_ => h_.1))) (by decide)) hk (fun _ h => h.2)) (fun _ h => h.1)); replace BK115 := yQ1 hk BK115 NB115_0 NB115_122; replace BK122 := aM (KeepBut.blk hk (g' := gb122) (o := .cells #[u123000, .int .i64 (wrap64 ((wrap64 (t129 - t119)) - 1))] 28 (0, 0)) (by (with_reducible repeat (first | refine bN ?_ _ | refine bD ?_ | refine bA ?_ _)); refine blk_put (cs := #[u123000, .int .i64 0]) ?_ 1 _ rfl; (with_reducible repeat (first | refine bN ?_ _ | refine bD ?_ | refine bA ?_ _)); exact BK122.out) NB122_0.out (by simp)); replace HK := aM (KeepBut.trans (xK2 HK.out GW115.out GW122.out) hk (.inl rfl)); replace HB := aM (hb); replace HI0 := aM (hi); (try clear hb; try clear hk; try clear hi)))
   replace HO_123000 := aM (rD HO_123000.out)
   replace BK115 := aM (bD BK115.out)
   replace BK122 := aM (bD BK122.out)
   replace HI0 := aM (IsS78.drew HI0.out)
   replace HK := aM (keep_drew HK.out)
   replace HB := aM (eD HB.out)
   refine start_ (n := 10) (S := fun w' => w'.cell? ⟨gb122, 0, none⟩ = some (u123000) ∧ w'.cell? ⟨gb122, 1, none⟩ = some (.int .i64 (wrap64 ((wrap64 (t129 - t119)) - 1)))) (ds := [9]) (bm 10 0) (by kernel_rfl) rfl rfl ⟨(bC BK122.out 0).trans rfl, (bC BK122.out 1).trans rfl⟩ (fun hHeld => ?_); refine with_tabW spec_l1Cur_plane.tab12 spec_l1Cur_plane.bits12 (fun HT_ HW_ => ?_)
   generalize w49.drew = w50 at HO_123000 BK115 BK122 HI0 HK HB hHeld ⊢
   refine yP 0 50 (bm 10 1) HT_ ?_
   refine yP 2 52 (bm 10 5) HT_ ?_
   refine yP 3 53 (bm 10 13) HT_ ?_
   refine yP 5 55 (bm 10 45) HT_ ?_
   refine yT2 1 51 (bm 10 47) HT_ HW_ hHeld ?_
   refine join_ (σ := Value) 3 (bm 10 127) (fun s_ => [(54, .int .i64 t141), (56, s_)]) (fun s_ w' => (w'.cell? ⟨gb122, 0, none⟩ = some (u123000) ∧ w'.cell? ⟨gb122, 1, none⟩ = some (.int .i64 (wrap64 ((wrap64 (t129 - t119)) - 1)))) ∧ (Kd.R (Kd.int .i64) 3 w' w.heap.size (fun k_ => some k_ ≠ (u123000 : Value).ownBlock) s_ y144) ∧ (Kd.R (Kd.int .i64) 3 w' w.heap.size (fun k_ => some k_ ≠ (s_ : Value).ownBlock) u123000 x123000_1) ∧ (w'.heap[gb115]? = some (.cells #[.slice none 0 0, .int .i64 0] 28 (0, 0))) ∧ (w'.heap[gb122]? = some (.cells #[u123000, .int .i64 (wrap64 ((wrap64 (t129 - t119)) - 1))] 28 (0, 0))) ∧ (IsS78 w0 w' g s0_0 t142 t143) ∧ (KeepBut w w' g none) ∧ (Below w0.heap.size w0 w')) ?_ ?_
   rotate_left
   ·
    intro hCont
    refine two_ (i := 4) (j := 6) (Ni := some 54) (Nj := some 56) (bm 10 63) (bm 10 111) rfl rfl rfl rfl (two_of HT_.out (by kernel_rfl)) (by decide) (by decide) (fun K hK => ?_) (fun K hK => ?_)
    ·
     skip
     refine yG Try.func85 #[.pointer (some ⟨g, 0, none⟩), .int .i64 a1] ?_
     with_reducible refine (spec_l1Cur_pick.calls g s0_0 t133 t134 a1 t141 t142 t143 w0 _ ?side1 ?side2 A40.out).mono ?_
     (case side1 => exact IsS78.x2 HI0.out NB0_115.out NB0_122.out)
     (case side2 => exact xG3 HB.out (IsS78.ge HI0.out) GE115.out GE122.out)
     rintro e w51 ⟨rfl, hi, hb, hk⟩
     refine ⟨_, rfl, ?_⟩
     replace HO_123000 := aM (rM (Kd.R_keep (IsS78.apart (show IsS78 w0 _ g s0_0 t133 t134 from IsS78.x2 HI0.out NB0_115.out NB0_122.out) (xR HO_123000.out) (by decide)) hk (fun _ h => h.2)) (fun _ h => h.1))
     replace BK115 := yQ hk BK115 NB115_0
     replace BK122 := yQ hk BK122 NB122_0
     replace HK := aM (KeepBut.trans (xK2 HK.out GW115.out GW122.out) hk (.inl rfl))
     replace HB := aM (hb)
     replace HI0 := aM (hi)
     (try clear hb)
     skip
     (try clear hk)
     (try clear hi)
     refine hK.out _ _ ⟨(bC BK122.out 0).trans rfl, (bC BK122.out 1).trans rfl⟩ (fun hHeld => ?_)
     clear hK K
     refine norm_ (a' := ?_) ?_ ?_
     rotate_left
     ·
      show Act.put _ (some 54) _ = _
      simp only [Act.put, sA, sZ, sU, i64_w, i32_w]
      rfl
     refine yO 6 56 (bm 10 127) HT_ (fun K hK => ?_)
     refine Kd.R_lit_step (Kd.int .i64) _ 3 ?hg (N := 56) ?hd (xs := ([99, (-99), 100, (-100)] : List Int)) (inner := [.int .i64 99, .int .i64 (-99), .int .i64 100, .int .i64 (-100)]) (ok := fun _ => True) (okp := fun _ => True) ?hr ?hp (fun _ hk => hk) trivial (Below.refl _ _) (Nat.le_refl _) (by simp) ?_; (case hd => rfl); (case hg => rfl); (case hr => first | (go_simp; done) | (go_simp; rfl)); (case hp => exact (Reps.one (show Kd.M (Kd.int .i64) _ _ _ 99 [.int .i64 99] from rfl) (Reps.one (show Kd.M (Kd.int .i64) _ _ _ (-99) [.int .i64 (-99)] from rfl) (Reps.one (show Kd.M (Kd.int .i64) _ _ _ 100 [.int .i64 100] from rfl) (Reps.one (show Kd.M (Kd.int .i64) _ _ _ (-100) [.int .i64 (-100)] from rfl) (Reps.none _ _))))))
     intro v145 w52 ho53 hb hg_ hnew_
     clear hg_ hnew_
     (first | rw [← Ny144.out] at ho53 | (simp only [Int.reduceToNat] at ho53; rw [← Ny144.out] at ho53))
     have HO146 := aM (Kd.R_lower (Kd.R_new' ho53 (Kd.R_lt (xR HO_123000.out))) (keep_size (w := w) (g := g) (row := none) (xK2 HK.out GW115.out GW122.out)))
     replace HO_123000 := aM (Kd.R_elder' (xR HO_123000.out) (Kd.R_base ho53) hb)
     replace BK115 := yK BK115 hb
     replace BK122 := yK BK122 hb
     replace HK := aM (KeepBut.trans (xK2 HK.out GW115.out GW122.out) (KeepBut.of_below hb g none) (.inl rfl))
     replace HB := aM (below_step (xG3 HB.out (IsS78.ge HI0.out) GE115.out GE122.out) hb)
     replace HI0 := aM (IsS78.below (IsS78.x2 HI0.out NB0_115.out NB0_122.out) hb)
     clear hb ho53
     refine hK.out _ _ ⟨(bC BK122.out 0).trans rfl, (bC BK122.out 1).trans rfl⟩ (fun hHeld => ?_)
     clear hK K
     refine norm_ (a' := ?_) ?_ ?_
     rotate_left
     ·
      show Act.put _ (some 56) _ = _
      simp only [Act.put, sA, sZ, sU, i64_w, i32_w]
      rfl
     exact norm_ (by simp only [putAll, Act.put, sA, sZ, sU]) (hCont (v145) _ ⟨hHeld, (zR (rM HO146.out (fun _ hk => by first | exact hk.2 | exact trivial))), (zR (rM HO_123000.out (fun _ hk => hk.2))), (xB BK115.out), (xB BK122.out), (IsS78.x2 HI0.out NB0_115.out NB0_122.out), (xK2 HK.out GW115.out GW122.out), (xG3 HB.out (IsS78.ge HI0.out) GE115.out GE122.out)⟩)
    ·
     skip
     refine Kd.R_lit_step (Kd.int .i64) _ 3 ?hg (N := 56) ?hd (xs := ([99, (-99), 100, (-100)] : List Int)) (inner := [.int .i64 99, .int .i64 (-99), .int .i64 100, .int .i64 (-100)]) (ok := fun _ => True) (okp := fun _ => True) ?hr ?hp (fun _ hk => hk) trivial (Below.refl _ _) (Nat.le_refl _) (by simp) ?_; (case hd => rfl); (case hg => rfl); (case hr => first | (go_simp; done) | (go_simp; rfl)); (case hp => exact (Reps.one (show Kd.M (Kd.int .i64) _ _ _ 99 [.int .i64 99] from rfl) (Reps.one (show Kd.M (Kd.int .i64) _ _ _ (-99) [.int .i64 (-99)] from rfl) (Reps.one (show Kd.M (Kd.int .i64) _ _ _ 100 [.int .i64 100] from rfl) (Reps.one (show Kd.M (Kd.int .i64) _ _ _ (-100) [.int .i64 (-100)] from rfl) (Reps.none _ _))))))
     intro v145 w51 ho52 hb hg_ hnew_
     clear hg_ hnew_
     (first | rw [← Ny144.out] at ho52 | (simp only [Int.reduceToNat] at ho52; rw [← Ny144.out] at ho52))
     have HO146 := aM (Kd.R_lower (Kd.R_new' ho52 (Kd.R_lt (xR HO_123000.out))) (keep_size (w := w) (g := g) (row := none) (xK2 HK.out GW115.out GW122.out)))
     replace HO_123000 := aM (Kd.R_elder' (xR HO_123000.out) (Kd.R_base ho52) hb)
     replace BK115 := yK BK115 hb
     replace BK122 := yK BK122 hb
     replace HK := aM (KeepBut.trans (xK2 HK.out GW115.out GW122.out) (KeepBut.of_below hb g none) (.inl rfl))
     replace HB := aM (below_step (xG3 HB.out (IsS78.ge HI0.out) GE115.out GE122.out) hb)
     replace HI0 := aM (IsS78.below (IsS78.x2 HI0.out NB0_115.out NB0_122.out) hb)
     clear hb ho52
     refine hK.out _ _ ⟨(bC BK122.out 0).trans rfl, (bC BK122.out 1).trans rfl⟩ (fun hHeld => ?_)
     clear hK K
     refine norm_ (a' := ?_) ?_ ?_
     rotate_left
     ·
      show Act.put _ (some 56) _ = _
      simp only [Act.put, sA, sZ, sU, i64_w, i32_w]
      rfl
     refine yO 4 54 (bm 10 127) HT_ (fun K hK => ?_)
     refine yG Try.func85 #[.pointer (some ⟨g, 0, none⟩), .int .i64 a1] ?_
     with_reducible refine (spec_l1Cur_pick.calls g s0_0 t133 t134 a1 t141 t142 t143 w0 _ ?side1 ?side2 A40.out).mono ?_
     (case side1 => exact IsS78.x2 HI0.out NB0_115.out NB0_122.out)
     (case side2 => exact xG3 HB.out (IsS78.ge HI0.out) GE115.out GE122.out)
     rintro e w53 ⟨rfl, hi, hb, hk⟩
     refine ⟨_, rfl, ?_⟩
     replace HO_123000 := aM (rM (Kd.R_keep (IsS78.apart (show IsS78 w0 _ g s0_0 t133 t134 from IsS78.x2 HI0.out NB0_115.out NB0_122.out) (xR HO_123000.out) (by decide)) hk (fun _ h => h.2)) (fun _ h => h.1))
     replace BK115 := yQ hk BK115 NB115_0
     replace BK122 := yQ hk BK122 NB122_0
     replace HO146 := aM (rM (Kd.R_keep (IsS78.apart (show IsS78 w0 _ g s0_0 t133 t134 from IsS78.x2 HI0.out NB0_115.out NB0_122.out) (xR HO146.out) (by decide)) hk (fun _ h => h.2)) (fun _ h => h.1))
     replace HK := aM (KeepBut.trans (xK2 HK.out GW115.out GW122.out) hk (.inl rfl))
     replace HB := aM (hb)
     replace HI0 := aM (hi)
     (try clear hb)
     (try clear hb2)
     (try clear hk)
     (try clear hi)
     refine hK.out _ _ ⟨(bC BK122.out 0).trans rfl, (bC BK122.out 1).trans rfl⟩ (fun hHeld => ?_)
     clear hK K
     refine norm_ (a' := ?_) ?_ ?_
     rotate_left
     ·
      show Act.put _ (some 54) _ = _
      simp only [Act.put, sA, sZ, sU, i64_w, i32_w]
      rfl
     exact norm_ (by simp only [putAll, Act.put, sA, sZ, sU]) (hCont (v145) _ ⟨hHeld, (zR (rM HO146.out (fun _ hk => by first | exact hk.2 | exact trivial))), (zR (rM HO_123000.out (fun _ hk => hk.2))), (xB BK115.out), (xB BK122.out), (IsS78.x2 HI0.out NB0_115.out NB0_122.out), (xK2 HK.out GW115.out GW122.out), (xG3 HB.out (IsS78.ge HI0.out) GE115.out GE122.out)⟩)
   rintro v145 w54 ⟨hS_, h0_, h1_, h2_, h3_, h4_, h5_, h6_⟩
   have n0_ : Aside0 (Kd.R (Kd.int .i64) 3 w54 w.heap.size (fun k_ => some k_ ≠ (u123000 : Value).ownBlock) v145 y144) := ⟨h0_⟩
   have n1_ : Aside0 (Kd.R (Kd.int .i64) 3 w54 w.heap.size (fun k_ => some k_ ≠ (v145 : Value).ownBlock) u123000 x123000_1) := ⟨h1_⟩
   have n2_ : Aside0 (w54.heap[gb115]? = some (.cells #[.slice none 0 0, .int .i64 0] 28 (0, 0))) := ⟨h2_⟩
   have n3_ : Aside0 (w54.heap[gb122]? = some (.cells #[u123000, .int .i64 (wrap64 ((wrap64 (t129 - t119)) - 1))] 28 (0, 0))) := ⟨h3_⟩
   have n4_ : Aside0 (IsS78 w0 w54 g s0_0 t142 t143) := ⟨h4_⟩
   have n5_ : Aside0 (KeepBut w w54 g none) := ⟨h5_⟩
   have n6_ : Aside0 (Below w0.heap.size w0 w54) := ⟨h6_⟩
   clear HO_123000
   clear BK115
   clear BK122
   clear HI0
   clear HK
   clear HB
   clear h0_ h1_ h2_ h3_ h4_ h5_ h6_
   have HO146 := n0_
   have HO_123000 := n1_
   have BK115 := n2_
   have BK122 := n3_
   have HI0 := n4_
   have HK := n5_
   have HB := n6_
   clear n0_ n1_ n2_ n3_ n4_ n5_ n6_
   have hHeld : w54.cell? ⟨gb122, 0, none⟩ = some (u123000) ∧ w54.cell? ⟨gb122, 1, none⟩ = some (.int .i64 (wrap64 ((wrap64 (t129 - t119)) - 1))) := hS_
   obtain ⟨Ao55, co55, eo55⟩ := Kd.R_slice HO146.out
   (first | subst eo55 | (injection eo55 with f1_ f2_ f3_; have f4_ := f1_.symm; have f5_ := f3_.symm; clear f1_ f2_ f3_; subst f4_; subst f5_))
   refine norm_ (a' := ?_) ?_ ?_
   rotate_left
   ·
    simp only [putAll, Act.put, sA, sZ, sU]
    rfl
   refine yO 7 57 (bm 10 255) HT_ (fun K hK => ?_)
   refine yG Try.func87 #[.pointer (some ⟨g, 0, none⟩), .slice Ao55 y144.length co55] ?_
   with_reducible refine (spec_l1Cur_among.calls g s0_0 t142 t143 _ _ y144 t147 t148 t149 w0 _ ?side1 ?side2 ?side3 ?side4 ?side5 A41.out).mono ?_
   (case side1 => exact IsS78.x2 HI0.out NB0_115.out NB0_122.out)
   (case side2 => exact xG3 HB.out (IsS78.ge HI0.out) GE115.out GE122.out)
   (case side3 => exact xC (Kd.R_reads' HO146.out).2.2)
   (case side4 => exact (Kd.R_reads' HO146.out).2.1)
   (case side5 => exact far_slice (IsS78.own_ne HI0.out HO146.out (by decide)))
   rintro e w56 ⟨rfl, hi, hb, hk⟩
   refine ⟨_, rfl, ?_⟩
   replace HO_123000 := aM (rM (Kd.R_keep (IsS78.apart (show IsS78 w0 _ g s0_0 t142 t143 from IsS78.x2 HI0.out NB0_115.out NB0_122.out) (xR HO_123000.out) (by decide)) hk (fun _ h => h.2)) (fun _ h => h.1))
   replace BK115 := yQ hk BK115 NB115_0
   replace BK122 := yQ hk BK122 NB122_0
   replace HO146 := aM (rM (Kd.R_keep (IsS78.apart (show IsS78 w0 _ g s0_0 t142 t143 from IsS78.x2 HI0.out NB0_115.out NB0_122.out) (xR HO146.out) (by decide)) hk (fun _ h => h.2)) (fun _ h => h.1))
   replace HK := aM (KeepBut.trans (xK2 HK.out GW115.out GW122.out) hk (.inl rfl))
   replace HB := aM (hb)
   replace HI0 := aM (hi)
   (try clear hb)
   (try clear hb2)
   (try clear hk)
   (try clear hi)
   have p44 : 0 ≤ (t141 : Int) := yA
   have q44 : (t141 : Int) < ((x123000_1.length : Int) : Int) := yA
   obtain ⟨go44, co44, eo44, gb44, gl44, cl44, HG44⟩ := Kd.R_form HO_123000.out (by omega)
   (first | cases eo44 | (injection eo44 with ea_ en_ ec_; (first | subst ea_ | (injection ea_ with ea_; subst ea_)); subst ec_; clear en_))
   have GB44 := aM gb44
   have GG44 := aM HG44
   clear gb44 gl44 HG44
   obtain ⟨hx44_0, hf44_0⟩ := Kd.R_celln 0 HO_123000.out (t141 : Int) p44 q44
   replace p44 := eq_true p44
   replace q44 := eq_true q44
   have HN0_go44 := aM (show g ≠ go44 from by have h_ := IsS78.own_ne HI0.out HO_123000.out (by decide); intro e_; exact h_ (by rw [e_]; rfl))
   have HP57 := Kd.R_putn HO_123000.out (t141 : Int) t147
   rw [← Ny150.out] at HP57
   have HQ57 := aM HP57
   clear HP57
   refine hK.out _ _ ⟨(bC BK122.out 0).trans rfl, (bC BK122.out 1).trans rfl⟩ (fun hHeld => ?_)
   clear hK K
   refine norm_ (a' := ?_) ?_ ?_
   rotate_left
   ·
    show Act.put _ (some 57) _ = _
    simp only [Act.put, sA, sZ, sU, i64_w, i32_w]
    rfl
   refine yP 8 58 (bm 10 511) HT_ ?_
   refine last_ (i := 9) (N := none) (bm 10 1023) rfl rfl (one_of HT_.out (by kernel_rfl)) (by decide) (fun K hK => ?_)
   refine skip_ (w1 := ?_) (by rfl) rfl ?_ ?_
   rotate_left
   ·
    go_simp
    rfl
   refine hK.out _ _ ?_
   clear hK K
   refine done_ (done_of HT_.out (by kernel_rfl)) ?_
   have n0_ : Aside0 (Kd.R (Kd.int .i64) 3 (w56.setCell ⟨go44, (t141 : Int).toNat, none⟩ (.int .i64 t147)) w.heap.size (fun k_ => some k_ ≠ (.slice Ao55 y144.length co55 : Value).ownBlock) (.slice (some ⟨go44, 0, none⟩) x123000_1.length co44) y150) := ⟨xR HQ57.out⟩
   have n1_ : Aside0 (Kd.R (Kd.int .i64) 3 (w56.setCell ⟨go44, (t141 : Int).toNat, none⟩ (.int .i64 t147)) w.heap.size (fun k_ => some k_ ≠ (.slice (some ⟨go44, 0, none⟩) x123000_1.length co44 : Value).ownBlock) (.slice Ao55 y144.length co55) y144) := ⟨zR (rM (Kd.R_far (p := ⟨go44, (t141 : Int).toNat, none⟩) (rM HO146.out (fun k_ hk => (⟨hk, fun e_ => hk (by rw [e_]; rfl)⟩ : _ ∧ k_ ≠ go44))) (fun _ hk => hk.2) (.int .i64 t147)) (fun _ hk => hk.1))⟩
   have n2_ : Aside0 ((w56.setCell ⟨go44, (t141 : Int).toNat, none⟩ (.int .i64 t147)).heap[gb115]? = some (.cells #[.slice none 0 0, .int .i64 0] 28 (0, 0))) := ⟨by (with_reducible repeat (first | refine bN ?_ _ | refine bD ?_ | refine bA ?_ _)); refine blk_far ?_ (by have h_ := Kd.R_ne HO_123000.out BK115.out (by decide); intro e_; exact h_ (by rw [e_]; rfl)) _; (with_reducible repeat (first | refine bN ?_ _ | refine bD ?_ | refine bA ?_ _)); exact BK115.out⟩
   have n3_ : Aside0 ((w56.setCell ⟨go44, (t141 : Int).toNat, none⟩ (.int .i64 t147)).heap[gb122]? = some (.cells #[.slice (some ⟨go44, 0, none⟩) x123000_1.length co44, .int .i64 (wrap64 ((wrap64 (t129 - t119)) - 1))] 28 (0, 0))) := ⟨by (with_reducible repeat (first | refine bN ?_ _ | refine bD ?_ | refine bA ?_ _)); refine blk_far ?_ (by have h_ := Kd.R_ne HO_123000.out BK122.out (by decide); intro e_; exact h_ (by rw [e_]; rfl)) _; (with_reducible repeat (first | refine bN ?_ _ | refine bD ?_ | refine bA ?_ _)); exact BK122.out⟩
   have n4_ : Aside0 (IsS78 w0 (w56.setCell ⟨go44, (t141 : Int).toNat, none⟩ (.int .i64 t147)) g s0_0 t148 t149) := ⟨IsS78.x3 HI0.out HN0_go44.out NB0_115.out NB0_122.out⟩
   have n5_ : Aside0 (KeepBut w (w56.setCell ⟨go44, (t141 : Int).toNat, none⟩ (.int .i64 t147)) g none) := ⟨xK3 HK.out GB44.out GW115.out GW122.out⟩
   have n6_ : Aside0 (Below w0.heap.size w0 (w56.setCell ⟨go44, (t141 : Int).toNat, none⟩ (.int .i64 t147))) := ⟨by repeat (first | (with_reducible first | exact HB.out | apply eA | apply eN | apply eD | refine eS ?_ (Nat.le_trans HL.out GB44.out) | refine eS ?_ (IsS78.ge HI0.out) | refine eS ?_ GE115.out | refine eS ?_ GE122.out) | exact HB.out)⟩
   (try clear HO_123000)
   (try clear HO146)
   (try clear BK115)
   (try clear BK122)
   (try clear HI0)
   (try clear HK)
   (try clear HB)
   generalize (w56.setCell ⟨go44, (t141 : Int).toNat, none⟩ (.int .i64 t147)) = w58 at n0_ n1_ n2_ n3_ n4_ n5_ n6_ ⊢
   have HO_123000 := n0_
   have HO146 := n1_
   have BK115 := n2_
   have BK122 := n3_
   have HI0 := n4_
   have HK := n5_
   have HB := n6_
   clear n0_ n1_ n2_ n3_ n4_ n5_ n6_
   have hcz59_0 := yC0 BK122
   have hcz59_1 := yC1 BK122
   have hfz59_0 := bF BK122.out 0
   have hfz59_1 := bF BK122.out 1
   have hnb60 := NB115_0.out
   have hnc60 := NB0_115.out
   have hcz61_0 := yC0 BK115
   have hcz61_1 := yC1 BK115
   have hfz61_0 := bF BK115.out 0
   have hfz61_1 := bF BK115.out 1
   try go_wp2
   refine bodyPost_ret (results_cell_row rfl _ _ gb115 28 #[.slice (some ⟨go44, 0, none⟩) x123000_1.length co44, .int .i64 (wrap64 ((wrap64 (t129 - t119)) - 1))] (0, 0) _ rfl (by (with_reducible repeat (first | refine bN ?_ _ | refine bD ?_ | refine bA ?_ _)); refine blk_put (cs := #[.slice (some ⟨go44, 0, none⟩) x123000_1.length co44, .int .i64 0]) ?_ 1 _ rfl; (with_reducible repeat (first | refine bN ?_ _ | refine bD ?_ | refine bA ?_ _)); refine blk_put (cs := #[.slice none 0 0, .int .i64 0]) ?_ 0 _ rfl; (with_reducible repeat (first | refine bN ?_ _ | refine bD ?_ | refine bA ?_ _)); exact BK115.out) Try.underlying28 rfl (by kernel_rfl)) rfl ?_
   exact ⟨_, yF, zR (rM (Kd.R_far (p := ⟨gb115, 1, none⟩) (Kd.R_far (p := ⟨gb115, 0, none⟩) (Kd.R_types HO_123000.out BK115.out (by decide)) (fun _ hk => hk.2) (.slice (some ⟨go44, 0, none⟩) x123000_1.length co44)) (fun _ hk => hk.2) (.int .i64 (wrap64 ((wrap64 (t129 - t119)) - 1)))) (fun _ hk => trivial)), IsS78.x2 HI0.out NB0_115.out NB0_122.out, xG3 HB.out (IsS78.ge HI0.out) GE115.out GE122.out, xK2 HK.out GW115.out GW122.out⟩
def spec_l1In.f (a0 : Int) (a1 : Int) (a2 : Int) : Option (Bool) := if a0 ≥ a1 then (some (decide (a0 ≤ a2))) else (some false)
theorem spec_l1In.calls (a0 : Int) (a1 : Int) (a2 : Int) (r : Bool) (w : World) (h : spec_l1In.f a0 a1 a2 = some r) :
    Calls Try.prog 111 #[.int .i64 a0, .int .i64 a1, .int .i64 a2] w fun e w' => e = .returned (.bool r) ∧ Drawn0 w w' := by
 have H : (if a0 ≥ a1 then (some (decide (a0 ≤ a2))) else (some false)) = some r := h
 clear h
 obtain ⟨c4, -, H⟩ | ⟨c4, -, H⟩ := yif H
 ·
  have c4b0 : decide (a1 ≤ a0) = true := decide_eq_true c4
  clear c4
  obtain rfl := Option.some.inj H
  go_enter Try.func111, Try.ntmps111
  go_wp2
  go_ret
  exact ⟨yZ, yDn⟩
 have c4b0 : decide (a1 ≤ a0) = false := decide_eq_false c4
 clear c4
 obtain rfl := Option.some.inj H
 go_enter Try.func111, Try.ntmps111
 go_wp2
 go_ret
 exact ⟨yZ, yDn⟩
end Go.Proofs.Ytmfmgnpefjmieaa.PFnThresholdTables
