-- Laid for this claim by a program of the session's own (wip/tool/myprint.py).
import Derived.Test.YtgidnmpppbkamaaMFnExactPlaneClassx0
import Derived.Test.YtgidnmpppbkamaaMFnExactPlaneClassx2
namespace Go.Proofs.Ytgidnmpppbkamaa.PFnExactPlaneClass
open Go.RowKit Go.Proofs.YtgidnmpppbkamaaW.PrintWords Go.Proofs.YtgidnmpppbkamaaW.PrintLast Go.Proofs.YtgidnmpppbkamaaW.PrintMore
attribute [local go_sem] max2_int min2_int max_two min_two max_three min_three max_four min_four
set_option linter.unusedVariables false
set_option maxHeartbeats 8000000
set_option maxRecDepth 100000
set_option linter.unusedSimpArgs false
def spec_l2Part.l0 : Nat → List Int → Int → List (List Int) → List Int → List (List Int) → List Int → Option ((List (List Int)) × List Int)
 | 0, _, _, _, _, _, _ => none
 | k + 1, x1, x6, x153000, x153001, x161000, x161001 => if x6 < (x1.length : Int) then (if 0 ≤ x6 then (if 0 ≤ (rd x1 x6) then (if (rd x1 x6) < (x153000.length : Int) then ((spec_l1Own.f (rd_L1 x153000 (rd x1 x6))).bind fun t163 => (if x161000.length < 5864062014805 then (if (rd x1 x6) < (x153001.length : Int) then (if x161001.length < 17592186044416 then (spec_l2Part.l0 k x1 (wrap64 (x6 + 1)) x153000 x153001 (x161000 ++ [t163]) (x161001 ++ [rd x153001 (rd x1 x6)])) else (none)) else (none)) else (none))) else (none)) else (none)) else (none)) else (some (x161000, x161001))
def spec_l2Part.f (k : Nat) (l0_0 : List (List Int)) (l0_1 : List Int) (l1 : List Int) : Option ((List (List Int)) × List Int) := spec_l2Part.l0 k l1 0 l0_0 l0_1 (([] : List (List Int))) (([] : List Int))
def spec_l2Part.T5 : Bool × List (List Nat × List Nat) := (true, [([], []), ([0], [0]), ([], []), ([2], [2]), ([], []), ([], []), ([4, 5], [4, 5]), ([6], [6]), ([3, 7], [3, 7]), ([8], [8]), ([9], [9]), ([10], [10]), ([1, 11, 10], [1, 11]), ([0, 1, 2, 3, 4, 5, 6, 7, 8, 9, 10, 11, 12], []), ([13, 12, 12, 0, 1, 2, 3, 4, 5, 6, 7, 8, 9, 10, 11, 12], [12, 13])])
def spec_l2Part.B5 : List Nat := [0, 1, 0, 4, 0, 0, 48, 112, 252, 508, 1020, 2044, 4095, 8191, 16383]
theorem spec_l2Part.tab5 : rtab .any (opsOf Try.f72 5) = spec_l2Part.T5 := by kernel_rfl
theorem spec_l2Part.bits5 : waitsOk spec_l2Part.T5.2 spec_l2Part.B5 = true := by kernel_rfl
def spec_l2Part.T6 : Bool × List (List Nat × List Nat) := (true, [([], []), ([0], [0]), ([], []), ([2], [2]), ([], []), ([], []), ([4, 5], [4, 5]), ([6], [6]), ([3, 7], [3, 7]), ([8], [8]), ([9], [9]), ([1, 10], [1, 10]), ([0, 1, 2, 3, 4, 5, 6, 7, 8, 9, 10, 11], []), ([12, 11, 11, 0, 1, 2, 3, 4, 5, 6, 7, 8, 9, 10, 11], [11, 12])])
def spec_l2Part.B6 : List Nat := [0, 1, 0, 4, 0, 0, 48, 112, 252, 508, 1020, 2047, 4095, 8191]
theorem spec_l2Part.tab6 : rtab .any (opsOf Try.f72 6) = spec_l2Part.T6 := by kernel_rfl
theorem spec_l2Part.bits6 : waitsOk spec_l2Part.T6.2 spec_l2Part.B6 = true := by kernel_rfl
theorem spec_l2Part.calls (k : Nat) (A0_0 : Option Addr) (c0_0 : Nat) (l0_0 : List (List Int)) (A0_1 : Option Addr) (c0_1 : Nat) (l0_1 : List Int) (A1 : Option Addr) (c1 : Nat) (l1 : List Int) (r1 : List (List Int)) (r2 : List Int) (w : World) (hr0_0 : Kd.C (Kd.slice 3 (Kd.int .i64)) w A0_0 l0_0.length l0_0) (hc0_0 : l0_0.length ≤ c0_0) (hr0_1 : Kd.C (Kd.int .i64) w A0_1 l0_1.length l0_1) (hc0_1 : l0_1.length ≤ c0_1) (hr1 : Kd.C (Kd.int .i64) w A1 l1.length l1) (hc1 : l1.length ≤ c1) (h : spec_l2Part.f k l0_0 l0_1 l1 = some (r1, r2)) :
  Calls Try.prog 72 #[.agg #[.slice A0_0 l0_0.length c0_0, .slice A0_1 l0_1.length c0_1], .slice A1 l1.length c1] w fun e w' => ∃ v0_ v1_ : Value, e = .returned (.agg #[v0_, v1_]) ∧ Kd.S (Kd.slice 3 (Kd.int .i64)) 22 w' w.heap.size (fun k_ => some k_ ≠ (v1_ : Value).ownBlock) v0_ r1 ∧ Kd.R (Kd.int .i64) 3 w' w.heap.size (fun _ => True) v1_ r2 ∧ Below w.heap.size w w' := by
 have hu43 := Try.underlying43
 have HR0_0 := aM hr0_0
 have HC0_0 := aM hc0_0
 clear hr0_0 hc0_0
 have HR0_1 := aM hr0_1
 have HC0_1 := aM hc0_1
 clear hr0_1 hc0_1
 have HR1 := aM hr1
 have HC1 := aM hc1
 clear hr1 hc1
 have HB := aM (Below.refl w.heap.size w)
 have H : (spec_l2Part.l0 k l1 0 l0_0 l0_1 (([] : List (List Int))) (([] : List Int))) = some (r1, r2) := h
 clear h
 obtain ⟨y154, hy154⟩ := yE (([] : List (List Int)) : List (List Int))
 replace H : (spec_l2Part.l0 k l1 0 l0_0 l0_1 y154 (([] : List Int))) = some (r1, r2) := yI hy154 H
 have Ny154 := aM hy154
 clear hy154
 obtain ⟨y157, hy157⟩ := yE (([] : List Int) : List Int)
 replace H : (spec_l2Part.l0 k l1 0 l0_0 l0_1 y154 y157) = some (r1, r2) := yI hy157 H
 have Ny157 := aM hy157
 clear hy157
 have H' := aM H
 clear H
 go_enter Try.func72, Try.ntmps72
 go_wp2_with (first | (refine yB 2 #[.slice A0_0 l0_0.length c0_0, .slice A0_1 l0_1.length c0_1] 43 ?_; intro gb152 hg w3 hbox hb; have BK152 := aM (hbox); have GW152 := yV0 hg HB; have GE152 := yV0 hg HB; replace HB := yS0 HB hb; clear hb hbox hg) | (refine yB 4 #[.slice none 0 0, .slice none 0 0] 43 ?_; intro gb153 hg w4 hbox hb; have BK153 := aM (hbox); have GW153 := yV1 hg HB GE152; have GE153 := yV1 hg HB GE152; replace HB := yS1 HB GE152 hb; have NB152_153 := yX hg BK152; have NB153_152 := yY NB152_153; replace BK152 := yK BK152 hb; clear hb hbox hg) | ((with_reducible refine gate_dst (N := 7) rfl ?_); refine Kd.S_lit (Kd.slice 3 (Kd.int .i64)) _ 22 ?hg (N := 7) ?hd (xs := ([] : List (List Int))) (inner := []) (ok := fun _ => True) (okp := fun _ => True) ?hr ?hp (fun _ hk => hk) trivial (Below.refl _ _) (Nat.le_refl _) (by simp) ?_; (case hd => rfl); (case hg => rfl); (case hr => first | (go_simp; done) | (go_simp; rfl)); (case hp => exact (Reps.none _ _)); intro v155 w5 ho6 hb hg_ hnew_; clear hg_ hnew_; (first | rw [← Ny154.out] at ho6 | (simp only [Int.reduceToNat] at ho6; rw [← Ny154.out] at ho6)); have HO156 := aM (Kd.S_lower ho6 (below_size (xG2 HB.out GE152.out GE153.out))); replace BK152 := yK BK152 hb; replace BK153 := yK BK153 hb; replace HB := yS2 HB GE152 GE153 hb; clear hb ho6) | ((with_reducible refine gate_dst (N := 8) rfl ?_); refine Kd.R_lit (Kd.int .i64) _ 3 ?hg (N := 8) ?hd (xs := ([] : List Int)) (inner := []) (ok := fun _ => True) (okp := fun _ => True) ?hr ?hp (fun _ hk => hk) trivial (Below.refl _ _) (Nat.le_refl _) (by simp) ?_; (case hd => rfl); (case hg => rfl); (case hr => first | (go_simp; done) | (go_simp; rfl)); (case hp => exact (Reps.none _ _)); intro v158 w7 ho8 hb hg_ hnew_; clear hg_ hnew_; (first | rw [← Ny157.out] at ho8 | (simp only [Int.reduceToNat] at ho8; rw [← Ny157.out] at ho8)); replace HO156 := aM (Kd.S_elder' (xS HO156.out) (Kd.R_base ho8) hb); have HO159 := aM (Kd.R_lower ho8 (below_size (xG2 HB.out GE152.out GE153.out))); replace BK152 := yK BK152 hb; replace BK153 := yK BK153 hb; replace HB := yS2 HB GE152 GE153 hb; clear hb ho8; obtain ⟨Ao9, co9, eo9⟩ := Kd.R_slice HO159.out; subst eo9; obtain ⟨Ao10, co10, eo10⟩ := Kd.S_slice HO156.out; subst eo10) | (refine yB 5 #[.slice none 0 0, .slice none 0 0] 43 ?_; intro gb160 hg w11 hbox hb; replace HO156 := aM (Kd.S_below (xS HO156.out) hb); replace HO159 := aM (Kd.R_below (xR HO159.out) hb); have BK160 := aM (hbox); have GW160 := yV2 hg HB GE152 GE153; have GE160 := yV2 hg HB GE152 GE153; replace HB := yS2 HB GE152 GE153 hb; have NB152_160 := yX hg BK152; have NB160_152 := yY NB152_160; replace BK152 := yK BK152 hb; have NB153_160 := yX hg BK153; have NB160_153 := yY NB153_160; replace BK153 := yK BK153 hb; clear hb hbox hg; have hnb12 := NB160_152.out; have hnc12 := NB152_160.out; have hnb13 := NB160_153.out; have hnc13 := NB153_160.out; obtain ⟨hcz14_0, hcz14_1, hfz14_0, hfz14_1⟩ := yD2 BK160))
 go_loopg [6] k (fun kq v6 w' => ∃ (x6_1 : Int) (x161000_1 : List (List Int)) (x161001_1 : List Int) (u161000 : Value) (u161001 : Value), v6 = .int .i64 x6_1 ∧ Aside0 (spec_l2Part.l0 kq l1 x6_1 l0_0 l0_1 x161000_1 x161001_1 = some (r1, r2)) ∧ Aside0 (kq ≤ k) ∧ Aside0 (Kd.S (Kd.slice 3 (Kd.int .i64)) 22 w' w.heap.size (fun k_ => some k_ ≠ (u161001 : Value).ownBlock) u161000 x161000_1) ∧ Aside0 (Kd.R (Kd.int .i64) 3 w' w.heap.size (fun _ => True) u161001 x161001_1) ∧ Aside0 (w'.heap[gb152]? = some (.cells #[(.slice A0_0 l0_0.length c0_0), (.slice A0_1 l0_1.length c0_1)] 43 (0, 0))) ∧ Aside0 (w'.heap[gb153]? = some (.cells #[(.slice none 0 0), (.slice none 0 0)] 43 (0, 0))) ∧ Aside0 (w'.heap[gb160]? = some (.cells #[u161000, u161001] 43 (0, 0))) ∧ Aside0 (Below w.heap.size w w'))
 case atStart => exact ⟨(0), (y154), (y157), (.slice Ao10 y154.length co10), (.slice Ao9 y157.length co9), yZ, H', ⟨Nat.le_refl _⟩, ⟨zS (Kd.S_mono (Kd.S_far (p := ⟨gb160, 1, none⟩) (Kd.S_far (p := ⟨gb160, 0, none⟩) (Kd.S_types HO156.out BK160.out (by decide)) (fun _ hk => hk.2) (.slice Ao10 y154.length co10)) (fun _ hk => hk.2) (.slice Ao9 y157.length co9)) (fun _ hk => hk.1.2))⟩, ⟨zR (rM (Kd.R_far (p := ⟨gb160, 1, none⟩) (Kd.R_far (p := ⟨gb160, 0, none⟩) (Kd.R_types HO159.out BK160.out (by decide)) (fun _ hk => hk.2) (.slice Ao10 y154.length co10)) (fun _ hk => hk.2) (.slice Ao9 y157.length co9)) (fun _ hk => trivial))⟩, ⟨by (with_reducible repeat (first | refine bN ?_ _ | refine bD ?_ | refine bA ?_ _)); refine blk_far ?_ NB152_160.out _; (with_reducible repeat (first | refine bN ?_ _ | refine bD ?_ | refine bA ?_ _)); refine blk_far ?_ NB152_160.out _; (with_reducible repeat (first | refine bN ?_ _ | refine bD ?_ | refine bA ?_ _)); exact BK152.out⟩, ⟨by (with_reducible repeat (first | refine bN ?_ _ | refine bD ?_ | refine bA ?_ _)); refine blk_far ?_ NB153_160.out _; (with_reducible repeat (first | refine bN ?_ _ | refine bD ?_ | refine bA ?_ _)); refine blk_far ?_ NB153_160.out _; (with_reducible repeat (first | refine bN ?_ _ | refine bD ?_ | refine bA ?_ _)); exact BK153.out⟩, ⟨by (with_reducible repeat (first | refine bN ?_ _ | refine bD ?_ | refine bA ?_ _)); refine blk_put (cs := #[.slice Ao10 y154.length co10, .slice none 0 0]) ?_ 1 _ rfl; (with_reducible repeat (first | refine bN ?_ _ | refine bD ?_ | refine bA ?_ _)); refine blk_put (cs := #[.slice none 0 0, .slice none 0 0]) ?_ 0 _ rfl; (with_reducible repeat (first | refine bN ?_ _ | refine bD ?_ | refine bA ?_ _)); exact BK160.out⟩, ⟨xG3 HB.out GE152.out GE153.out GE160.out⟩⟩
 case round =>
  clear H'
  try clear c1; try clear hcz14_0; try clear hcz14_1; try clear hfz14_0; try clear hfz14_1
  obtain ⟨x6_1, x161000_1, x161001_1, u161000, u161001, rfl, HA, HK1, HO_161000, HO_161001, BK152, BK153, BK160, HB⟩ := hrel
  cases gk with
  | zero => exact absurd HA.out (by simp [spec_l2Part.l0])
  | succ k1 =>
   have H := HA.out
   clear HA
   simp only [spec_l2Part.l0] at H
   by_cases c15 : x6_1 < (l1.length : Int)
   rotate_left
   ·
    rw [if_neg c15] at H
    have c15b0 := decide_eq_false c15
    clear c15
    simp only [Option.some.injEq, Prod.mk.injEq] at H
    obtain ⟨rfl, rfl⟩ := H
    have hnb34 := NB160_152.out
    have hnc34 := NB152_160.out
    have hnb35 := NB160_153.out
    have hnc35 := NB153_160.out
    have hcz36_0 : wr.cell? ⟨gb160, 0, none⟩ = some (u161000) := (bC BK160.out 0).trans rfl
    have hcz36_1 : wr.cell? ⟨gb160, 1, none⟩ = some (u161001) := (bC BK160.out 1).trans rfl
    have hfz36_0 := bF BK160.out 0
    have hfz36_1 := bF BK160.out 1
    obtain ⟨Ao37, co37, eo37⟩ := Kd.S_slice HO_161000.out
    subst eo37
    have hnb38 := NB153_152.out
    have hnc38 := NB152_153.out
    have hcz39_0 : wr.cell? ⟨gb153, 0, none⟩ = some (.slice none 0 0) := (bC BK153.out 0).trans rfl
    have hcz39_1 : wr.cell? ⟨gb153, 1, none⟩ = some (.slice none 0 0) := (bC BK153.out 1).trans rfl
    have hfz39_0 := bF BK153.out 0
    have hfz39_1 := bF BK153.out 1
    obtain ⟨Ao40, co40, eo40⟩ := Kd.R_slice HO_161001.out
    subst eo40
    go_wp2
    refine bodyPost_ret (results_cell_row rfl _ _ gb153 43 #[.slice Ao37 x161000_1.length co37, .slice Ao40 x161001_1.length co40] (0, 0) _ rfl (by (with_reducible repeat (first | refine bN ?_ _ | refine bD ?_ | refine bA ?_ _)); refine blk_put (cs := #[.slice Ao37 x161000_1.length co37, .slice none 0 0]) ?_ 1 _ rfl; (with_reducible repeat (first | refine bN ?_ _ | refine bD ?_ | refine bA ?_ _)); refine blk_put (cs := #[.slice none 0 0, .slice none 0 0]) ?_ 0 _ rfl; (with_reducible repeat (first | refine bN ?_ _ | refine bD ?_ | refine bA ?_ _)); exact BK153.out) Try.underlying43 rfl (by kernel_rfl)) rfl ?_
    exact ⟨_, _, yF, zS (Kd.S_mono (Kd.S_far (p := ⟨gb153, 1, none⟩) (Kd.S_far (p := ⟨gb153, 0, none⟩) (Kd.S_types HO_161000.out BK153.out (by decide)) (fun _ hk => hk.2) (.slice Ao37 x161000_1.length co37)) (fun _ hk => hk.2) (.slice Ao40 x161001_1.length co40)) (fun _ hk => hk.1)), zR (rM (Kd.R_far (p := ⟨gb153, 1, none⟩) (Kd.R_far (p := ⟨gb153, 0, none⟩) (Kd.R_types HO_161001.out BK153.out (by decide)) (fun _ hk => hk.2) (.slice Ao37 x161000_1.length co37)) (fun _ hk => hk.2) (.slice Ao40 x161001_1.length co40)) (fun _ hk => trivial)), xG3 HB.out GE152.out GE153.out GE160.out⟩
   rw [if_pos c15] at H
   have c15b0 := decide_eq_true c15
   clear c15
   by_cases c16 : 0 ≤ x6_1
   rotate_left
   ·
    rw [if_neg c16] at H
    exact absurd H (by simp)
   rw [if_pos c16] at H
   have c16b0 := decide_eq_true c16
   clear c16
   by_cases c17 : 0 ≤ (rd l1 x6_1)
   rotate_left
   ·
    rw [if_neg c17] at H
    exact absurd H (by simp)
   rw [if_pos c17] at H
   have c17b0 := decide_eq_true c17
   clear c17
   by_cases c18 : (rd l1 x6_1) < (l0_0.length : Int)
   rotate_left
   ·
    rw [if_neg c18] at H
    exact absurd H (by simp)
   rw [if_pos c18] at H
   have c18b0 := decide_eq_true c18
   clear c18
   replace H := oB.mp H
   obtain ⟨t163, A190, H⟩ := H
   have A19 := aM A190
   clear A190
   by_cases c20 : x161000_1.length < 5864062014805
   rotate_left
   ·
    rw [if_neg c20] at H
    exact absurd H (by simp)
   rw [if_pos c20] at H
   have LMc20 := aM c20
   clear c20
   obtain ⟨y166, hy166⟩ := yE (x161000_1 ++ [t163] : List (List Int))
   replace H : (if (rd l1 x6_1) < (l0_1.length : Int) then (if x161001_1.length < 17592186044416 then (spec_l2Part.l0 k1 l1 (wrap64 (x6_1 + 1)) l0_0 l0_1 y166 (x161001_1 ++ [rd l0_1 (rd l1 x6_1)])) else (none)) else (none)) = some (r1, r2) := yI hy166 H
   have Ny166 := aM hy166
   clear hy166
   by_cases c21 : (rd l1 x6_1) < (l0_1.length : Int)
   rotate_left
   ·
    rw [if_neg c21] at H
    exact absurd H (by simp)
   rw [if_pos c21] at H
   have c21b0 := decide_eq_true c21
   clear c21
   by_cases c22 : x161001_1.length < 17592186044416
   rotate_left
   ·
    rw [if_neg c22] at H
    exact absurd H (by simp)
   rw [if_pos c22] at H
   have LMc22 := aM c22
   clear c22
   obtain ⟨y171, hy171⟩ := yE (x161001_1 ++ [rd l0_1 (rd l1 x6_1)] : List Int)
   replace H : (spec_l2Part.l0 k1 l1 (wrap64 (x6_1 + 1)) l0_0 l0_1 y166 y171) = some (r1, r2) := yI hy171 H
   have Ny171 := aM hy171
   clear hy171
   have H' := aM H
   clear H
   try go_wp2
   replace HO_161000 := aM (Kd.S_drew HO_161000.out)
   replace HO_161001 := aM (rD HO_161001.out)
   replace BK152 := aM (bD BK152.out)
   replace BK153 := aM (bD BK153.out)
   replace BK160 := aM (bD BK160.out)
   replace HB := aM (eD HB.out)
   have p161 : 0 ≤ (x6_1 : Int) := yA
   have q161 : x6_1 < (l1.length : Int) := yA
   obtain ⟨ad161, e161, hx161_0⟩ := Kd.at_int HR1.out x6_1 p161 q161
   have hw161_0 := hx161_0
   cases e161
   replace hx161_0 := (HB.out.cell (World.block_lt_of_cell? w _ hx161_0)).trans hx161_0
   replace p161 := eq_true p161
   replace q161 := eq_true q161
   have p162 : 0 ≤ ((rd l1 x6_1) : Int) := yA
   have q162 : (rd l1 x6_1) < (l0_0.length : Int) := yA
   obtain ⟨ad162, A162_0, c162_0, e162, hx162_0, hl162_0, hi162_0⟩ := at_L1 HR0_0.out (rd l1 x6_1) p162 q162
   have hw162_0 := hx162_0
   cases e162
   replace hx162_0 := (HB.out.cell (World.block_lt_of_cell? w _ hx162_0)).trans hx162_0
   have HR162_0 := aM hi162_0
   have HC162_0 := aM hl162_0
   clear hi162_0 hl162_0
   replace p162 := eq_true p162
   replace q162 := eq_true q162
   refine start_ (n := 15) (S := fun w' => w'.cell? ⟨gb160, 0, none⟩ = some (u161000) ∧ w'.cell? ⟨gb160, 1, none⟩ = some (u161001) ∧ w'.cell? ⟨gb152, 0, none⟩ = some (.slice (some ad162) l0_0.length c0_0) ∧ w'.cell? ⟨gb152, 1, none⟩ = some (.slice A0_1 l0_1.length c0_1) ∧ w'.cell? (ad161.add (x6_1).toNat) = some (.int .i64 (rd l1 x6_1)) ∧ w'.cell? (ad162.add ((rd l1 x6_1)).toNat) = some (.slice A162_0 (rd_L1 l0_0 (rd l1 x6_1)).length c162_0)) (ds := [14]) (bm 15 0) (by kernel_rfl) rfl rfl ⟨(bC BK160.out 0).trans rfl, (bC BK160.out 1).trans rfl, (bC BK152.out 0).trans rfl, (bC BK152.out 1).trans rfl, ((HB.out.cell (World.block_lt_of_cell? w _ hw161_0)).trans hw161_0), ((HB.out.cell (World.block_lt_of_cell? w _ hw162_0)).trans hw162_0)⟩ (fun hHeld => ?_); refine with_tabW spec_l2Part.tab5 spec_l2Part.bits5 (fun HT_ HW_ => ?_)
   generalize wr.drew = w23 at HO_161000 HO_161001 BK152 BK153 BK160 HB HR162_0 hx161_0 hx162_0 hHeld ⊢
   refine yP 0 16 (bm 15 1) HT_ ?_
   refine yP 2 18 (bm 15 5) HT_ ?_
   refine yP 4 20 (bm 15 21) HT_ ?_
   refine yP 5 21 (bm 15 53) HT_ ?_
   refine yP 6 22 (bm 15 117) HT_ ?_
   refine yT6 1 17 (bm 15 119) HT_ HW_ hHeld ?_
   refine yT6 3 19 (bm 15 127) HT_ HW_ hHeld ?_
   refine yT6 7 23 (bm 15 255) HT_ HW_ hHeld ?_
   refine yP 8 24 (bm 15 511) HT_ ?_
   refine yT6 9 25 (bm 15 1023) HT_ HW_ hHeld ?_
   refine yO 10 26 (bm 15 2047) HT_ (fun K hK => ?_)
   refine yG Try.func95 #[.slice A162_0 (rd_L1 l0_0 (rd l1 x6_1)).length c162_0] ?_
   with_reducible refine (spec_l1Own.calls _ _ (rd_L1 l0_0 (rd l1 x6_1)) t163 _ ?side1 ?side2 A19.out).mono ?_
   (case side1 => exact xC (Kd.C_below HR162_0.out HB.out))
   (case side2 => exact HC162_0.out)
   rintro e w24 ⟨v164, rfl, ho0, hb⟩
   refine ⟨_, rfl, ?_⟩
   replace HO_161000 := aM (Kd.S_elder' (xS HO_161000.out) (Kd.R_base ho0) hb)
   have HO165 := aM (Kd.R_lower (Kd.R_new' ho0 (Kd.R_lt (xR HO_161001.out))) (below_size (xG3 HB.out GE152.out GE153.out GE160.out)))
   replace HO_161001 := aM (Kd.R_elder' (xR HO_161001.out) (Kd.R_base ho0) hb)
   replace BK152 := yK BK152 hb
   replace BK153 := yK BK153 hb
   replace BK160 := yK BK160 hb
   replace HB := yS3 HB GE152 GE153 GE160 hb
   (try clear hb)
   (try clear hb2)
   (try clear hk)
   (try clear hi)
   (try clear ho0)
   obtain ⟨Ao26, co26, eo26⟩ := Kd.R_slice HO165.out
   (first | subst eo26 | (injection eo26 with f1_ f2_ f3_; have f4_ := f1_.symm; have f5_ := f3_.symm; clear f1_ f2_ f3_; subst f4_; subst f5_))
   refine hK.out _ _ ⟨(bC BK160.out 0).trans rfl, (bC BK160.out 1).trans rfl, (bC BK152.out 0).trans rfl, (bC BK152.out 1).trans rfl, ((HB.out.cell (World.block_lt_of_cell? w _ hw161_0)).trans hw161_0), ((HB.out.cell (World.block_lt_of_cell? w _ hw162_0)).trans hw162_0)⟩ (fun hHeld => ?_)
   clear hK K
   refine norm_ (a' := ?_) ?_ ?_
   rotate_left
   ·
    show Act.put _ (some 26) _ = _
    simp only [Act.put, sA, sZ, sU, i64_w, i32_w]
    rfl
   refine yO 11 27 (bm 15 4095) HT_ (fun K hK => ?_)
   refine value_ (w1 := ?_) (v := ?_) (by rfl) rfl ?_ ?_
   rotate_left 2
   ·
    go_simp
    constructor
    ·
     rfl
    ·
     rfl
   refine hK.out _ _ ⟨(bC (bA BK160.out _) 0).trans rfl, (bC (bA BK160.out _) 1).trans rfl, (bC (bA BK152.out _) 0).trans rfl, (bC (bA BK152.out _) 1).trans rfl, (World.cell?_alloc_lt _ _ _ (World.block_lt_of_cell? _ _ (((HB.out.cell (World.block_lt_of_cell? w _ hw161_0)).trans hw161_0)))).trans (((HB.out.cell (World.block_lt_of_cell? w _ hw161_0)).trans hw161_0)), (World.cell?_alloc_lt _ _ _ (World.block_lt_of_cell? _ _ (((HB.out.cell (World.block_lt_of_cell? w _ hw162_0)).trans hw162_0)))).trans (((HB.out.cell (World.block_lt_of_cell? w _ hw162_0)).trans hw162_0))⟩ (fun hHeld => ?_)
   clear hK K
   refine norm_ (a' := ?_) ?_ ?_
   rotate_left
   ·
    show Act.put _ (some 27) _ = _
    simp only [Act.put, sA, sZ, sU, i64_w, i32_w]
    rfl
   refine yO 12 28 (bm 15 8191) HT_ (fun K hK => ?_)
   refine Kd.S_append_step (Kd.slice 3 (Kd.int .i64)) (w0 := w) w.heap.size (by rfl) (.tmp 17) (.tmp 27) 32 22 (.slice none 0 0) 24 rfl Try.underlying32 info22 rfl (by decide) (by omega) u161000 x161000_1 t163 [.slice Ao26 t163.length co26] (fun k_ => some k_ ≠ (u161001 : Value).ownBlock) (fun k_ => some k_ = (.slice Ao26 t163.length co26 : Value).ownBlock) rfl rfl ?aP (fun k_ hk_ => ((rM (ok' := fun k_ => ((fun k_ => some k_ ≠ (u161001 : Value).ownBlock)) k_ ∧ some k_ ≠ (u161000 : Value).ownBlock) (Kd.R_apart' (HO165.out) (Kd.S_typed HO_161000.out) (by decide)) (fun k_ hk => ⟨hk.1.2, hk.2⟩))).1 k_ hk_.symm) ?aF ?aO ?aB ?aS ?aL ?_
   (case aP => exact Kd.M_row (rM (Kd.R_tight rfl (rM (ok' := fun k_ => ((fun k_ => some k_ ≠ (u161001 : Value).ownBlock)) k_ ∧ some k_ ≠ (u161000 : Value).ownBlock) (Kd.R_apart' (HO165.out) (Kd.S_typed HO_161000.out) (by decide)) (fun k_ hk => ⟨hk.1.2, hk.2⟩))) (fun _ h_ => h_)))
   (case aB => exact (xG3 HB.out GE152.out GE153.out GE160.out))
   (case aF => exact (fun k_ hk => Kd.fresh' (Kd.R_lt (xR HO_161001.out)) k_ hk))
   (case aO => exact (zS (Kd.S_mono HO_161000.out (fun k_ hk => ⟨hk.1, fun e_ => hk.2 e_⟩))))
   (case aS => exact (below_size (xG3 HB.out GE152.out GE153.out GE160.out)))
   (case aL => have := LMc20.out; omega)
   intro v167 w25 ho hb hg hat
   rw [← Ny166.out] at ho
   replace HO_161001 := aM (Kd.R_over' (xR HO_161001.out) (Kd.S_typed (xS HO_161000.out)) (by decide) hg)
   replace BK152 := yR BK152 hg (Kd.S_ne HO_161000.out BK152.out (by decide))
   replace BK153 := yR BK153 hg (Kd.S_ne HO_161000.out BK153.out (by decide))
   replace BK160 := yR BK160 hg (Kd.S_ne HO_161000.out BK160.out (by decide))
   replace HB := aM (hb)
   have HO168 := aM (ho)
   clear HO_161000 HO165 ho hb hg hat
   obtain ⟨Ao27, co27, eo27⟩ := Kd.S_slice HO168.out
   (first | subst eo27 | (injection eo27 with f1_ f2_ f3_; have f4_ := f1_.symm; have f5_ := f3_.symm; clear f1_ f2_ f3_; subst f4_; subst f5_))
   refine hK.out _ _ ⟨(bC BK160.out 0).trans rfl, (bC BK160.out 1).trans rfl, (bC BK152.out 0).trans rfl, (bC BK152.out 1).trans rfl, ((HB.out.cell (World.block_lt_of_cell? w _ hw161_0)).trans hw161_0), ((HB.out.cell (World.block_lt_of_cell? w _ hw162_0)).trans hw162_0)⟩ (fun hHeld => ?_)
   clear hK K
   refine norm_ (a' := ?_) ?_ ?_
   rotate_left
   ·
    show Act.put _ (some 28) _ = _
    simp only [Act.put, sA, sZ, sU, i64_w, i32_w]
    rfl
   refine yP 13 29 (bm 15 16383) HT_ ?_
   refine last_ (i := 14) (N := none) (bm 15 32767) rfl rfl (one_of HT_.out (by kernel_rfl)) (by decide) (fun K hK => ?_)
   have hs28 : w25.cell? ⟨gb160, 0, none⟩ = some (u161000) := (bC BK160.out 0).trans rfl
   have hfs28 := bF BK160.out 0
   have hns28_0 := NB152_160.out
   have hns28_1 := NB153_160.out
   have hms28_0 := NB160_152.out
   have hms28_1 := NB160_153.out
   refine skip_ (w1 := ?_) (by rfl) rfl ?_ ?_
   rotate_left
   ·
    go_simp
    rfl
   refine hK.out _ _ ?_
   clear hK K
   refine done_ (done_of HT_.out (by kernel_rfl)) ?_
   try go_wp2
   have n0_ : Aside0 (Kd.R (Kd.int .i64) 3 (w25.setCell ⟨gb160, 0, none⟩ (.slice Ao27 y166.length co27)) w.heap.size (fun _ => True) u161001 x161001_1) := ⟨zR (rM (Kd.R_far (p := ⟨gb160, 0, none⟩) (Kd.R_types HO_161001.out BK160.out (by decide)) (fun _ hk => hk.2) (.slice Ao27 y166.length co27)) (fun _ hk => trivial))⟩
   have n1_ : Aside0 (Kd.S (Kd.slice 3 (Kd.int .i64)) 22 (w25.setCell ⟨gb160, 0, none⟩ (.slice Ao27 y166.length co27)) w.heap.size (fun k_ => some k_ ≠ (u161001 : Value).ownBlock) (.slice Ao27 y166.length co27) y166) := ⟨zS (Kd.S_mono (Kd.S_far (p := ⟨gb160, 0, none⟩) (Kd.S_types HO168.out BK160.out (by decide)) (fun _ hk => hk.2) (.slice Ao27 y166.length co27)) (fun _ hk => hk.1))⟩
   have n2_ : Aside0 ((w25.setCell ⟨gb160, 0, none⟩ (.slice Ao27 y166.length co27)).heap[gb152]? = some (.cells #[.slice (some ad162) l0_0.length c0_0, .slice A0_1 l0_1.length c0_1] 43 (0, 0))) := ⟨by (with_reducible repeat (first | refine bN ?_ _ | refine bD ?_ | refine bA ?_ _)); refine blk_far ?_ NB152_160.out _; (with_reducible repeat (first | refine bN ?_ _ | refine bD ?_ | refine bA ?_ _)); exact BK152.out⟩
   have n3_ : Aside0 ((w25.setCell ⟨gb160, 0, none⟩ (.slice Ao27 y166.length co27)).heap[gb153]? = some (.cells #[.slice none 0 0, .slice none 0 0] 43 (0, 0))) := ⟨by (with_reducible repeat (first | refine bN ?_ _ | refine bD ?_ | refine bA ?_ _)); refine blk_far ?_ NB153_160.out _; (with_reducible repeat (first | refine bN ?_ _ | refine bD ?_ | refine bA ?_ _)); exact BK153.out⟩
   have n4_ : Aside0 ((w25.setCell ⟨gb160, 0, none⟩ (.slice Ao27 y166.length co27)).heap[gb160]? = some (.cells #[.slice Ao27 y166.length co27, u161001] 43 (0, 0))) := ⟨by (with_reducible repeat (first | refine bN ?_ _ | refine bD ?_ | refine bA ?_ _)); refine blk_put (cs := #[u161000, u161001]) ?_ 0 _ rfl; (with_reducible repeat (first | refine bN ?_ _ | refine bD ?_ | refine bA ?_ _)); exact BK160.out⟩
   have n5_ : Aside0 (Below w.heap.size w (w25.setCell ⟨gb160, 0, none⟩ (.slice Ao27 y166.length co27))) := ⟨xG3 HB.out GE152.out GE153.out GE160.out⟩
   (try clear HO_161001)
   (try clear HO168)
   (try clear BK152)
   (try clear BK153)
   (try clear BK160)
   (try clear HB)
   generalize (w25.setCell ⟨gb160, 0, none⟩ (.slice Ao27 y166.length co27)) = w29 at n0_ n1_ n2_ n3_ n4_ n5_ ⊢
   have HO_161001 := n0_
   have HO168 := n1_
   have BK152 := n2_
   have BK153 := n3_
   have BK160 := n4_
   have HB := n5_
   clear n0_ n1_ n2_ n3_ n4_ n5_
   replace HO_161001 := aM (rD HO_161001.out)
   replace HO168 := aM (Kd.S_drew HO168.out)
   replace BK152 := aM (bD BK152.out)
   replace BK153 := aM (bD BK153.out)
   replace BK160 := aM (bD BK160.out)
   replace HB := aM (eD HB.out)
   have p169 : 0 ≤ (x6_1 : Int) := yA
   have q169 : x6_1 < (l1.length : Int) := yA
   obtain ⟨ad169, e169, hx169_0⟩ := Kd.at_int HR1.out x6_1 p169 q169
   have hw169_0 := hx169_0
   obtain rfl : ad161 = ad169 := (by injection e169)
   replace hx169_0 := (HB.out.cell (World.block_lt_of_cell? w _ hx169_0)).trans hx169_0
   replace p169 := eq_true p169
   replace q169 := eq_true q169
   have p170 : 0 ≤ ((rd l1 x6_1) : Int) := yA
   have q170 : (rd l1 x6_1) < (l0_1.length : Int) := yA
   obtain ⟨ad170, e170, hx170_0⟩ := Kd.at_int HR0_1.out (rd l1 x6_1) p170 q170
   have hw170_0 := hx170_0
   cases e170
   replace hx170_0 := (HB.out.cell (World.block_lt_of_cell? w _ hx170_0)).trans hx170_0
   replace p170 := eq_true p170
   replace q170 := eq_true q170
   refine start_ (n := 14) (S := fun w' => w'.cell? ⟨gb160, 0, none⟩ = some (.slice Ao27 y166.length co27) ∧ w'.cell? ⟨gb160, 1, none⟩ = some (u161001) ∧ w'.cell? ⟨gb152, 0, none⟩ = some (.slice (some ad162) l0_0.length c0_0) ∧ w'.cell? ⟨gb152, 1, none⟩ = some (.slice (some ad170) l0_1.length c0_1) ∧ w'.cell? (ad161.add (x6_1).toNat) = some (.int .i64 (rd l1 x6_1)) ∧ w'.cell? (ad170.add ((rd l1 x6_1)).toNat) = some (.int .i64 (rd l0_1 (rd l1 x6_1)))) (ds := [13]) (bm 14 0) (by kernel_rfl) rfl rfl ⟨(bC BK160.out 0).trans rfl, (bC BK160.out 1).trans rfl, (bC BK152.out 0).trans rfl, (bC BK152.out 1).trans rfl, ((HB.out.cell (World.block_lt_of_cell? w _ hw169_0)).trans hw169_0), ((HB.out.cell (World.block_lt_of_cell? w _ hw170_0)).trans hw170_0)⟩ (fun hHeld => ?_); refine with_tabW spec_l2Part.tab6 spec_l2Part.bits6 (fun HT_ HW_ => ?_)
   generalize w29.drew = w30 at HO_161001 HO168 BK152 BK153 BK160 HB hx169_0 hx170_0 hHeld ⊢
   refine yP 0 30 (bm 14 1) HT_ ?_
   refine yP 2 32 (bm 14 5) HT_ ?_
   refine yP 4 34 (bm 14 21) HT_ ?_
   refine yP 5 35 (bm 14 53) HT_ ?_
   refine yP 6 36 (bm 14 117) HT_ ?_
   refine yT6 1 31 (bm 14 119) HT_ HW_ hHeld ?_
   refine yT6 3 33 (bm 14 127) HT_ HW_ hHeld ?_
   refine yT6 7 37 (bm 14 255) HT_ HW_ hHeld ?_
   refine yP 8 38 (bm 14 511) HT_ ?_
   refine yT6 9 39 (bm 14 1023) HT_ HW_ hHeld ?_
   refine yO 10 40 (bm 14 2047) HT_ (fun K hK => ?_)
   refine value_ (w1 := ?_) (v := ?_) (by rfl) rfl ?_ ?_
   rotate_left 2
   ·
    go_simp
    constructor
    ·
     rfl
    ·
     rfl
   refine hK.out _ _ ⟨(bC (bA BK160.out _) 0).trans rfl, (bC (bA BK160.out _) 1).trans rfl, (bC (bA BK152.out _) 0).trans rfl, (bC (bA BK152.out _) 1).trans rfl, (World.cell?_alloc_lt _ _ _ (World.block_lt_of_cell? _ _ (((HB.out.cell (World.block_lt_of_cell? w _ hw169_0)).trans hw169_0)))).trans (((HB.out.cell (World.block_lt_of_cell? w _ hw169_0)).trans hw169_0)), (World.cell?_alloc_lt _ _ _ (World.block_lt_of_cell? _ _ (((HB.out.cell (World.block_lt_of_cell? w _ hw170_0)).trans hw170_0)))).trans (((HB.out.cell (World.block_lt_of_cell? w _ hw170_0)).trans hw170_0))⟩ (fun hHeld => ?_)
   clear hK K
   refine norm_ (a' := ?_) ?_ ?_
   rotate_left
   ·
    show Act.put _ (some 40) _ = _
    simp only [Act.put, sA, sZ, sU, i64_w, i32_w]
    rfl
   refine yO 11 41 (bm 14 4095) HT_ (fun K hK => ?_)
   refine Kd.R_append_step (Kd.int .i64) (w0 := w) w.heap.size (by rfl) (.tmp 31) (.tmp 40) 22 3 (.int .i64 0) 8 rfl Try.underlying22 info3 rfl (by decide) (by omega) u161001 x161001_1 (rd l0_1 (rd l1 x6_1)) [.int .i64 (rd l0_1 (rd l1 x6_1))] (fun _ => True) (fun _ => False) rfl rfl ?aP (fun _ hk => hk.elim) ?aF ?aO ?aB ?aS ?aL ?_
   (case aP => exact rfl)
   (case aB => exact (xG3 HB.out GE152.out GE153.out GE160.out))
   (case aF => exact (fun _ _ => trivial))
   (case aO => exact (xR HO_161001.out))
   (case aS => exact (below_size (xG3 HB.out GE152.out GE153.out GE160.out)))
   (case aL => have := LMc22.out; omega)
   intro v172 w31 ho hb hg hat
   rw [← Ny171.out] at ho
   replace BK152 := yR BK152 hg (Kd.R_ne HO_161001.out BK152.out (by decide))
   replace BK153 := yR BK153 hg (Kd.R_ne HO_161001.out BK153.out (by decide))
   replace BK160 := yR BK160 hg (Kd.R_ne HO_161001.out BK160.out (by decide))
   replace HO168 := aM (Kd.S_after (ok := (fun _ => True)) (zS (Kd.S_mono HO168.out (fun _ hk => ⟨trivial, hk⟩))) hg hat)
   replace HB := aM (hb)
   have HO173 := aM (ho)
   clear HO_161001 ho hb hg hat
   obtain ⟨Ao32, co32, eo32⟩ := Kd.R_slice HO173.out
   (first | subst eo32 | (injection eo32 with f1_ f2_ f3_; have f4_ := f1_.symm; have f5_ := f3_.symm; clear f1_ f2_ f3_; subst f4_; subst f5_))
   refine hK.out _ _ ⟨(bC BK160.out 0).trans rfl, (bC BK160.out 1).trans rfl, (bC BK152.out 0).trans rfl, (bC BK152.out 1).trans rfl, ((HB.out.cell (World.block_lt_of_cell? w _ hw169_0)).trans hw169_0), ((HB.out.cell (World.block_lt_of_cell? w _ hw170_0)).trans hw170_0)⟩ (fun hHeld => ?_)
   clear hK K
   refine norm_ (a' := ?_) ?_ ?_
   rotate_left
   ·
    show Act.put _ (some 41) _ = _
    simp only [Act.put, sA, sZ, sU, i64_w, i32_w]
    rfl
   refine yP 12 42 (bm 14 8191) HT_ ?_
   refine last_ (i := 13) (N := none) (bm 14 16383) rfl rfl (one_of HT_.out (by kernel_rfl)) (by decide) (fun K hK => ?_)
   have hs33 : w31.cell? ⟨gb160, 1, none⟩ = some (u161001) := (bC BK160.out 1).trans rfl
   have hfs33 := bF BK160.out 1
   have hns33_0 := NB152_160.out
   have hns33_1 := NB153_160.out
   have hms33_0 := NB160_152.out
   have hms33_1 := NB160_153.out
   refine skip_ (w1 := ?_) (by rfl) rfl ?_ ?_
   rotate_left
   ·
    go_simp
    rfl
   refine hK.out _ _ ?_
   clear hK K
   refine done_ (done_of HT_.out (by kernel_rfl)) ?_
   try go_wp2
   go_roundg k1
   case measure => have := HK1.out; omega
   case rel => exact ⟨(wrap64 (x6_1 + 1)), (y166), (y171), (.slice Ao27 y166.length co27), (.slice Ao32 y171.length co32), yZ, H', ⟨by have := HK1.out; omega⟩, ⟨zS (Kd.S_mono (Kd.S_far (p := ⟨gb160, 1, none⟩) (Kd.S_types HO168.out BK160.out (by decide)) (fun _ hk => hk.2) (.slice Ao32 y171.length co32)) (fun _ hk => hk.1.2))⟩, ⟨zR (rM (Kd.R_far (p := ⟨gb160, 1, none⟩) (Kd.R_types HO173.out BK160.out (by decide)) (fun _ hk => hk.2) (.slice Ao32 y171.length co32)) (fun _ hk => trivial))⟩, ⟨by (with_reducible repeat (first | refine bN ?_ _ | refine bD ?_ | refine bA ?_ _)); refine blk_far ?_ NB152_160.out _; (with_reducible repeat (first | refine bN ?_ _ | refine bD ?_ | refine bA ?_ _)); exact BK152.out⟩, ⟨by (with_reducible repeat (first | refine bN ?_ _ | refine bD ?_ | refine bA ?_ _)); refine blk_far ?_ NB153_160.out _; (with_reducible repeat (first | refine bN ?_ _ | refine bD ?_ | refine bA ?_ _)); exact BK153.out⟩, ⟨by (with_reducible repeat (first | refine bN ?_ _ | refine bD ?_ | refine bA ?_ _)); refine blk_put (cs := #[.slice Ao27 y166.length co27, u161001]) ?_ 1 _ rfl; (with_reducible repeat (first | refine bN ?_ _ | refine bD ?_ | refine bA ?_ _)); exact BK160.out⟩, ⟨xG3 HB.out GE152.out GE153.out GE160.out⟩⟩
def spec_l1Has.l0 : Nat → List Int → Int → Int → Option (Bool)
 | 0, _, _, _ => none
 | k + 1, x0, x1, x5 => if x5 < (x0.length : Int) then (if 0 ≤ x5 then (if (rd x0 x5) = x1 then (some true) else (spec_l1Has.l0 k x0 x1 (wrap64 (x5 + 1)))) else (none)) else (some false)
def spec_l1Has.f (k : Nat) (l0 : List Int) (a1 : Int) : Option (Bool) := spec_l1Has.l0 k l0 a1 0
theorem spec_l1Has.calls (k : Nat) (A0 : Option Addr) (c0 : Nat) (l0 : List Int) (a1 : Int) (r : Bool) (w : World) (hr0 : Kd.C (Kd.int .i64) w A0 l0.length l0) (hc0 : l0.length ≤ c0) (h : spec_l1Has.f k l0 a1 = some r) :
  Calls Try.prog 32 #[.slice A0 l0.length c0, .int .i64 a1] w fun e w' => e = .returned (.bool r) ∧ Drawn0 w w' := by
 have HR0 := aM hr0
 have HC0 := aM hc0
 clear hr0 hc0
 have H : (spec_l1Has.l0 k l0 a1 0) = some r := h
 clear h
 have H' := aM H
 clear H
 go_enter Try.func32, Try.ntmps32
 go_wp2
 go_loopg [5] k (fun kq v5 w' => ∃ (x5_1 : Int), v5 = .int .i64 x5_1 ∧ Aside0 (spec_l1Has.l0 kq l0 a1 x5_1 = some r) ∧ Aside0 (kq ≤ k) ∧ Drawn0 w w')
 case atStart => exact ⟨(0), yZ, H', ⟨Nat.le_refl _⟩, by repeat (first | exact Drawn0.refl _ | apply Drawn0.step)⟩
 case round =>
  clear H'
  obtain ⟨x5_1, rfl, HA, HK1, ⟨m1, rfl⟩⟩ := hrel
  cases gk with
  | zero => exact absurd HA.out (by simp [spec_l1Has.l0])
  | succ k1 =>
   have H := HA.out
   clear HA
   simp only [spec_l1Has.l0] at H
   by_cases c3 : x5_1 < (l0.length : Int)
   rotate_left
   ·
    rw [if_neg c3] at H
    have c3b0 := decide_eq_false c3
    clear c3
    obtain rfl := Option.some.inj H
    go_wp2
    go_ret
    exact ⟨by first | rfl | (simp; done) | (simp [*]; done), by repeat (first | exact Drawn0.refl _ | apply Drawn0.step)⟩
   rw [if_pos c3] at H
   have c3b0 := decide_eq_true c3
   clear c3
   by_cases c4 : 0 ≤ x5_1
   rotate_left
   ·
    rw [if_neg c4] at H
    exact absurd H (by simp)
   rw [if_pos c4] at H
   have c4b0 := decide_eq_true c4
   clear c4
   by_cases c5 : (rd l0 x5_1) = a1
   ·
    rw [if_pos c5] at H
    have c5b0 : ((rd l0 x5_1) == a1) = true := beq_iff_eq.mpr c5
    have c5b1 : ((rd l0 x5_1) != a1) = false := bne_eq_false_iff_eq.mpr c5
    clear c5
    obtain rfl := Option.some.inj H
    have p174 : 0 ≤ (x5_1 : Int) := yA
    have q174 : x5_1 < (l0.length : Int) := yA
    obtain ⟨ad174, e174, hx174_0⟩ := Kd.at_int HR0.out x5_1 p174 q174
    cases e174
    replace p174 := eq_true p174
    replace q174 := eq_true q174
    go_wp2
    go_ret
    exact ⟨by first | rfl | (simp; done) | (simp [*]; done), by repeat (first | exact Drawn0.refl _ | apply Drawn0.step)⟩
   rw [if_neg c5] at H
   have c5b0 : ((rd l0 x5_1) == a1) = false := beq_eq_false_iff_ne.mpr c5
   have c5b1 : ((rd l0 x5_1) != a1) = true := bne_iff_ne.mpr c5
   have H' := aM H
   clear H
   have p174 : 0 ≤ (x5_1 : Int) := yA
   have q174 : x5_1 < (l0.length : Int) := yA
   obtain ⟨ad174, e174, hx174_0⟩ := Kd.at_int HR0.out x5_1 p174 q174
   cases e174
   replace p174 := eq_true p174
   replace q174 := eq_true q174
   go_wp2
   go_roundg k1
   case measure => have := HK1.out; omega
   case rel => exact ⟨(wrap64 (x5_1 + 1)), yZ, H', ⟨by have := HK1.out; omega⟩, by repeat (first | exact Drawn0.refl _ | apply Drawn0.step)⟩
def spec_l1Most.f (a0 : Int) (a1 : Int) : Option (Int) := if a0 > a1 then (some a0) else (some a1)
theorem spec_l1Most.calls (a0 : Int) (a1 : Int) (r : Int) (w : World) (h : spec_l1Most.f a0 a1 = some r) :
  Calls Try.prog 97 #[.int .i64 a0, .int .i64 a1] w fun e w' => e = .returned (.int .i64 r) ∧ Drawn0 w w' := by
 have H : (if a0 > a1 then (some a0) else (some a1)) = some r := h
 clear h
 by_cases c3 : a0 > a1
 ·
  rw [if_pos c3] at H
  have c3b0 : decide (a1 < a0) = true := decide_eq_true c3
  clear c3
  obtain rfl := Option.some.inj H
  go_enter Try.func97, Try.ntmps97
  go_wp2
  go_ret
  exact ⟨by first | rfl | (simp; done) | (simp [*]; done), by repeat (first | exact Drawn0.refl _ | apply Drawn0.step)⟩
 rw [if_neg c3] at H
 have c3b0 : decide (a1 < a0) = false := decide_eq_false c3
 clear c3
 obtain rfl := Option.some.inj H
 go_enter Try.func97, Try.ntmps97
 go_wp2
 go_ret
 exact ⟨by first | rfl | (simp; done) | (simp [*]; done), by repeat (first | exact Drawn0.refl _ | apply Drawn0.step)⟩
def spec_l2Gcd.l0 : Nat → Int → Int → Option (Int)
 | 0, _, _ => none
 | k + 1, x0, x1 => if x1 > 0 then (if x1 = 0 then (none) else (spec_l2Gcd.l0 k x1 (Int.tmod x0 x1))) else (some x0)
def spec_l2Gcd.f (k : Nat) (a0 : Int) (a1 : Int) : Option (Int) := spec_l2Gcd.l0 k a0 a1
theorem spec_l2Gcd.calls (k : Nat) (a0 : Int) (a1 : Int) (r : Int) (w : World) (h : spec_l2Gcd.f k a0 a1 = some r) :
  Calls Try.prog 98 #[.int .i64 a0, .int .i64 a1] w fun e w' => e = .returned (.int .i64 r) ∧ Drawn0 w w' := by
 have H : (spec_l2Gcd.l0 k a0 a1) = some r := h
 clear h
 have H' := aM H
 clear H
 go_enter Try.func98, Try.ntmps98
 go_wp2
 repeat (go_quiet (fail); try go_wp2)
 go_loopg [0, 1] k (fun kq v0 v1 w' => ∃ (x0_1 : Int) (x1_1 : Int), v0 = .int .i64 x0_1 ∧ v1 = .int .i64 x1_1 ∧ Aside0 (spec_l2Gcd.l0 kq x0_1 x1_1 = some r) ∧ Aside0 (kq ≤ k) ∧ Drawn0 w w')
 case atStart => exact ⟨(a0), (a1), yZ, yZ, H', ⟨Nat.le_refl _⟩, by repeat (first | exact Drawn0.refl _ | apply Drawn0.step)⟩
 case round =>
  clear H'
  obtain ⟨x0_1, x1_1, rfl, rfl, HA, HK1, ⟨m1, rfl⟩⟩ := hrel
  cases gk with
  | zero => exact absurd HA.out (by simp [spec_l2Gcd.l0])
  | succ k1 =>
   have H := HA.out
   clear HA
   simp only [spec_l2Gcd.l0] at H
   by_cases c3 : x1_1 > 0
   rotate_left
   ·
    rw [if_neg c3] at H
    have c3b0 : decide (0 < x1_1) = false := decide_eq_false c3
    clear c3
    obtain rfl := Option.some.inj H
    go_wp2
    repeat (go_quiet (fail); try go_wp2)
    go_ret
    exact ⟨by first | rfl | (simp; done) | (simp [*]; done), by repeat (first | exact Drawn0.refl _ | apply Drawn0.step)⟩
   rw [if_pos c3] at H
   have c3b0 : decide (0 < x1_1) = true := decide_eq_true c3
   clear c3
   by_cases c4 : x1_1 = 0
   ·
    rw [if_pos c4] at H
    exact absurd H (by simp)
   rw [if_neg c4] at H
   have c4b0 : (x1_1 == 0) = false := beq_eq_false_iff_ne.mpr c4
   have c4b1 : (x1_1 != 0) = true := bne_iff_ne.mpr c4
   have H' := aM H
   clear H
   go_wp2
   repeat (go_quiet (fail); try go_wp2)
   go_roundg k1
   case measure => have := HK1.out; omega
   case rel => exact ⟨(x1_1), (Int.tmod x0_1 x1_1), yZ, yZ, H', ⟨by have := HK1.out; omega⟩, by repeat (first | exact Drawn0.refl _ | apply Drawn0.step)⟩
end Go.Proofs.Ytgidnmpppbkamaa.PFnExactPlaneClass
