-- Laid for this claim by a program of the session's own (wip/tool/myprint.py).
import Derived.Test.YtgidnmpppbkamaaMFnExactPlaneClassx0
namespace Go.Proofs.Ytgidnmpppbkamaa.PFnExactPlaneClass
open Go.RowKit Go.Proofs.YtgidnmpppbkamaaW.PrintWords Go.Proofs.YtgidnmpppbkamaaW.PrintLast Go.Proofs.YtgidnmpppbkamaaW.PrintMore
attribute [local go_sem] max2_int min2_int max_two min_two max_three min_three max_four min_four
set_option linter.unusedVariables false
set_option maxHeartbeats 8000000
set_option maxRecDepth 100000
set_option linter.unusedSimpArgs false
mutual
def spec_l4Signs.j0 : Nat → List Int → List Int → Int → Option (List Int × Bool)
 | 0, _, _, _ => none
 | k + 1, x0, x1, x6 => spec_l4Signs.l0 k x0 x1 x6 (([] : List Int)) 0
def spec_l4Signs.l0 : Nat → List Int → List Int → Int → List Int → Int → Option (List Int × Bool)
 | 0, _, _, _, _, _ => none
 | k + 1, x0, x1, x6, x7, x8 => if x8 < (x0.length : Int) then (if 0 ≤ x8 then (if x8 < (x1.length : Int) then (if (wrap64 ((wrap64 (x6 * (rd x0 x8))) * (rd x1 x8))) ≤ 0 then (some ((([] : List Int)), false)) else (if x7.length < 17592186044416 then (spec_l4Signs.l0 k x0 x1 x6 (x7 ++ [wrap64 ((wrap64 (x6 * (rd x0 x8))) * (rd x1 x8))]) (wrap64 (x8 + 1))) else (none))) else (none)) else (none)) else (some (x7, true))
end
def spec_l4Signs.f (k : Nat) (l0 : List Int) (l1 : List Int) : Option (List Int × Bool) := if 0 < (l0.length : Int) then (if 0 < (l1.length : Int) then (if (wrap64 ((rd l0 0) * (rd l1 0))) < 0 then (spec_l4Signs.j0 k l0 l1 (-1)) else (spec_l4Signs.j0 k l0 l1 1)) else (none)) else (none)
def spec_l4Signs.T2 : Bool × List (List Nat × List Nat) := (true, [([], []), ([0], [0]), ([1], [1]), ([], []), ([3], [3]), ([4], [4]), ([2, 5], [2, 5]), ([6], [6])])
def spec_l4Signs.B2 : List Nat := [0, 1, 3, 0, 8, 24, 63, 127]
theorem spec_l4Signs.tab2 : rtab .any (opsOf Try.f75 2) = spec_l4Signs.T2 := by kernel_rfl
theorem spec_l4Signs.bits2 : waitsOk spec_l4Signs.T2.2 spec_l4Signs.B2 = true := by kernel_rfl
def spec_l4Signs.T8 : Bool × List (List Nat × List Nat) := (true, [([], []), ([], []), ([], []), ([1, 2], [1, 2]), ([3], [3]), ([0, 4], [0, 4]), ([], []), ([], []), ([6, 7], [6, 7]), ([8], [8]), ([5, 9], [5, 9]), ([10], [10])])
def spec_l4Signs.B8 : List Nat := [0, 0, 0, 6, 14, 31, 0, 0, 192, 448, 1023, 2047]
theorem spec_l4Signs.tab8 : rtab .any (opsOf Try.f75 8) = spec_l4Signs.T8 := by kernel_rfl
theorem spec_l4Signs.bits8 : waitsOk spec_l4Signs.T8.2 spec_l4Signs.B8 = true := by kernel_rfl
def spec_l4Signs.T10 : Bool × List (List Nat × List Nat) := (true, [([], []), ([], []), ([], []), ([], []), ([2, 3], [2, 3]), ([4], [4]), ([1, 5], [1, 5]), ([], []), ([], []), ([7, 8], [7, 8]), ([9], [9]), ([6, 10], [6, 10]), ([11], [11]), ([0, 12], [0, 12]), ([13, 13, 0, 1, 2, 3, 4, 5, 6, 7, 8, 9, 10, 11, 12, 13], [0, 13])])
def spec_l4Signs.B10 : List Nat := [0, 0, 0, 0, 12, 28, 62, 0, 0, 384, 896, 2046, 4094, 8191, 16383]
theorem spec_l4Signs.tab10 : rtab .any (opsOf Try.f75 10) = spec_l4Signs.T10 := by kernel_rfl
theorem spec_l4Signs.bits10 : waitsOk spec_l4Signs.T10.2 spec_l4Signs.B10 = true := by kernel_rfl
theorem spec_l4Signs.calls (k : Nat) (A0 : Option Addr) (c0 : Nat) (l0 : List Int) (A1 : Option Addr) (c1 : Nat) (l1 : List Int) (r1 : List Int) (r2 : Bool) (w : World) (hr0 : Kd.C (Kd.int .i64) w A0 l0.length l0) (hc0 : l0.length ≤ c0) (hr1 : Kd.C (Kd.int .i64) w A1 l1.length l1) (hc1 : l1.length ≤ c1) (h : spec_l4Signs.f k l0 l1 = some (r1, r2)) :
  Calls Try.prog 75 #[.slice A0 l0.length c0, .slice A1 l1.length c1] w fun e w' => ∃ v0_ : Value, e = .returned (.tuple #[v0_, .bool r2]) ∧ Kd.R (Kd.int .i64) 3 w' w.heap.size (fun _ => True) v0_ r1 ∧ Below w.heap.size w w' := by
 have HR0 := aM hr0
 have HC0 := aM hc0
 clear hr0 hc0
 have HR1 := aM hr1
 have HC1 := aM hc1
 clear hr1 hc1
 have HB := aM (Below.refl w.heap.size w)
 have H : (if 0 < (l0.length : Int) then (if 0 < (l1.length : Int) then (if (wrap64 ((rd l0 0) * (rd l1 0))) < 0 then (spec_l4Signs.j0 k l0 l1 (-1)) else (spec_l4Signs.j0 k l0 l1 1)) else (none)) else (none)) = some (r1, r2) := h
 clear h
 by_cases c3 : 0 < (l0.length : Int)
 rotate_left
 ·
  rw [if_neg c3] at H
  exact absurd H (by simp)
 rw [if_pos c3] at H
 have c3b0 := decide_eq_true c3
 have c3b1 : decide (0 < l0.length) = true := decide_eq_true (by omega)
 clear c3
 by_cases c4 : 0 < (l1.length : Int)
 rotate_left
 ·
  rw [if_neg c4] at H
  exact absurd H (by simp)
 rw [if_pos c4] at H
 have c4b0 := decide_eq_true c4
 have c4b1 : decide (0 < l1.length) = true := decide_eq_true (by omega)
 clear c4
 have HC5 := aM H
 clear H
 go_enter Try.func75, Try.ntmps75
 try go_wp2
 replace HB := aM (eD HB.out)
 have p251 : 0 ≤ (0 : Int) := (by omega)
 have q251 : 0 < (l0.length : Int) := yA
 obtain ⟨ad251, e251, hx251_0⟩ := Kd.at_int HR0.out 0 p251 q251
 have hw251_0 := hx251_0
 (try rw [show ((0 : Int)).toNat = 0 from rfl] at hw251_0)
 (try rw [show 0 * 1 = 0 from rfl] at hw251_0)
 (try rw [Addr.add_zero'] at hw251_0)
 cases e251
 have qi251 : (0 < l0.length) = True := eq_true (by omega)
 (try rw [show ((0 : Int)).toNat = 0 from rfl] at hx251_0)
 (try rw [Addr.add_zero'] at hx251_0)
 replace hx251_0 := (HB.out.cell (World.block_lt_of_cell? w _ hx251_0)).trans hx251_0
 replace p251 := eq_true p251
 replace q251 := eq_true q251
 have p252 : 0 ≤ (0 : Int) := (by omega)
 have q252 : 0 < (l1.length : Int) := yA
 obtain ⟨ad252, e252, hx252_0⟩ := Kd.at_int HR1.out 0 p252 q252
 have hw252_0 := hx252_0
 (try rw [show ((0 : Int)).toNat = 0 from rfl] at hw252_0)
 (try rw [show 0 * 1 = 0 from rfl] at hw252_0)
 (try rw [Addr.add_zero'] at hw252_0)
 cases e252
 have qi252 : (0 < l1.length) = True := eq_true (by omega)
 (try rw [show ((0 : Int)).toNat = 0 from rfl] at hx252_0)
 (try rw [Addr.add_zero'] at hx252_0)
 replace hx252_0 := (HB.out.cell (World.block_lt_of_cell? w _ hx252_0)).trans hx252_0
 replace p252 := eq_true p252
 replace q252 := eq_true q252
 refine start_ (n := 8) (S := fun w' => w'.cell? ad251 = some (.int .i64 (rd l0 0)) ∧ w'.cell? ad252 = some (.int .i64 (rd l1 0))) (ds := []) (bm 8 0) (by kernel_rfl) rfl rfl ⟨(by first | exact (HB.out.cell (World.block_lt_of_cell? w _ hw251_0)).trans hw251_0 | exact hw251_0), (by first | exact (HB.out.cell (World.block_lt_of_cell? w _ hw252_0)).trans hw252_0 | exact hw252_0)⟩ (fun hHeld => ?_); refine with_tabW spec_l4Signs.tab2 spec_l4Signs.bits2 (fun HT_ HW_ => ?_)
 generalize w.drew = w6 at HB hx251_0 hx252_0 hHeld ⊢
 refine yP 0 9 (bm 8 1) HT_ ?_
 refine yP 1 10 (bm 8 3) HT_ ?_
 refine yP 3 12 (bm 8 11) HT_ ?_
 refine yP 4 13 (bm 8 27) HT_ ?_
 refine yT2 2 11 (bm 8 31) HT_ HW_ hHeld ?_
 refine yT2 5 14 (bm 8 63) HT_ HW_ hHeld ?_
 refine yP 6 15 (bm 8 127) HT_ ?_
 refine yP 7 16 (bm 8 255) HT_ ?_
 refine done_ (done_of HT_.out (by kernel_rfl)) ?_
 go_upto_if 16 with (fail)
 go_cut [6] (fun v6 wc => ∃ (kq : Nat) (x6_4 : Int), v6 = .int .i64 x6_4 ∧ Aside0 (spec_l4Signs.j0 kq l0 l1 x6_4 = some (r1, r2)) ∧ Aside0 (kq ≤ k) ∧ Aside0 (Below w.heap.size w wc))
 case first =>
  have H := HC5.out
  clear HC5
  by_cases c7 : (wrap64 ((rd l0 0) * (rd l1 0))) < 0
  rotate_left
  ·
   rw [if_neg c7] at H
   have c7b0 := decide_eq_false c7
   clear c7
   (first | rw [c7b0] | (simp only [i64_w, i32_w]; rw [c7b0]) | rw [c7b1] | skip)
   have H' := aM H
   clear H
   go_wp2
   go_meet
   case rel => exact ⟨_, (1), yZ, H', ⟨yM⟩, ⟨xH HB.out⟩⟩
  rw [if_pos c7] at H
  have c7b0 := decide_eq_true c7
  clear c7
  (first | rw [c7b0] | (simp only [i64_w, i32_w]; rw [c7b0]) | rw [c7b1] | skip)
  have H' := aM H
  clear H
  go_wp2
  go_meet
  case rel => exact ⟨_, ((-1)), yZ, H', ⟨yM⟩, ⟨xH HB.out⟩⟩
 case rest =>
  clear HC5
  try clear c1; try clear c3; try clear c3b0; try clear c3b1; try clear c4; try clear c4b0; try clear c4b1; try clear c7; try clear c7b0; try clear hx251_0; try clear hx252_0; try clear p251; try clear p252; try clear q251; try clear q252
  obtain ⟨kq, x6_4, rfl, HA, HJ4, HB⟩ := hcut
  cases kq with
  | zero => exact absurd HA.out (by simp [spec_l4Signs.j0])
  | succ kj4 =>
   have H := HA.out
   clear HA
   simp only [spec_l4Signs.j0] at H
   obtain ⟨y253, hy253⟩ := yE (([] : List Int) : List Int)
   replace H : (spec_l4Signs.l0 kj4 l0 l1 x6_4 y253 0) = some (r1, r2) := yI hy253 H
   have Ny253 := aM hy253
   clear hy253
   have H' := aM H
   clear H
   go_wp2_with (first | ((with_reducible refine gate_dst (N := 17) rfl ?_); refine Kd.R_lit (Kd.int .i64) _ 3 ?hg (N := 17) ?hd (xs := ([] : List Int)) (inner := []) (ok := fun _ => True) (okp := fun _ => True) ?hr ?hp (fun _ hk => hk) trivial (Below.refl _ _) (Nat.le_refl _) (by simp) ?_; (case hd => rfl); (case hg => rfl); (case hr => first | (go_simp; done) | (go_simp; rfl)); (case hp => exact (Reps.none _ _)); intro v254 w8 ho9 hb hg_ hnew_; clear hg_ hnew_; (first | rw [← Ny253.out] at ho9 | (simp only [Int.reduceToNat] at ho9; rw [← Ny253.out] at ho9)); have HO255 := aM (Kd.R_lower ho9 (below_size (xH HB.out))); replace HB := yS0 HB hb; clear hb ho9))
   go_loopg [7, 8] kj4 (fun kq v7 v8 w' => ∃ (x7_2 : List Int) (x8_2 : Int), v8 = .int .i64 x8_2 ∧ Aside0 (spec_l4Signs.l0 kq l0 l1 x6_4 x7_2 x8_2 = some (r1, r2)) ∧ Aside0 (kq ≤ kj4) ∧ Aside0 (Kd.R (Kd.int .i64) 3 w' w.heap.size (fun _ => True) v7 x7_2) ∧ Aside0 (Below w.heap.size w w'))
   case atStart => exact ⟨(y253), (0), yZ, H', ⟨Nat.le_refl _⟩, ⟨xR HO255.out⟩, ⟨xH HB.out⟩⟩
   case round =>
    clear H'
    obtain ⟨x7_2, x8_2, rfl, HA, HK2, HO_7, HB⟩ := hrel
    cases gk with
    | zero => exact absurd HA.out (by simp [spec_l4Signs.l0])
    | succ k2 =>
     have H := HA.out
     clear HA
     simp only [spec_l4Signs.l0] at H
     by_cases c10 : x8_2 < (l0.length : Int)
     rotate_left
     ·
      rw [if_neg c10] at H
      have c10b0 := decide_eq_false c10
      clear c10
      simp only [Option.some.injEq, Prod.mk.injEq] at H
      obtain ⟨rfl, rfl⟩ := H
      go_wp2
      go_ret2
      exact ⟨_, yF, xR HO_7.out, by repeat (first | (with_reducible first | exact HB.out | apply eA | apply eN | apply eD) | exact HB.out)⟩
     rw [if_pos c10] at H
     have c10b0 := decide_eq_true c10
     clear c10
     by_cases c11 : 0 ≤ x8_2
     rotate_left
     ·
      rw [if_neg c11] at H
      exact absurd H (by simp)
     rw [if_pos c11] at H
     have c11b0 := decide_eq_true c11
     clear c11
     by_cases c12 : x8_2 < (l1.length : Int)
     rotate_left
     ·
      rw [if_neg c12] at H
      exact absurd H (by simp)
     rw [if_pos c12] at H
     have c12b0 := decide_eq_true c12
     clear c12
     by_cases c13 : (wrap64 ((wrap64 (x6_4 * (rd l0 x8_2))) * (rd l1 x8_2))) ≤ 0
     ·
      rw [if_pos c13] at H
      have c13b0 := decide_eq_true c13
      clear c13
      obtain ⟨y258, hy258⟩ := yE (([] : List Int) : List Int)
      replace H : (some (y258, false)) = some (r1, r2) := yI hy258 H
      have Ny258 := aM hy258
      clear hy258
      simp only [Option.some.injEq, Prod.mk.injEq] at H
      obtain ⟨rfl, rfl⟩ := H
      try go_wp2
      replace HO_7 := aM (rD HO_7.out)
      replace HB := aM (eD HB.out)
      have p256 : 0 ≤ (x8_2 : Int) := yA
      have q256 : x8_2 < (l0.length : Int) := yA
      obtain ⟨ad256, e256, hx256_0⟩ := Kd.at_int HR0.out x8_2 p256 q256
      have hw256_0 := hx256_0
      obtain rfl : ad251 = ad256 := (by injection e256)
      replace hx256_0 := (HB.out.cell (World.block_lt_of_cell? w _ hx256_0)).trans hx256_0
      replace p256 := eq_true p256
      replace q256 := eq_true q256
      have p257 : 0 ≤ (x8_2 : Int) := yA
      have q257 : x8_2 < (l1.length : Int) := yA
      obtain ⟨ad257, e257, hx257_0⟩ := Kd.at_int HR1.out x8_2 p257 q257
      have hw257_0 := hx257_0
      obtain rfl : ad252 = ad257 := (by injection e257)
      replace hx257_0 := (HB.out.cell (World.block_lt_of_cell? w _ hx257_0)).trans hx257_0
      replace p257 := eq_true p257
      replace q257 := eq_true q257
      refine start_ (n := 12) (S := fun w' => w'.cell? (ad251.add (x8_2).toNat) = some (.int .i64 (rd l0 x8_2)) ∧ w'.cell? (ad252.add (x8_2).toNat) = some (.int .i64 (rd l1 x8_2))) (ds := []) (bm 12 0) (by kernel_rfl) rfl rfl ⟨(by first | exact (HB.out.cell (World.block_lt_of_cell? w _ hw256_0)).trans hw256_0 | exact hw256_0), (by first | exact (HB.out.cell (World.block_lt_of_cell? w _ hw257_0)).trans hw257_0 | exact hw257_0)⟩ (fun hHeld => ?_); refine with_tabW spec_l4Signs.tab8 spec_l4Signs.bits8 (fun HT_ HW_ => ?_)
      generalize wr.drew = w14 at HO_7 HB hx256_0 hx257_0 hHeld ⊢
      refine yP 0 24 (bm 12 1) HT_ ?_
      refine yP 1 25 (bm 12 3) HT_ ?_
      refine yP 2 26 (bm 12 7) HT_ ?_
      refine yP 3 27 (bm 12 15) HT_ ?_
      refine yP 6 30 (bm 12 79) HT_ ?_
      refine yP 7 31 (bm 12 207) HT_ ?_
      refine yP 8 32 (bm 12 463) HT_ ?_
      refine yT2 4 28 (bm 12 479) HT_ HW_ hHeld ?_
      refine yP 5 29 (bm 12 511) HT_ ?_
      refine yT2 9 33 (bm 12 1023) HT_ HW_ hHeld ?_
      refine yP 10 34 (bm 12 2047) HT_ ?_
      refine yP 11 35 (bm 12 4095) HT_ ?_
      refine done_ (done_of HT_.out (by kernel_rfl)) ?_
      try go_wp2_with (first | ((with_reducible refine gate_dst (N := 36) rfl ?_); refine Kd.R_lit (Kd.int .i64) _ 3 ?hg (N := 36) ?hd (xs := ([] : List Int)) (inner := []) (ok := fun _ => True) (okp := fun _ => True) ?hr ?hp (fun _ hk => hk) trivial (Below.refl _ _) (Nat.le_refl _) (by simp) ?_; (case hd => rfl); (case hg => rfl); (case hr => first | (go_simp; done) | (go_simp; rfl)); (case hp => exact (Reps.none _ _)); intro v259 w15 ho16 hb hg_ hnew_; clear hg_ hnew_; (first | rw [← Ny258.out] at ho16 | (simp only [Int.reduceToNat] at ho16; rw [← Ny258.out] at ho16)); have HO260 := aM (Kd.R_lower (Kd.R_new' ho16 (Kd.R_lt (xR HO_7.out))) (below_size (xH HB.out))); replace HO_7 := aM (Kd.R_elder' (xR HO_7.out) (Kd.R_base ho16) hb); replace HB := yS0 HB hb; clear hb ho16))
      go_ret2
      exact ⟨_, yF, zR (rM HO260.out (fun _ hk => trivial)), by repeat (first | (with_reducible first | exact HB.out | apply eA | apply eN | apply eD) | exact HB.out)⟩
     rw [if_neg c13] at H
     have c13b0 := decide_eq_false c13
     clear c13
     by_cases c17 : x7_2.length < 17592186044416
     rotate_left
     ·
      rw [if_neg c17] at H
      exact absurd H (by simp)
     rw [if_pos c17] at H
     have LMc17 := aM c17
     clear c17
     obtain ⟨y263, hy263⟩ := yE (x7_2 ++ [wrap64 ((wrap64 (x6_4 * (rd l0 x8_2))) * (rd l1 x8_2))] : List Int)
     replace H : (spec_l4Signs.l0 k2 l0 l1 x6_4 y263 (wrap64 (x8_2 + 1))) = some (r1, r2) := yI hy263 H
     have Ny263 := aM hy263
     clear hy263
     have H' := aM H
     clear H
     try go_wp2
     replace HO_7 := aM (rD HO_7.out)
     replace HB := aM (eD HB.out)
     have p256 : 0 ≤ (x8_2 : Int) := yA
     have q256 : x8_2 < (l0.length : Int) := yA
     obtain ⟨ad256, e256, hx256_0⟩ := Kd.at_int HR0.out x8_2 p256 q256
     have hw256_0 := hx256_0
     obtain rfl : ad251 = ad256 := (by injection e256)
     replace hx256_0 := (HB.out.cell (World.block_lt_of_cell? w _ hx256_0)).trans hx256_0
     replace p256 := eq_true p256
     replace q256 := eq_true q256
     have p257 : 0 ≤ (x8_2 : Int) := yA
     have q257 : x8_2 < (l1.length : Int) := yA
     obtain ⟨ad257, e257, hx257_0⟩ := Kd.at_int HR1.out x8_2 p257 q257
     have hw257_0 := hx257_0
     obtain rfl : ad252 = ad257 := (by injection e257)
     replace hx257_0 := (HB.out.cell (World.block_lt_of_cell? w _ hx257_0)).trans hx257_0
     replace p257 := eq_true p257
     replace q257 := eq_true q257
     refine start_ (n := 12) (S := fun w' => w'.cell? (ad251.add (x8_2).toNat) = some (.int .i64 (rd l0 x8_2)) ∧ w'.cell? (ad252.add (x8_2).toNat) = some (.int .i64 (rd l1 x8_2))) (ds := []) (bm 12 0) (by kernel_rfl) rfl rfl ⟨(by first | exact (HB.out.cell (World.block_lt_of_cell? w _ hw256_0)).trans hw256_0 | exact hw256_0), (by first | exact (HB.out.cell (World.block_lt_of_cell? w _ hw257_0)).trans hw257_0 | exact hw257_0)⟩ (fun hHeld => ?_); refine with_tabW spec_l4Signs.tab8 spec_l4Signs.bits8 (fun HT_ HW_ => ?_)
     generalize wr.drew = w18 at HO_7 HB hx256_0 hx257_0 hHeld ⊢
     refine yP 0 24 (bm 12 1) HT_ ?_
     refine yP 1 25 (bm 12 3) HT_ ?_
     refine yP 2 26 (bm 12 7) HT_ ?_
     refine yP 3 27 (bm 12 15) HT_ ?_
     refine yP 6 30 (bm 12 79) HT_ ?_
     refine yP 7 31 (bm 12 207) HT_ ?_
     refine yP 8 32 (bm 12 463) HT_ ?_
     refine yT2 4 28 (bm 12 479) HT_ HW_ hHeld ?_
     refine yP 5 29 (bm 12 511) HT_ ?_
     refine yT2 9 33 (bm 12 1023) HT_ HW_ hHeld ?_
     refine yP 10 34 (bm 12 2047) HT_ ?_
     refine yP 11 35 (bm 12 4095) HT_ ?_
     refine done_ (done_of HT_.out (by kernel_rfl)) ?_
     try go_wp2
     replace HO_7 := aM (rD HO_7.out)
     replace HB := aM (eD HB.out)
     have p261 : 0 ≤ (x8_2 : Int) := yA
     have q261 : x8_2 < (l0.length : Int) := yA
     obtain ⟨ad261, e261, hx261_0⟩ := Kd.at_int HR0.out x8_2 p261 q261
     have hw261_0 := hx261_0
     obtain rfl : ad251 = ad261 := (by injection e261)
     replace hx261_0 := (HB.out.cell (World.block_lt_of_cell? w _ hx261_0)).trans hx261_0
     replace p261 := eq_true p261
     replace q261 := eq_true q261
     have p262 : 0 ≤ (x8_2 : Int) := yA
     have q262 : x8_2 < (l1.length : Int) := yA
     obtain ⟨ad262, e262, hx262_0⟩ := Kd.at_int HR1.out x8_2 p262 q262
     have hw262_0 := hx262_0
     obtain rfl : ad252 = ad262 := (by injection e262)
     replace hx262_0 := (HB.out.cell (World.block_lt_of_cell? w _ hx262_0)).trans hx262_0
     replace p262 := eq_true p262
     replace q262 := eq_true q262
     refine start_ (n := 15) (S := fun w' => w'.cell? (ad251.add (x8_2).toNat) = some (.int .i64 (rd l0 x8_2)) ∧ w'.cell? (ad252.add (x8_2).toNat) = some (.int .i64 (rd l1 x8_2))) (ds := []) (bm 15 0) (by kernel_rfl) rfl rfl ⟨(by first | exact (HB.out.cell (World.block_lt_of_cell? w _ hw261_0)).trans hw261_0 | exact hw261_0), (by first | exact (HB.out.cell (World.block_lt_of_cell? w _ hw262_0)).trans hw262_0 | exact hw262_0)⟩ (fun hHeld => ?_); refine with_tabW spec_l4Signs.tab10 spec_l4Signs.bits10 (fun HT_ HW_ => ?_)
     generalize w18.drew = w19 at HO_7 HB hx261_0 hx262_0 hHeld ⊢
     refine yP 0 37 (bm 15 1) HT_ ?_
     refine yP 1 38 (bm 15 3) HT_ ?_
     refine yP 2 39 (bm 15 7) HT_ ?_
     refine yP 3 40 (bm 15 15) HT_ ?_
     refine yP 4 41 (bm 15 31) HT_ ?_
     refine yP 7 44 (bm 15 159) HT_ ?_
     refine yP 8 45 (bm 15 415) HT_ ?_
     refine yP 9 46 (bm 15 927) HT_ ?_
     refine yT2 5 42 (bm 15 959) HT_ HW_ hHeld ?_
     refine yP 6 43 (bm 15 1023) HT_ ?_
     refine yT2 10 47 (bm 15 2047) HT_ HW_ hHeld ?_
     refine yP 11 48 (bm 15 4095) HT_ ?_
     refine yO 12 49 (bm 15 8191) HT_ (fun K hK => ?_)
     refine value_ (w1 := ?_) (v := ?_) (by rfl) rfl ?_ ?_
     rotate_left 2
     ·
      go_simp
      constructor
      ·
       rfl
      ·
       rfl
     refine hK.out _ _ ⟨(World.cell?_alloc_lt _ _ _ (World.block_lt_of_cell? _ _ ((by first | exact (HB.out.cell (World.block_lt_of_cell? w _ hw261_0)).trans hw261_0 | exact hw261_0)))).trans ((by first | exact (HB.out.cell (World.block_lt_of_cell? w _ hw261_0)).trans hw261_0 | exact hw261_0)), (World.cell?_alloc_lt _ _ _ (World.block_lt_of_cell? _ _ ((by first | exact (HB.out.cell (World.block_lt_of_cell? w _ hw262_0)).trans hw262_0 | exact hw262_0)))).trans ((by first | exact (HB.out.cell (World.block_lt_of_cell? w _ hw262_0)).trans hw262_0 | exact hw262_0))⟩ (fun hHeld => ?_)
     clear hK K
     refine norm_ (a' := ?_) ?_ ?_
     rotate_left
     ·
      show Act.put _ (some 49) _ = _
      simp only [Act.put, sA, sZ, sU, i64_w, i32_w]
      rfl
     refine yO 13 50 (bm 15 16383) HT_ (fun K hK => ?_)
     refine Kd.R_append_step (Kd.int .i64) (w0 := w) w.heap.size (by rfl) (.tmp 37) (.tmp 49) 22 3 (.int .i64 0) 8 rfl Try.underlying22 info3 rfl (by decide) (by omega) u7 x7_2 (wrap64 ((wrap64 (x6_4 * (rd l0 x8_2))) * (rd l1 x8_2))) [.int .i64 (wrap64 ((wrap64 (x6_4 * (rd l0 x8_2))) * (rd l1 x8_2)))] (fun _ => True) (fun _ => False) rfl rfl ?aP (fun _ hk => hk.elim) ?aF ?aO ?aB ?aS ?aL ?_
     (case aP => exact rfl)
     (case aB => exact (xH HB.out))
     (case aF => exact (fun _ _ => trivial))
     (case aO => exact (xR HO_7.out))
     (case aS => exact (below_size (xH HB.out)))
     (case aL => have := LMc17.out; omega)
     intro v264 w20 ho hb hg hat
     rw [← Ny263.out] at ho
     replace HB := aM (hb)
     have HO265 := aM (ho)
     clear HO_7 ho hb hg hat
     refine hK.out _ _ ⟨(by first | exact (HB.out.cell (World.block_lt_of_cell? w _ hw261_0)).trans hw261_0 | exact hw261_0), (by first | exact (HB.out.cell (World.block_lt_of_cell? w _ hw262_0)).trans hw262_0 | exact hw262_0)⟩ (fun hHeld => ?_)
     clear hK K
     refine norm_ (a' := ?_) ?_ ?_
     rotate_left
     ·
      show Act.put _ (some 50) _ = _
      simp only [Act.put, sA, sZ, sU, i64_w, i32_w]
      rfl
     refine yP 14 7 (bm 15 32767) HT_ ?_
     refine done_ (done_of HT_.out (by kernel_rfl)) ?_
     try go_wp2
     go_roundg k2
     case measure => have := HJ4.out; have := HK2.out; omega
     case rel => exact ⟨(y263), (wrap64 (x8_2 + 1)), yZ, H', ⟨by have := HJ4.out; have := HK2.out; omega⟩, ⟨xR HO265.out⟩, ⟨xH HB.out⟩⟩
end Go.Proofs.Ytgidnmpppbkamaa.PFnExactPlaneClass
