-- Laid for this claim by a program of the session's own (wip/tool/myprint.py).
import Derived.Test.YtgidnmpppbkamaaMFnExactPlaneClassx0
import Derived.Test.YtgidnmpppbkamaaMFnExactPlaneClassx12
import Derived.Test.YtgidnmpppbkamaaMFnExactPlaneClassx13
import Derived.Test.YtgidnmpppbkamaaMFnExactPlaneClassx14
namespace Go.Proofs.Ytgidnmpppbkamaa.PFnExactPlaneClass
open Go.RowKit Go.Proofs.YtgidnmpppbkamaaW.PrintWords Go.Proofs.YtgidnmpppbkamaaW.PrintLast Go.Proofs.YtgidnmpppbkamaaW.PrintMore
attribute [local go_sem] max2_int min2_int max_two min_two max_three min_three max_four min_four
set_option linter.unusedVariables false
set_option maxHeartbeats 8000000
set_option maxRecDepth 100000
set_option linter.unusedSimpArgs false
mutual
def impl_balance.l0 : Nat → List (List Int) → Int → List (List Int) → Int → Int → Option (List Int × Bool)
 | 0, _, _, _, _, _ => none
 | k + 1, x0, x4, x5, x28, x29 => if x29 < x28 then (impl_balance.l1 k x0 x4 x5 x29 (([] : List Int)) x28 x29 x0 (x0.length : Int) 0) else ((impl_reduced.f k x5 x4).bind fun bt390 => (if (bt390.1.length : Int) = (wrap64 (x4 - 1)) then (impl_balance.l2 k x4 bt390.2 bt390.1 (wrap64 (x4 - 1)) bt390.1 (bt390.1.length : Int) 0) else (some (([] : List Int), false))))
def impl_balance.l1 : Nat → List (List Int) → Int → List (List Int) → Int → List Int → Int → Int → List (List Int) → Int → Int → Option (List Int × Bool)
 | 0, _, _, _, _, _, _, _, _, _, _ => none
 | k + 1, x0, x4, x5, x6, x7, x28, x29, x33, x34, x35 => if x35 < x34 then (if 0 ≤ x35 then (if x35 < (x33.length : Int) then (if 0 ≤ x6 then (if x6 < ((rd_L1 x33 x35).length : Int) then (if x7.length < 17592186044416 then (impl_balance.l1 k x0 x4 x5 x6 (x7 ++ [rd (rd_L1 x33 x35) x6]) x28 x29 x33 x34 (wrap64 (x35 + 1))) else (none)) else (none)) else (none)) else (none)) else (none)) else (if x5.length < 5864062014805 then (impl_balance.l0 k x0 x4 (x5 ++ [x7]) x28 (wrap64 (x29 + 1))) else (none))
def impl_balance.j3 : Nat → Int → List (List Int) → List Int → Int → Option (List Int × Bool)
 | 0, _, _, _, _ => none
 | k + 1, x4, x5, x10, x11 => if 0 ≤ x4 then (if (x4 : Int).toNat ≤ 35184372088832 then (impl_balance.l3 k x5 x10 x11 (List.replicate (x4 : Int).toNat 0) 1 x10 (x10.length : Int) 0) else (none)) else (none)
def impl_balance.l3 : Nat → List (List Int) → List Int → Int → List Int → Int → List Int → Int → Int → Option (List Int × Bool)
 | 0, _, _, _, _, _, _, _, _ => none
 | k + 1, x5, x10, x11, x14, x15, x76, x77, x78 => if x78 < x77 then (if 0 ≤ x78 then (if x78 < (x76.length : Int) then (if x78 < (x5.length : Int) then (if 0 ≤ (rd x76 x78) then (if (rd x76 x78) < ((rd_L1 x5 x78).length : Int) then ((impl_divisor.f k (([x15, rd (rd_L1 x5 x78) (rd x76 x78)] : List Int))).bind fun t404 => (if t404 = 0 then (none) else (impl_balance.l3 k x5 x10 x11 x14 (wrap64 ((wrap64 (Int.tdiv x15 t404)) * (mx (rd (rd_L1 x5 x78) (rd x76 x78)) (wrap64 (-(rd (rd_L1 x5 x78) (rd x76 x78))))))) x76 x77 (wrap64 (x78 + 1))))) else (none)) else (none)) else (none)) else (none)) else (none)) else (if 0 ≤ x11 then (if x11 < (x14.length : Int) then (impl_balance.l4 k x5 x11 (x14.set (x11 : Int).toNat x15) x15 x10 (x10.length : Int) 0) else (none)) else (none))
def impl_balance.l4 : Nat → List (List Int) → Int → List Int → Int → List Int → Int → Int → Option (List Int × Bool)
 | 0, _, _, _, _, _, _, _ => none
 | k + 1, x5, x11, x14, x15, x117, x118, x119 => if x119 < x118 then (if 0 ≤ x119 then (if x119 < (x117.length : Int) then (if x119 < (x5.length : Int) then (if 0 ≤ x11 then (if x11 < ((rd_L1 x5 x119).length : Int) then (if 0 ≤ (rd x117 x119) then (if (rd x117 x119) < ((rd_L1 x5 x119).length : Int) then (if (rd (rd_L1 x5 x119) (rd x117 x119)) = 0 then (none) else (if (rd x117 x119) < (x14.length : Int) then (impl_balance.l4 k x5 x11 (x14.set ((rd x117 x119) : Int).toNat (wrap64 ((wrap64 (-(rd (rd_L1 x5 x119) x11))) * (wrap64 (Int.tdiv x15 (rd (rd_L1 x5 x119) (rd x117 x119))))))) x15 x117 x118 (wrap64 (x119 + 1))) else (none))) else (none)) else (none)) else (none)) else (none)) else (none)) else (none)) else (none)) else ((impl_shortened.f k x14).bind fun t416 => (impl_balance.l5 k t416 t416 (x14.length : Int) 0))
def impl_balance.l5 : Nat → List Int → List Int → Int → Int → Option (List Int × Bool)
 | 0, _, _, _, _ => none
 | k + 1, x14, x148, x149, x150 => if x150 < x149 then (if 0 ≤ x150 then (if x150 < (x148.length : Int) then (if (rd x148 x150) ≤ 0 then (some (([] : List Int), false)) else (impl_balance.l5 k x14 x148 x149 (wrap64 (x150 + 1)))) else (none)) else (none)) else (some (x14, true))
def impl_balance.l2 : Nat → Int → List (List Int) → List Int → Int → List Int → Int → Int → Option (List Int × Bool)
 | 0, _, _, _, _, _, _, _ => none
 | k + 1, x4, x5, x10, x11, x62, x63, x64 => if x64 < x63 then (if 0 ≤ x64 then (if x64 < (x62.length : Int) then (if (rd x62 x64) = x64 then (impl_balance.l2 k x4 x5 x10 x11 x62 x63 (wrap64 (x64 + 1))) else (impl_balance.j3 k x4 x5 x10 x64)) else (none)) else (none)) else (impl_balance.j3 k x4 x5 x10 x11)
end
def impl_balance.f (k : Nat) (l0 : List (List Int)) : Option (List Int × Bool) := if 0 < (l0.length : Int) then (impl_balance.l0 k l0 (l0.length : Int) (([] : List (List Int))) ((rd_L1 l0 0).length : Int) 0) else (none)
def impl_balance.T28 : Bool × List (List Nat × List Nat) := (true, [([], []), ([], []), ([], []), ([], []), ([2, 3], [2, 3]), ([4], [4]), ([], []), ([5, 6], [5, 6]), ([7], [7]), ([1, 8], [1, 8]), ([9], [9]), ([0, 10], [0, 10]), ([], []), ([], []), ([12, 13], [12, 13]), ([14], [14]), ([], []), ([15, 16], [15, 16]), ([17], [17]), ([], []), ([], []), ([19, 20], [19, 20]), ([21], [21]), ([], []), ([22, 23], [22, 23]), ([24], [24]), ([25], [25]), ([18, 26], [18, 26]), ([11, 27], [11, 27]), ([28, 10, 0, 1, 2, 3, 4, 5, 6, 7, 8, 9, 10, 11, 12, 13, 14, 15, 16, 17, 18, 19, 20, 21, 22, 23, 24, 25, 26, 27, 28], [0, 1, 28])])
def impl_balance.B28 : List Nat := [0, 0, 0, 0, 12, 28, 0, 124, 252, 510, 1022, 2047, 0, 0, 12288, 28672, 0, 126976, 258048, 0, 0, 1572864, 3670016, 0, 16252928, 33030144, 66584576, 134213632, 268435455, 536870911]
theorem impl_balance.tab28 : rtab .any (opsOf Try.f79 28) = impl_balance.T28 := by kernel_rfl
theorem impl_balance.bits28 : waitsOk impl_balance.T28.2 impl_balance.B28 = true := by kernel_rfl
def impl_balance.T34 : Bool × List (List Nat × List Nat) := (true, [([], []), ([], []), ([], []), ([], []), ([2, 3], [2, 3]), ([4], [4]), ([], []), ([5, 6], [5, 6]), ([7], [7]), ([8], [8]), ([], []), ([], []), ([], []), ([11, 12], [11, 12]), ([13], [13]), ([], []), ([14, 15], [14, 15]), ([16], [16]), ([10, 17], [10, 17]), ([9, 18], [9, 18]), ([0, 1, 0, 1, 2, 3, 4, 5, 6, 7, 8, 9, 10, 11, 12, 13, 14, 15, 16, 17, 18, 19], [0, 1]), ([20, 19, 0, 1, 2, 3, 4, 5, 6, 7, 8, 9, 10, 11, 12, 13, 14, 15, 16, 17, 18, 19], [19, 20])])
def impl_balance.B34 : List Nat := [0, 0, 0, 0, 12, 28, 0, 124, 252, 508, 0, 0, 0, 6144, 14336, 0, 63488, 129024, 261120, 524284, 1048575, 2097151]
theorem impl_balance.tab34 : rtab .any (opsOf Try.f79 34) = impl_balance.T34 := by kernel_rfl
theorem impl_balance.bits34 : waitsOk impl_balance.T34.2 impl_balance.B34 = true := by kernel_rfl
theorem impl_balance.calls (k : Nat) (A0 : Option Addr) (c0 : Nat) (l0 : List (List Int)) (r1 : List Int) (r2 : Bool) (w : World) (hr0 : Kd.C (Kd.slice 3 (Kd.int .i64)) w A0 l0.length l0) (hc0 : l0.length ≤ c0) (h : impl_balance.f k l0 = some (r1, r2)) :
  Calls Try.prog 79 #[.slice A0 l0.length c0] w fun e w' => ∃ v0_ : Value, e = .returned (.tuple #[v0_, .bool r2]) ∧ Kd.R (Kd.int .i64) 3 w' w.heap.size (fun _ => True) v0_ r1 ∧ Below w.heap.size w w' := by
 have HR0 := aM hr0
 have HC0 := aM hc0
 clear hr0 hc0
 have HB := aM (Below.refl w.heap.size w)
 have H : (if 0 < (l0.length : Int) then (impl_balance.l0 k l0 (l0.length : Int) (([] : List (List Int))) ((rd_L1 l0 0).length : Int) 0) else (none)) = some (r1, r2) := h
 clear h
 obtain ⟨y375, hy375⟩ := yE (([] : List (List Int)) : List (List Int))
 replace H : (if 0 < (l0.length : Int) then (impl_balance.l0 k l0 (l0.length : Int) y375 ((rd_L1 l0 0).length : Int) 0) else (none)) = some (r1, r2) := yI hy375 H
 have Ny375 := aM hy375
 clear hy375
 by_cases c2 : 0 < (l0.length : Int)
 rotate_left
 ·
  rw [if_neg c2] at H
  exact absurd H (by simp)
 rw [if_pos c2] at H
 have c2b0 := decide_eq_true c2
 have c2b1 : decide (0 < l0.length) = true := decide_eq_true (by omega)
 clear c2
 have H' := aM H
 clear H
 go_enter Try.func79, Try.ntmps79
 go_wp2_with (first | ((with_reducible refine gate_dst (N := 24) rfl ?_); refine Kd.S_lit (Kd.slice 3 (Kd.int .i64)) _ 22 ?hg (N := 24) ?hd (xs := ([] : List (List Int))) (inner := []) (ok := fun _ => True) (okp := fun _ => True) ?hr ?hp (fun _ hk => hk) trivial (Below.refl _ _) (Nat.le_refl _) (by simp) ?_; (case hd => rfl); (case hg => rfl); (case hr => first | (go_simp; done) | (go_simp; rfl)); (case hp => exact (Reps.none _ _)); intro v376 w3 ho4 hb hg_ hnew_; clear hg_ hnew_; (first | rw [← Ny375.out] at ho4 | (simp only [Int.reduceToNat] at ho4; rw [← Ny375.out] at ho4)); have HO377 := aM (Kd.S_lower ho4 (below_size (xH HB.out))); replace HB := yS0 HB hb; clear hb ho4; have p378 : 0 ≤ (0 : Int) := (by omega); have q378 : 0 < (l0.length : Int) := yA; obtain ⟨ad378, A378_0, c378_0, e378, hx378_0, hl378_0, hi378_0⟩ := at_L1 HR0.out 0 p378 q378; cases e378; have qi378 : (0 < l0.length) = True := eq_true (by omega); (try rw [show ((0 : Int)).toNat = 0 from rfl] at hx378_0); (try rw [Addr.add_zero'] at hx378_0); replace hx378_0 := (HB.out.cell (World.block_lt_of_cell? w _ hx378_0)).trans hx378_0; have HR378_0 := aM hi378_0; have HC378_0 := aM hl378_0; clear hi378_0 hl378_0; replace p378 := eq_true p378; replace q378 := eq_true q378))
 go_loopg [5, 29] k (fun kq v5 v29 w' => ∃ (x5_1 : List (List Int)) (x29_1 : Int), v29 = .int .i64 x29_1 ∧ Aside0 (impl_balance.l0 kq l0 (l0.length : Int) x5_1 ((rd_L1 l0 0).length : Int) x29_1 = some (r1, r2)) ∧ Aside0 (kq ≤ k) ∧ Aside0 (Kd.S (Kd.slice 3 (Kd.int .i64)) 22 w' w.heap.size (fun _ => True) v5 x5_1) ∧ Aside0 (Below w.heap.size w w'))
 case atStart => exact ⟨(y375), (0), yZ, H', ⟨Nat.le_refl _⟩, ⟨xS HO377.out⟩, ⟨xH HB.out⟩⟩
 case round =>
  clear H'
  try clear c2; try clear c2b0; try clear c2b1; try clear hx378_0; try clear p378; try clear q378
  obtain ⟨x5_1, x29_1, rfl, HA, HK1, HO_5, HB⟩ := hrel
  cases gk with
  | zero => exact absurd HA.out (by simp [impl_balance.l0])
  | succ k1 =>
   have H := HA.out
   clear HA
   simp only [impl_balance.l0] at H
   by_cases c5 : x29_1 < ((rd_L1 l0 0).length : Int)
   ·
    rw [if_pos c5] at H
    have c5b0 := decide_eq_true c5
    clear c5
    obtain ⟨y379, hy379⟩ := yE (([] : List Int) : List Int)
    replace H : (impl_balance.l1 k1 l0 (l0.length : Int) x5_1 x29_1 y379 ((rd_L1 l0 0).length : Int) x29_1 l0 (l0.length : Int) 0) = some (r1, r2) := yI hy379 H
    have Ny379 := aM hy379
    clear hy379
    have H' := aM H
    clear H
    go_wp2_with (first | ((with_reducible refine gate_dst (N := 32) rfl ?_); refine Kd.R_lit (Kd.int .i64) _ 3 ?hg (N := 32) ?hd (xs := ([] : List Int)) (inner := []) (ok := fun _ => True) (okp := fun _ => True) ?hr ?hp (fun _ hk => hk) trivial (Below.refl _ _) (Nat.le_refl _) (by simp) ?_; (case hd => rfl); (case hg => rfl); (case hr => first | (go_simp; done) | (go_simp; rfl)); (case hp => exact (Reps.none _ _)); intro v380 w6 ho7 hb hg_ hnew_; clear hg_ hnew_; (first | rw [← Ny379.out] at ho7 | (simp only [Int.reduceToNat] at ho7; rw [← Ny379.out] at ho7)); replace HO_5 := aM (Kd.S_elder' (xS HO_5.out) (Kd.R_base ho7) hb); have HO381 := aM (Kd.R_lower ho7 (below_size (xH HB.out))); replace HB := yS0 HB hb; clear hb ho7))
    go_loopg [7, 35] k1 (fun kq v7 v35 w' => ∃ (x7_2 : List Int) (x35_2 : Int), v35 = .int .i64 x35_2 ∧ Aside0 (impl_balance.l1 kq l0 (l0.length : Int) x5_1 x29_1 x7_2 ((rd_L1 l0 0).length : Int) x29_1 l0 (l0.length : Int) x35_2 = some (r1, r2)) ∧ Aside0 (kq ≤ k1) ∧ Aside0 (Kd.S (Kd.slice 3 (Kd.int .i64)) 22 w' w.heap.size (fun k_ => some k_ ≠ (v7 : Value).ownBlock) u5 x5_1) ∧ Aside0 (Kd.R (Kd.int .i64) 3 w' w.heap.size (fun _ => True) v7 x7_2) ∧ Aside0 (Below w.heap.size w w'))
    case atStart => exact ⟨(y379), (0), yZ, H', ⟨Nat.le_refl _⟩, ⟨zS (Kd.S_mono HO_5.out (fun _ hk => hk.2))⟩, ⟨xR HO381.out⟩, ⟨xH HB.out⟩⟩
    case round =>
     clear H'
     try clear c5; try clear c5b0
     obtain ⟨x7_2, x35_2, rfl, HA, HK2, HO_5, HO_7, HB⟩ := hrel
     cases gk with
     | zero => exact absurd HA.out (by simp [impl_balance.l1])
     | succ k2 =>
      have H := HA.out
      clear HA
      simp only [impl_balance.l1] at H
      by_cases c8 : x35_2 < (l0.length : Int)
      rotate_left
      ·
       rw [if_neg c8] at H
       have c8b0 := decide_eq_false c8
       clear c8
       by_cases c15 : x5_1.length < 5864062014805
       rotate_left
       ·
        rw [if_neg c15] at H
        exact absurd H (by simp)
       rw [if_pos c15] at H
       have LMc15 := aM c15
       clear c15
       obtain ⟨y387, hy387⟩ := yE (x5_1 ++ [x7_2] : List (List Int))
       replace H : (impl_balance.l0 k2 l0 (l0.length : Int) y387 ((rd_L1 l0 0).length : Int) (wrap64 (x29_1 + 1))) = some (r1, r2) := yI hy387 H
       have Ny387 := aM hy387
       clear hy387
       have H' := aM H
       clear H
       obtain ⟨Ao17, co17, eo17⟩ := Kd.R_slice HO_7.out
       subst eo17
       go_wp2_with (first | ((with_reducible refine gate_builtin (b := .append) (xs := #[.tmp 47, .tmp 49]) rfl ?_); at_builtin; refine Kd.S_append (Kd.slice 3 (Kd.int .i64)) (w0 := w) w.heap.size rfl (.tmp 47) (.tmp 49) 32 22 (.slice none 0 0) 24 rfl Try.underlying32 info22 rfl (by decide) (by omega) u5 x5_1 x7_2 [.slice Ao17 x7_2.length co17] (fun _ => True) (fun k_ => some k_ = (.slice Ao17 x7_2.length co17 : Value).ownBlock) rfl rfl ?aP (fun k_ hk_ => ((rM (ok' := fun k_ => ((fun _ => True)) k_ ∧ some k_ ≠ (u5 : Value).ownBlock) (Kd.R_apart' (HO_7.out) (Kd.S_typed HO_5.out) (by decide)) (fun k_ hk => ⟨trivial, hk.2⟩))).1 k_ hk_.symm) ?aF ?aO ?aB ?aS ?aL ?_; (case aP => exact Kd.M_row (rM (Kd.R_tight rfl (rM (ok' := fun k_ => ((fun _ => True)) k_ ∧ some k_ ≠ (u5 : Value).ownBlock) (Kd.R_apart' (HO_7.out) (Kd.S_typed HO_5.out) (by decide)) (fun k_ hk => ⟨trivial, hk.2⟩))) (fun _ h_ => h_))); (case aB => exact (xH HB.out)); (case aF => exact (fun _ _ => trivial)); (case aO => exact (zS (Kd.S_mono HO_5.out (fun k_ hk => ⟨trivial, fun e_ => hk e_⟩)))); (case aS => exact (below_size (xH HB.out))); (case aL => have := LMc15.out; omega); intro v388 w16 ho hb hg hat; rw [← Ny387.out] at ho; replace HB := aM (hb); have HO389 := aM (ho); clear HO_5; clear HO_7; clear ho hb hg hat))
       go_roundg k2
       case measure => have := HK1.out; have := HK2.out; omega
       case rel => exact ⟨(y387), (wrap64 (x29_1 + 1)), yZ, H', ⟨by have := HK1.out; have := HK2.out; omega⟩, ⟨xS HO389.out⟩, ⟨xH HB.out⟩⟩
      rw [if_pos c8] at H
      have c8b0 := decide_eq_true c8
      clear c8
      by_cases c9 : 0 ≤ x35_2
      rotate_left
      ·
       rw [if_neg c9] at H
       exact absurd H (by simp)
      rw [if_pos c9] at H
      have c9b0 := decide_eq_true c9
      clear c9
      by_cases c10 : x35_2 < (l0.length : Int)
      rotate_left
      ·
       rw [if_neg c10] at H
       exact absurd H (by simp)
      rw [if_pos c10] at H
      have c10b0 := decide_eq_true c10
      clear c10
      by_cases c11 : 0 ≤ x29_1
      rotate_left
      ·
       rw [if_neg c11] at H
       exact absurd H (by simp)
      rw [if_pos c11] at H
      have c11b0 := decide_eq_true c11
      clear c11
      by_cases c12 : x29_1 < ((rd_L1 l0 x35_2).length : Int)
      rotate_left
      ·
       rw [if_neg c12] at H
       exact absurd H (by simp)
      rw [if_pos c12] at H
      have c12b0 := decide_eq_true c12
      clear c12
      by_cases c13 : x7_2.length < 17592186044416
      rotate_left
      ·
       rw [if_neg c13] at H
       exact absurd H (by simp)
      rw [if_pos c13] at H
      have LMc13 := aM c13
      clear c13
      obtain ⟨y384, hy384⟩ := yE (x7_2 ++ [rd (rd_L1 l0 x35_2) x29_1] : List Int)
      replace H : (impl_balance.l1 k2 l0 (l0.length : Int) x5_1 x29_1 y384 ((rd_L1 l0 0).length : Int) x29_1 l0 (l0.length : Int) (wrap64 (x35_2 + 1))) = some (r1, r2) := yI hy384 H
      have Ny384 := aM hy384
      clear hy384
      have H' := aM H
      clear H
      have p382 : 0 ≤ (x35_2 : Int) := yA
      have q382 : x35_2 < (l0.length : Int) := yA
      obtain ⟨ad382, A382_0, c382_0, e382, hx382_0, hl382_0, hi382_0⟩ := at_L1 HR0.out x35_2 p382 q382
      obtain rfl : ad378 = ad382 := (by injection e382)
      replace hx382_0 := (HB.out.cell (World.block_lt_of_cell? w _ hx382_0)).trans hx382_0
      have HR382_0 := aM hi382_0
      have HC382_0 := aM hl382_0
      clear hi382_0 hl382_0
      replace p382 := eq_true p382
      replace q382 := eq_true q382
      have p383 : 0 ≤ (x29_1 : Int) := yA
      have q383 : x29_1 < ((rd_L1 l0 x35_2).length : Int) := yA
      obtain ⟨ad383, e383, hx383_0⟩ := Kd.at_int HR382_0.out x29_1 p383 q383
      cases e383
      replace hx383_0 := (HB.out.cell (World.block_lt_of_cell? w _ hx383_0)).trans hx383_0
      replace p383 := eq_true p383
      replace q383 := eq_true q383
      go_wp2_with (first | ((with_reducible refine gate_builtin (b := .append) (xs := #[.tmp 39, .tmp 44]) rfl ?_); at_builtin; refine Kd.R_append (Kd.int .i64) (w0 := w) w.heap.size rfl (.tmp 39) (.tmp 44) 22 3 (.int .i64 0) 8 rfl Try.underlying22 info3 rfl (by decide) (by omega) u7 x7_2 (rd (rd_L1 l0 x35_2) x29_1) [.int .i64 (rd (rd_L1 l0 x35_2) x29_1)] (fun _ => True) (fun _ => False) rfl rfl ?aP (fun _ hk => hk.elim) ?aF ?aO ?aB ?aS ?aL ?_; (case aP => exact rfl); (case aB => exact (xH HB.out)); (case aF => exact (fun _ _ => trivial)); (case aO => exact (xR HO_7.out)); (case aS => exact (below_size (xH HB.out))); (case aL => have := LMc13.out; omega); intro v385 w14 ho hb hg hat; rw [← Ny384.out] at ho; replace HO_5 := aM (Kd.S_after (ok := (fun _ => True)) (zS (Kd.S_mono HO_5.out (fun _ hk => ⟨trivial, hk⟩))) hg hat); replace HB := aM (hb); have HO386 := aM (ho); clear HO_7; clear ho hb hg hat))
      go_roundg k2
      case measure => have := HK1.out; have := HK2.out; omega
      case rel => exact ⟨(y384), (wrap64 (x35_2 + 1)), yZ, H', ⟨by have := HK1.out; have := HK2.out; omega⟩, ⟨zS (Kd.S_mono HO_5.out (fun _ hk => hk.2))⟩, ⟨xR HO386.out⟩, ⟨xH HB.out⟩⟩
   rw [if_neg c5] at H
   have c5b0 := decide_eq_false c5
   clear c5
   replace H := oB.mp H
   obtain ⟨⟨t390, t393⟩, A180, H⟩ := H
   (try dsimp only at H)
   have A18 := aM A180
   clear A180
   by_cases c19 : (t390.length : Int) = (wrap64 ((l0.length : Int) - 1))
   rotate_left
   ·
    rw [if_neg c19] at H
    have c19b0 : ((t390.length : Int) == (wrap64 ((l0.length : Int) - 1))) = false := beq_eq_false_iff_ne.mpr c19
    have c19b1 : ((t390.length : Int) != (wrap64 ((l0.length : Int) - 1))) = true := bne_iff_ne.mpr c19
    simp only [Option.some.injEq, Prod.mk.injEq] at H
    obtain ⟨rfl, rfl⟩ := H
    obtain ⟨Ao70, co70, eo70⟩ := Kd.S_slice HO_5.out
    subst eo70
    go_wp2_with (first | (refine yL 54 Try.func101 #[.slice Ao70 x5_1.length co70, .int .i64 (l0.length : Int)] ?_; (with_reducible refine (impl_reduced.calls k1 (fun k_ => True) (.slice Ao70 x5_1.length co70) x5_1 (l0.length : Int) t390 t393 w _ ?side1 ?side2 A18.out).mono ?_); (case side1 => repeat (first | (with_reducible first | exact HB.out | apply eA | apply eN | apply eD) | exact HB.out)); (case side2 => exact xS HO_5.out); rintro e w71 ⟨v391, rfl, ho0, hy0, hb, hkp⟩; refine ⟨_, rfl, ?_⟩; replace HO_5 := aM (Kd.S_mono hy0 (fun _ _ => trivial)); have HO392 := aM (Kd.V_mono (ok' := fun k_ => some k_ ≠ (.slice Ao70 x5_1.length co70 : Value).ownBlock) ho0 (fun k_ hk_ => hk_.2)); replace HB := aM (hb); (try clear hb; try clear hkp; try clear ho0; try clear hy0); obtain ⟨Ao72, co72, eo72⟩ := Kd.V_slice HO392.out; subst eo72))
    go_ret2
    exact ⟨_, yF, by first | exact Kd.R_nil _ _ _ _ _ | exact Kd.N_nil _ _ _ _ _ | exact Kd.V_nil _ _ _ _ _ | exact Kd.Q_nil _ _ _ _ _ | exact Kd.S_nil _ _ _ _ _, by repeat (first | (with_reducible first | exact HB.out | apply eA | apply eN | apply eD) | exact HB.out)⟩
   rw [if_pos c19] at H
   have c19b0 : ((t390.length : Int) == (wrap64 ((l0.length : Int) - 1))) = true := beq_iff_eq.mpr c19
   have c19b1 : ((t390.length : Int) != (wrap64 ((l0.length : Int) - 1))) = false := bne_eq_false_iff_eq.mpr c19
   clear c19
   have HC20 := aM H
   clear H
   obtain ⟨Ao21, co21, eo21⟩ := Kd.S_slice HO_5.out
   subst eo21
   go_upto_block 4 with (first | (refine yL 54 Try.func101 #[.slice Ao21 x5_1.length co21, .int .i64 (l0.length : Int)] ?_; (with_reducible refine (impl_reduced.calls k1 (fun k_ => True) (.slice Ao21 x5_1.length co21) x5_1 (l0.length : Int) t390 t393 w _ ?side1 ?side2 A18.out).mono ?_); (case side1 => repeat (first | (with_reducible first | exact HB.out | apply eA | apply eN | apply eD) | exact HB.out)); (case side2 => exact xS HO_5.out); rintro e w22 ⟨v391, rfl, ho0, hy0, hb, hkp⟩; refine ⟨_, rfl, ?_⟩; replace HO_5 := aM (Kd.S_mono hy0 (fun _ _ => trivial)); have HO392 := aM (Kd.V_mono (ok' := fun k_ => some k_ ≠ (.slice Ao21 x5_1.length co21 : Value).ownBlock) ho0 (fun k_ hk_ => hk_.2)); replace HB := aM (hb); (try clear hb; try clear hkp; try clear ho0; try clear hy0); obtain ⟨Ao23, co23, eo23⟩ := Kd.V_slice HO392.out; subst eo23))
   (try simp only [Act.put, sA, sZ, sU])
   go_cut [11] (fun v11 wc => ∃ (kq : Nat) (x11_19 : Int), v11 = .int .i64 x11_19 ∧ Aside0 (impl_balance.j3 kq (l0.length : Int) t393 t390 x11_19 = some (r1, r2)) ∧ Aside0 (kq ≤ k1) ∧ Aside0 (Kd.S (Kd.slice 3 (Kd.int .i64)) 22 wc w.heap.size (fun _ => True) (.slice Ao21 x5_1.length co21) t393) ∧ Aside0 (Kd.V (Kd.int .i64) 3 wc w.heap.size (fun k_ => some k_ ≠ ((.slice Ao21 x5_1.length co21) : Value).ownBlock) (.slice Ao23 t390.length co23) t390) ∧ Aside0 (Below w.heap.size w wc))
   case first =>
    have H := HC20.out
    clear HC20
    have H' := aM H
    clear H
    go_wp2
    go_loopg [11, 64] k1 (fun kq v11 v64 w' => ∃ (x11_2 : Int) (x64_2 : Int), v11 = .int .i64 x11_2 ∧ v64 = .int .i64 x64_2 ∧ Aside0 (impl_balance.l2 kq (l0.length : Int) t393 t390 x11_2 t390 (t390.length : Int) x64_2 = some (r1, r2)) ∧ Aside0 (kq ≤ k1) ∧ Aside0 (Kd.S (Kd.slice 3 (Kd.int .i64)) 22 w' w.heap.size (fun _ => True) (.slice Ao21 x5_1.length co21) t393) ∧ Aside0 (Kd.V (Kd.int .i64) 3 w' w.heap.size (fun k_ => some k_ ≠ ((.slice Ao21 x5_1.length co21) : Value).ownBlock) (.slice Ao23 t390.length co23) t390) ∧ Aside0 (Kd.V (Kd.int .i64) 3 w' w.heap.size (fun k_ => some k_ ≠ ((.slice Ao21 x5_1.length co21) : Value).ownBlock) (.slice Ao23 t390.length co23) t390) ∧ Aside0 (Below w.heap.size w w'))
    case atStart => exact ⟨(wrap64 ((l0.length : Int) - 1)), (0), yZ, yZ, H', ⟨Nat.le_refl _⟩, ⟨xS HO_5.out⟩, ⟨xV HO392.out⟩, ⟨xV HO392.out⟩, ⟨xH HB.out⟩⟩
    case round =>
     clear H'
     try clear c5; try clear c5b0; try clear c8; try clear c8b0; try clear c9; try clear c9b0; try clear c10; try clear c10b0; try clear c11; try clear c11b0; try clear c12; try clear c12b0; try clear c13; try clear c15; try clear c19; try clear c19b0; try clear c19b1; try clear hx382_0; try clear hx383_0; try clear p382; try clear p383; try clear q382; try clear q383
     obtain ⟨x11_2, x64_2, rfl, rfl, HA, HK2, HO_5, HO_10, HO_62, HB⟩ := hrel
     have hl5_2 := (Kd.S_reads' HO_5.out).1
     rw [hl5_2] at HO_5
     (try simp only [hl5_2])
     (try simp only [hl5_2] at HO_10)
     (try simp only [hl5_2] at HO_62)
     cases gk with
     | zero => exact absurd HA.out (by simp [impl_balance.l2])
     | succ k2 =>
      have H := HA.out
      clear HA
      simp only [impl_balance.l2] at H
      by_cases c24 : x64_2 < (t390.length : Int)
      rotate_left
      ·
       rw [if_neg c24] at H
       have c24b0 := decide_eq_false c24
       clear c24
       (first | rw [c24b0] | (simp only [i64_w, i32_w]; rw [c24b0]) | rw [c24b1] | skip)
       have H' := aM H
       clear H
       go_wp2
       (try simp only [← hl5_2])
       go_meet
       case rel => exact ⟨_, (x11_2), yZ, H', ⟨by have := HK1.out; have := HK2.out; first | omega | exact Nat.le_refl _⟩, ⟨by (try simp only [hl5_2]); (with_reducible repeat (first | apply Kd.S_alloc | apply Kd.S_drewN | apply Kd.S_drew)); exact HO_5.out⟩, ⟨by (try simp only [hl5_2]); (with_reducible repeat (first | apply Kd.V_alloc | apply Kd.V_drewN | apply Kd.V_drew)); exact HO_10.out⟩, ⟨xH HB.out⟩⟩
      rw [if_pos c24] at H
      have c24b0 := decide_eq_true c24
      clear c24
      (first | rw [c24b0] | (simp only [i64_w, i32_w]; rw [c24b0]) | rw [c24b1] | skip)
      by_cases c25 : 0 ≤ x64_2
      rotate_left
      ·
       rw [if_neg c25] at H
       exact absurd H (by simp)
      rw [if_pos c25] at H
      have c25b0 := decide_eq_true c25
      clear c25
      by_cases c26 : x64_2 < (t390.length : Int)
      rotate_left
      ·
       rw [if_neg c26] at H
       exact absurd H (by simp)
      rw [if_pos c26] at H
      have c26b0 := decide_eq_true c26
      clear c26
      by_cases c27 : (rd t390 x64_2) = x64_2
      rotate_left
      ·
       rw [if_neg c27] at H
       have c27b0 : ((rd t390 x64_2) == x64_2) = false := beq_eq_false_iff_ne.mpr c27
       have c27b1 : ((rd t390 x64_2) != x64_2) = true := bne_iff_ne.mpr c27
       have H' := aM H
       clear H
       have p394 : 0 ≤ (x64_2 : Int) := yA
       have q394 : x64_2 < (t390.length : Int) := yA
       obtain ⟨ad394, e394, hx394_0⟩ := Kd.at_int (Kd.V_reads' HO_62.out).2.2 x64_2 p394 q394
       cases e394
       replace p394 := eq_true p394
       replace q394 := eq_true q394
       go_wp2
       (try simp only [← hl5_2])
       go_meet
       case rel => exact ⟨_, (x64_2), yZ, H', ⟨by have := HK1.out; have := HK2.out; first | omega | exact Nat.le_refl _⟩, ⟨by (try simp only [hl5_2]); (with_reducible repeat (first | apply Kd.S_alloc | apply Kd.S_drewN | apply Kd.S_drew)); exact HO_5.out⟩, ⟨by (try simp only [hl5_2]); (with_reducible repeat (first | apply Kd.V_alloc | apply Kd.V_drewN | apply Kd.V_drew)); exact HO_10.out⟩, ⟨xH HB.out⟩⟩
      rw [if_pos c27] at H
      have c27b0 : ((rd t390 x64_2) == x64_2) = true := beq_iff_eq.mpr c27
      have c27b1 : ((rd t390 x64_2) != x64_2) = false := bne_eq_false_iff_eq.mpr c27
      clear c27
      have H' := aM H
      clear H
      have p394 : 0 ≤ (x64_2 : Int) := yA
      have q394 : x64_2 < (t390.length : Int) := yA
      obtain ⟨ad394, e394, hx394_0⟩ := Kd.at_int (Kd.V_reads' HO_62.out).2.2 x64_2 p394 q394
      cases e394
      replace p394 := eq_true p394
      replace q394 := eq_true q394
      go_wp2
      (try simp only [← hl5_2])
      go_roundg k2
      case measure => have := HK1.out; have := HK2.out; omega
      case rel => exact ⟨(x11_2), (wrap64 (x64_2 + 1)), yZ, yZ, H', ⟨by have := HK1.out; have := HK2.out; omega⟩, ⟨by (try simp only [hl5_2]); (with_reducible repeat (first | apply Kd.S_alloc | apply Kd.S_drewN | apply Kd.S_drew)); exact HO_5.out⟩, ⟨by (try simp only [hl5_2]); (with_reducible repeat (first | apply Kd.V_alloc | apply Kd.V_drewN | apply Kd.V_drew)); exact HO_10.out⟩, ⟨by (try simp only [hl5_2]); (with_reducible repeat (first | apply Kd.V_alloc | apply Kd.V_drewN | apply Kd.V_drew)); exact HO_62.out⟩, ⟨xH HB.out⟩⟩
   case rest =>
    clear HC20
    try clear c5; try clear c5b0; try clear c8; try clear c8b0; try clear c9; try clear c9b0; try clear c10; try clear c10b0; try clear c11; try clear c11b0; try clear c12; try clear c12b0; try clear c13; try clear c15; try clear c19; try clear c19b0; try clear c19b1; try clear c24; try clear c24b0; try clear c25; try clear c25b0; try clear c26; try clear c26b0; try clear c27; try clear c27b0; try clear c27b1; try clear hx382_0; try clear hx383_0; try clear hx394_0; try clear p382; try clear p383; try clear p394; try clear q382; try clear q383; try clear q394
    obtain ⟨kq, x11_19, rfl, HA, HJ19, HO_5, HO_10, HB⟩ := hcut
    have hl5_19 := (Kd.S_reads' HO_5.out).1
    rw [hl5_19] at HO_5
    (try simp only [hl5_19])
    (try simp only [hl5_19] at HO_10)
    cases kq with
    | zero => exact absurd HA.out (by simp [impl_balance.j3])
    | succ kj19 =>
     have H := HA.out
     clear HA
     simp only [impl_balance.j3] at H
     by_cases c28 : 0 ≤ (l0.length : Int)
     rotate_left
     ·
      rw [if_neg c28] at H
      exact absurd H (by simp)
     rw [if_pos c28] at H
     have c28b0 := eq_true c28
     have c28b1 : decide (0 ≤ (l0.length : Int)) = true := decide_eq_true c28
     clear c28
     by_cases c29 : ((l0.length : Int) : Int).toNat ≤ 35184372088832
     rotate_left
     ·
      rw [if_neg c29] at H
      exact absurd H (by simp)
     rw [if_pos c29] at H
     have c29b0 := eq_true c29
     have c29b1 : decide (((l0.length : Int) : Int).toNat ≤ 35184372088832) = true := decide_eq_true c29
     clear c29
     obtain ⟨y395, hy395⟩ := yE (List.replicate ((l0.length : Int) : Int).toNat 0 : List Int)
     replace H : (impl_balance.l3 kj19 t393 t390 x11_19 y395 1 t390 (t390.length : Int) 0) = some (r1, r2) := yI hy395 H
     have Ny395 := aM hy395
     clear hy395
     have H' := aM H
     clear H
     go_wp2_with (first | ((with_reducible refine gate_dst (N := 75) rfl ?_); refine Kd.R_make (Kd.int .i64) _ 3 rfl (N := 75) rfl 22 _ _ rfl (l0.length : Int) rfl rfl Try.underlying22 (.int .i64 0) 8 info3 rfl (by decide) (by omega) 0 (ok := fun _ => True) (okp := fun _ => True) rfl (fun _ hk => hk) trivial (yA) (Nat.le_trans (Nat.mul_le_mul_right _ (yA : (l0.length : Int).toNat ≤ 35184372088832)) (by omega)) (Below.refl _ _) (Nat.le_refl _) ?_; intro v396 w30 ho31 hb hg_ hnew_; clear hg_ hnew_; (first | rw [← Ny395.out] at ho31 | (simp only [Int.reduceToNat] at ho31; rw [← Ny395.out] at ho31)); replace HO_5 := aM (Kd.S_elder' (xS HO_5.out) (Kd.R_base ho31) hb); replace HO_10 := aM (Kd.V_elder' (xV HO_10.out) (Kd.R_base ho31) hb); have HO397 := aM (Kd.R_lower ho31 (below_size (xH HB.out))); replace HB := yS0 HB hb; clear hb ho31))
     go_loopg [15, 78] kj19 (fun kq v15 v78 w' => ∃ (x15_3 : Int) (x78_3 : Int), v15 = .int .i64 x15_3 ∧ v78 = .int .i64 x78_3 ∧ Aside0 (impl_balance.l3 kq t393 t390 x11_19 y395 x15_3 t390 (t390.length : Int) x78_3 = some (r1, r2)) ∧ Aside0 (kq ≤ kj19) ∧ Aside0 (Kd.S (Kd.slice 3 (Kd.int .i64)) 22 w' w.heap.size (fun k_ => some k_ ≠ (v396 : Value).ownBlock) (.slice Ao21 t393.length co21) t393) ∧ Aside0 (Kd.V (Kd.int .i64) 3 w' w.heap.size (fun k_ => some k_ ≠ ((.slice Ao21 t393.length co21) : Value).ownBlock ∧ some k_ ≠ (v396 : Value).ownBlock) (.slice Ao23 t390.length co23) t390) ∧ Aside0 (Kd.R (Kd.int .i64) 3 w' w.heap.size (fun _ => True) v396 y395) ∧ Aside0 (Kd.V (Kd.int .i64) 3 w' w.heap.size (fun k_ => some k_ ≠ ((.slice Ao21 t393.length co21) : Value).ownBlock ∧ some k_ ≠ (v396 : Value).ownBlock) (.slice Ao23 t390.length co23) t390) ∧ Aside0 (Below w.heap.size w w'))
     case atStart => exact ⟨(1), (0), yZ, yZ, H', ⟨Nat.le_refl _⟩, ⟨by (try simp only [hl5_19]); (with_reducible repeat (first | apply Kd.S_alloc | apply Kd.S_drewN | apply Kd.S_drew)); exact Kd.S_mono HO_5.out (fun _ hk => hk.2)⟩, ⟨by (try simp only [hl5_19]); (with_reducible repeat (first | apply Kd.V_alloc | apply Kd.V_drewN | apply Kd.V_drew)); exact HO_10.out⟩, ⟨by (try simp only [hl5_19]); (with_reducible repeat (first | apply rA | apply rN | apply rD)); exact HO397.out⟩, ⟨by (try simp only [hl5_19]); (with_reducible repeat (first | apply Kd.V_alloc | apply Kd.V_drewN | apply Kd.V_drew)); exact HO_10.out⟩, ⟨xH HB.out⟩⟩
     case round =>
      clear H'
      try clear c28; try clear c28b0; try clear c28b1; try clear c29; try clear c29b0; try clear c29b1
      obtain ⟨x15_3, x78_3, rfl, rfl, HA, HK3, HO_5, HO_10, HO_14, HO_76, HB⟩ := hrel
      cases gk with
      | zero => exact absurd HA.out (by simp [impl_balance.l3])
      | succ k3 =>
       have H := HA.out
       clear HA
       simp only [impl_balance.l3] at H
       by_cases c32 : x78_3 < (t390.length : Int)
       ·
        rw [if_pos c32] at H
        have c32b0 := decide_eq_true c32
        clear c32
        by_cases c33 : 0 ≤ x78_3
        rotate_left
        ·
         rw [if_neg c33] at H
         exact absurd H (by simp)
        rw [if_pos c33] at H
        have c33b0 := decide_eq_true c33
        clear c33
        by_cases c34 : x78_3 < (t390.length : Int)
        rotate_left
        ·
         rw [if_neg c34] at H
         exact absurd H (by simp)
        rw [if_pos c34] at H
        have c34b0 := decide_eq_true c34
        clear c34
        by_cases c35 : x78_3 < (t393.length : Int)
        rotate_left
        ·
         rw [if_neg c35] at H
         exact absurd H (by simp)
        rw [if_pos c35] at H
        have c35b0 := decide_eq_true c35
        clear c35
        by_cases c36 : 0 ≤ (rd t390 x78_3)
        rotate_left
        ·
         rw [if_neg c36] at H
         exact absurd H (by simp)
        rw [if_pos c36] at H
        have c36b0 := decide_eq_true c36
        clear c36
        by_cases c37 : (rd t390 x78_3) < ((rd_L1 t393 x78_3).length : Int)
        rotate_left
        ·
         rw [if_neg c37] at H
         exact absurd H (by simp)
        rw [if_pos c37] at H
        have c37b0 := decide_eq_true c37
        clear c37
        obtain ⟨y401, hy401⟩ := yE (([x15_3, rd (rd_L1 t393 x78_3) (rd t390 x78_3)] : List Int) : List Int)
        replace H : ((impl_divisor.f k3 y401).bind fun t404 => (if t404 = 0 then (none) else (impl_balance.l3 k3 t393 t390 x11_19 y395 (wrap64 ((wrap64 (Int.tdiv x15_3 t404)) * (mx (rd (rd_L1 t393 x78_3) (rd t390 x78_3)) (wrap64 (-(rd (rd_L1 t393 x78_3) (rd t390 x78_3))))))) t390 (t390.length : Int) (wrap64 (x78_3 + 1))))) = some (r1, r2) := yI hy401 H
        have Ny401 := aM hy401
        clear hy401
        replace H := oB.mp H
        obtain ⟨t404, A380, H⟩ := H
        have A38 := aM A380
        clear A380
        by_cases c39 : t404 = 0
        ·
         rw [if_pos c39] at H
         exact absurd H (by simp)
        rw [if_neg c39] at H
        have c39b0 : (t404 == 0) = false := beq_eq_false_iff_ne.mpr c39
        have c39b1 : (t404 != 0) = true := bne_iff_ne.mpr c39
        obtain ⟨ji40, hji40⟩ := yJ ((mx (rd (rd_L1 t393 x78_3) (rd t390 x78_3)) (wrap64 (-(rd (rd_L1 t393 x78_3) (rd t390 x78_3))))))
        (first | rw [hji40] at H | simp only [hji40] at H)
        (try rw [hji40] at A38)
        have hji40_ : (if (rd (rd_L1 t393 x78_3) (rd t390 x78_3)) < (wrap64 (-(rd (rd_L1 t393 x78_3) (rd t390 x78_3)))) then (wrap64 (-(rd (rd_L1 t393 x78_3) (rd t390 x78_3)))) else (rd (rd_L1 t393 x78_3) (rd t390 x78_3))) = ji40 := hji40
        have H' := aM H
        clear H
        have p398 : 0 ≤ (x78_3 : Int) := yA
        have q398 : x78_3 < (t390.length : Int) := yA
        obtain ⟨ad398, e398, hx398_0⟩ := Kd.at_int (Kd.V_reads' HO_76.out).2.2 x78_3 p398 q398
        cases e398
        replace p398 := eq_true p398
        replace q398 := eq_true q398
        try go_wp2
        replace HO_5 := aM (Kd.S_drew HO_5.out)
        replace HO_10 := aM (Kd.V_drew HO_10.out)
        replace HO_14 := aM (rD HO_14.out)
        replace HO_76 := aM (Kd.V_drew HO_76.out)
        replace HB := aM (eD HB.out)
        have p399 : 0 ≤ (x78_3 : Int) := yA
        have q399 : x78_3 < (t393.length : Int) := yA
        obtain ⟨ad399, A399_0, c399_0, e399, hx399_0, hl399_0, hi399_0⟩ := at_L1 (Kd.S_reads' HO_5.out).2.2 x78_3 p399 q399
        cases e399
        obtain ⟨ce399, hce399, hMe399, hcc399⟩ := Kd.S_get HO_5.out [] x78_3 p399 (by first | exact q399 | exact yA | (have e_ := (Kd.S_reads' HO_5.out).1; omega))
        obtain ⟨ve399_0, rfl, ge399_0⟩ := hMe399
        have hv399_0 := hcc399 0 _ rfl
        rw [Nat.add_zero, show ((Kd.slice 3 (Kd.int .i64))).sz = 1 from rfl, Nat.mul_one] at hv399_0
        replace hv399_0 := Option.some.inj (hv399_0.symm.trans hx399_0)
        rw [hv399_0] at ge399_0
        have HL399_0 := aM (show Kd.R (Kd.int .i64) 3 _ _ _ _ (rd_L1 t393 x78_3) from ge399_0)
        clear hv399_0 ge399_0 hcc399 hce399
        have HR399_0 := aM hi399_0
        have HC399_0 := aM hl399_0
        clear hi399_0 hl399_0
        replace p399 := eq_true p399
        replace q399 := eq_true q399
        have p400 : 0 ≤ ((rd t390 x78_3) : Int) := yA
        have q400 : (rd t390 x78_3) < ((rd_L1 t393 x78_3).length : Int) := yA
        obtain ⟨ad400, e400, hx400_0⟩ := Kd.at_int (by repeat (first | (with_reducible exact HR399_0.out) | (with_reducible refine Kd.C_alloc ?_ _) | (with_reducible refine Kd.C_drewN ?_ _) | (with_reducible refine Kd.C_drew ?_) | exact HR399_0.out)) (rd t390 x78_3) p400 q400
        cases e400
        replace p400 := eq_true p400
        replace q400 := eq_true q400
        have p405 : 0 ≤ (x78_3 : Int) := yA
        have q405 : x78_3 < (t393.length : Int) := yA
        obtain ⟨ad405, A405_0, c405_0, e405, hx405_0, hl405_0, hi405_0⟩ := at_L1 (Kd.S_reads' HO_5.out).2.2 x78_3 p405 q405
        obtain rfl : ad399 = ad405 := (by injection e405)
        obtain ⟨ce405, hce405, hMe405, hcc405⟩ := Kd.S_get HO_5.out [] x78_3 p405 (by first | exact q405 | exact yA | (have e_ := (Kd.S_reads' HO_5.out).1; omega))
        obtain ⟨ve405_0, rfl, ge405_0⟩ := hMe405
        have hv405_0 := hcc405 0 _ rfl
        rw [Nat.add_zero, show ((Kd.slice 3 (Kd.int .i64))).sz = 1 from rfl, Nat.mul_one] at hv405_0
        replace hv405_0 := Option.some.inj (hv405_0.symm.trans hx405_0)
        rw [hv405_0] at ge405_0
        have HL405_0 := aM (show Kd.R (Kd.int .i64) 3 _ _ _ _ (rd_L1 t393 x78_3) from ge405_0)
        clear hv405_0 ge405_0 hcc405 hce405
        have HR405_0 := aM hi405_0
        have HC405_0 := aM hl405_0
        clear hi405_0 hl405_0
        replace p405 := eq_true p405
        replace q405 := eq_true q405
        have ea_ := Option.some.inj (hx399_0.symm.trans hx405_0)
        injection ea_ with ea_ en_ ec_
        subst ea_
        subst ec_
        clear en_
        have p406 : 0 ≤ ((rd t390 x78_3) : Int) := yA
        have q406 : (rd t390 x78_3) < ((rd_L1 t393 x78_3).length : Int) := yA
        obtain ⟨ad406, e406, hx406_0⟩ := Kd.at_int (by repeat (first | (with_reducible exact HR405_0.out) | (with_reducible refine Kd.C_alloc ?_ _) | (with_reducible refine Kd.C_drewN ?_ _) | (with_reducible refine Kd.C_drew ?_) | exact HR405_0.out)) (rd t390 x78_3) p406 q406
        obtain rfl : ad400 = ad406 := (by injection e406)
        replace p406 := eq_true p406
        replace q406 := eq_true q406
        have p407 : 0 ≤ (x78_3 : Int) := yA
        have q407 : x78_3 < (t393.length : Int) := yA
        obtain ⟨ad407, A407_0, c407_0, e407, hx407_0, hl407_0, hi407_0⟩ := at_L1 (Kd.S_reads' HO_5.out).2.2 x78_3 p407 q407
        obtain rfl : ad399 = ad407 := (by injection e407)
        obtain ⟨ce407, hce407, hMe407, hcc407⟩ := Kd.S_get HO_5.out [] x78_3 p407 (by first | exact q407 | exact yA | (have e_ := (Kd.S_reads' HO_5.out).1; omega))
        obtain ⟨ve407_0, rfl, ge407_0⟩ := hMe407
        have hv407_0 := hcc407 0 _ rfl
        rw [Nat.add_zero, show ((Kd.slice 3 (Kd.int .i64))).sz = 1 from rfl, Nat.mul_one] at hv407_0
        replace hv407_0 := Option.some.inj (hv407_0.symm.trans hx407_0)
        rw [hv407_0] at ge407_0
        have HL407_0 := aM (show Kd.R (Kd.int .i64) 3 _ _ _ _ (rd_L1 t393 x78_3) from ge407_0)
        clear hv407_0 ge407_0 hcc407 hce407
        have HR407_0 := aM hi407_0
        have HC407_0 := aM hl407_0
        clear hi407_0 hl407_0
        replace p407 := eq_true p407
        replace q407 := eq_true q407
        have ea_ := Option.some.inj (hx399_0.symm.trans hx407_0)
        injection ea_ with ea_ en_ ec_
        subst ea_
        subst ec_
        clear en_
        have p408 : 0 ≤ ((rd t390 x78_3) : Int) := yA
        have q408 : (rd t390 x78_3) < ((rd_L1 t393 x78_3).length : Int) := yA
        obtain ⟨ad408, e408, hx408_0⟩ := Kd.at_int (by repeat (first | (with_reducible exact HR407_0.out) | (with_reducible refine Kd.C_alloc ?_ _) | (with_reducible refine Kd.C_drewN ?_ _) | (with_reducible refine Kd.C_drew ?_) | exact HR407_0.out)) (rd t390 x78_3) p408 q408
        obtain rfl : ad400 = ad408 := (by injection e408)
        replace p408 := eq_true p408
        replace q408 := eq_true q408
        refine start_ (n := 30) (S := fun w' => w'.cell? (ad399.add (x78_3).toNat) = some (.slice (some ad400) (rd_L1 t393 x78_3).length c399_0) ∧ w'.cell? (ad400.add ((rd t390 x78_3)).toNat) = some (.int .i64 (rd (rd_L1 t393 x78_3) (rd t390 x78_3))) ∧ w'.cell? (ad399.add (x78_3).toNat) = some (.slice (some ad400) (rd_L1 t393 x78_3).length c399_0) ∧ w'.cell? (ad400.add ((rd t390 x78_3)).toNat) = some (.int .i64 (rd (rd_L1 t393 x78_3) (rd t390 x78_3))) ∧ w'.cell? (ad399.add (x78_3).toNat) = some (.slice (some ad400) (rd_L1 t393 x78_3).length c399_0) ∧ w'.cell? (ad400.add ((rd t390 x78_3)).toNat) = some (.int .i64 (rd (rd_L1 t393 x78_3) (rd t390 x78_3)))) (ds := []) (bm 30 0) (by kernel_rfl) rfl rfl ⟨hx399_0, hx400_0, hx405_0, hx406_0, hx407_0, hx408_0⟩ (fun hHeld => ?_); refine with_tabW impl_balance.tab28 impl_balance.bits28 (fun HT_ HW_ => ?_)
        generalize wr.drew = w41 at HO_5 HO_10 HO_14 HO_76 HB HL399_0 HL405_0 HL407_0 HR399_0 HR405_0 HR407_0 hx399_0 hx400_0 hx405_0 hx406_0 hx407_0 hx408_0 hHeld ⊢
        refine yP 0 83 (bm 30 1) HT_ ?_
        refine yP 1 84 (bm 30 3) HT_ ?_
        refine yP 2 85 (bm 30 7) HT_ ?_
        refine yP 3 86 (bm 30 15) HT_ ?_
        refine yP 4 87 (bm 30 31) HT_ ?_
        refine yP 6 89 (bm 30 95) HT_ ?_
        refine yP 12 95 (bm 30 4191) HT_ ?_
        refine yP 13 96 (bm 30 12383) HT_ ?_
        refine yP 14 97 (bm 30 28767) HT_ ?_
        refine yP 16 99 (bm 30 94303) HT_ ?_
        refine yP 19 102 (bm 30 618591) HT_ ?_
        refine yP 20 103 (bm 30 1667167) HT_ ?_
        refine yP 21 104 (bm 30 3764319) HT_ ?_
        refine yP 23 106 (bm 30 12152927) HT_ ?_
        refine yT6 5 88 (bm 30 12152959) HT_ HW_ hHeld ?_
        refine yP 7 90 (bm 30 12153087) HT_ ?_
        refine yT6 8 91 (bm 30 12153343) HT_ HW_ hHeld ?_
        refine yT6 15 98 (bm 30 12186111) HT_ HW_ hHeld ?_
        refine yP 17 100 (bm 30 12317183) HT_ ?_
        refine yT6 18 101 (bm 30 12579327) HT_ HW_ hHeld ?_
        refine yT6 22 105 (bm 30 16773631) HT_ HW_ hHeld ?_
        refine yP 24 107 (bm 30 33550847) HT_ ?_
        refine yT6 25 108 (bm 30 67105279) HT_ HW_ hHeld ?_
        refine yP 26 109 (bm 30 134214143) HT_ ?_
        refine yP 27 110 (bm 30 268431871) HT_ ?_
        refine yO 9 92 (bm 30 268432383) HT_ (fun K hK => ?_)
        refine Kd.R_lit_step (Kd.int .i64) _ 3 ?hg (N := 92) ?hd (xs := ([x15_3, rd (rd_L1 t393 x78_3) (rd t390 x78_3)] : List Int)) (inner := [.int .i64 x15_3, .int .i64 (rd (rd_L1 t393 x78_3) (rd t390 x78_3))]) (ok := fun _ => True) (okp := fun _ => True) ?hr ?hp (fun _ hk => hk) trivial (Below.refl _ _) (Nat.le_refl _) (by simp) ?_; (case hd => rfl); (case hg => rfl); (case hr => first | (go_simp; done) | (go_simp; rfl)); (case hp => exact (Reps.one (show Kd.M (Kd.int .i64) _ _ _ x15_3 [.int .i64 x15_3] from rfl) (Reps.one (show Kd.M (Kd.int .i64) _ _ _ (rd (rd_L1 t393 x78_3) (rd t390 x78_3)) [.int .i64 (rd (rd_L1 t393 x78_3) (rd t390 x78_3))] from rfl) (Reps.none _ _))))
        intro v402 w42 ho43 hb hg_ hnew_
        have HS0_ := (hb.cell (World.block_lt_of_cell? _ _ (hHeld.1))).trans (hHeld.1)
        have HS1_ := (hb.cell (World.block_lt_of_cell? _ _ (hHeld.2.1))).trans (hHeld.2.1)
        have HS2_ := (hb.cell (World.block_lt_of_cell? _ _ (hHeld.2.2.1))).trans (hHeld.2.2.1)
        have HS3_ := (hb.cell (World.block_lt_of_cell? _ _ (hHeld.2.2.2.1))).trans (hHeld.2.2.2.1)
        have HS4_ := (hb.cell (World.block_lt_of_cell? _ _ (hHeld.2.2.2.2.1))).trans (hHeld.2.2.2.2.1)
        have HS5_ := (hb.cell (World.block_lt_of_cell? _ _ (hHeld.2.2.2.2.2))).trans (hHeld.2.2.2.2.2)
        clear hg_ hnew_
        (first | rw [← Ny401.out] at ho43 | (simp only [Int.reduceToNat] at ho43; rw [← Ny401.out] at ho43))
        replace HO_5 := aM (Kd.S_elder' (xS HO_5.out) (Kd.R_base ho43) hb)
        replace HO_10 := aM (Kd.V_elder' (xV HO_10.out) (Kd.R_base ho43) hb)
        replace HO_76 := aM (Kd.V_elder' (xV HO_76.out) (Kd.R_base ho43) hb)
        have HO403 := aM (Kd.R_lower (Kd.R_new' (Kd.R_new' (Kd.R_new' (Kd.R_new' ho43 (Kd.R_lt (xR HO_14.out))) (Kd.R_lt (xR HL399_0.out))) (Kd.R_lt (xR HL405_0.out))) (Kd.R_lt (xR HL407_0.out))) (below_size (xH HB.out)))
        replace HO_14 := aM (Kd.R_elder' (xR HO_14.out) (Kd.R_base ho43) hb)
        replace HL399_0 := aM (Kd.R_elder' (xR HL399_0.out) (Kd.R_base ho43) hb)
        replace HL405_0 := aM (Kd.R_elder' (xR HL405_0.out) (Kd.R_base ho43) hb)
        replace HL407_0 := aM (Kd.R_elder' (xR HL407_0.out) (Kd.R_base ho43) hb)
        replace HR399_0 := aM (Kd.C_below (by repeat (first | (with_reducible exact HR399_0.out) | (with_reducible refine Kd.C_alloc ?_ _) | (with_reducible refine Kd.C_drewN ?_ _) | (with_reducible refine Kd.C_drew ?_) | exact HR399_0.out)) hb)
        replace HR405_0 := aM (Kd.C_below (by repeat (first | (with_reducible exact HR405_0.out) | (with_reducible refine Kd.C_alloc ?_ _) | (with_reducible refine Kd.C_drewN ?_ _) | (with_reducible refine Kd.C_drew ?_) | exact HR405_0.out)) hb)
        replace HR407_0 := aM (Kd.C_below (by repeat (first | (with_reducible exact HR407_0.out) | (with_reducible refine Kd.C_alloc ?_ _) | (with_reducible refine Kd.C_drewN ?_ _) | (with_reducible refine Kd.C_drew ?_) | exact HR407_0.out)) hb)
        replace HB := yS0 HB hb
        clear hb ho43
        obtain ⟨Ao44, co44, eo44⟩ := Kd.R_slice HO403.out
        (first | subst eo44 | (injection eo44 with f1_ f2_ f3_; have f4_ := f1_.symm; have f5_ := f3_.symm; clear f1_ f2_ f3_; subst f4_; subst f5_))
        refine hK.out _ _ ⟨HS0_, HS1_, HS2_, HS3_, HS4_, HS5_⟩ (fun hHeld => ?_)
        clear hK K
        refine norm_ (a' := ?_) ?_ ?_
        rotate_left
        ·
         show Act.put _ (some 92) _ = _
         simp only [Act.put, sA, sZ, sU, i64_w, i32_w]
         rfl
        refine yO 10 93 (bm 30 268433407) HT_ (fun K hK => ?_)
        refine yG Try.func102 #[.slice Ao44 y401.length co44] ?_
        with_reducible refine (impl_divisor.calls k3 _ _ y401 t404 _ ?side1 ?side2 A38.out).mono ?_
        (case side1 => exact xC (Kd.R_reads' HO403.out).2.2)
        (case side2 => exact (Kd.R_reads' HO403.out).2.1)
        rintro e w45 ⟨rfl, hb⟩
        have HS0_ := (hb.cell (World.block_lt_of_cell? _ _ (hHeld.1))).trans (hHeld.1)
        have HS1_ := (hb.cell (World.block_lt_of_cell? _ _ (hHeld.2.1))).trans (hHeld.2.1)
        have HS2_ := (hb.cell (World.block_lt_of_cell? _ _ (hHeld.2.2.1))).trans (hHeld.2.2.1)
        have HS3_ := (hb.cell (World.block_lt_of_cell? _ _ (hHeld.2.2.2.1))).trans (hHeld.2.2.2.1)
        have HS4_ := (hb.cell (World.block_lt_of_cell? _ _ (hHeld.2.2.2.2.1))).trans (hHeld.2.2.2.2.1)
        have HS5_ := (hb.cell (World.block_lt_of_cell? _ _ (hHeld.2.2.2.2.2))).trans (hHeld.2.2.2.2.2)
        refine ⟨_, rfl, ?_⟩
        replace HO_5 := aM (Kd.S_below (xS HO_5.out) hb)
        replace HO_10 := aM (Kd.V_below (xV HO_10.out) hb)
        replace HO_14 := aM (Kd.R_below (xR HO_14.out) hb)
        replace HO_76 := aM (Kd.V_below (xV HO_76.out) hb)
        replace HL399_0 := aM (Kd.R_below (xR HL399_0.out) hb)
        replace HL405_0 := aM (Kd.R_below (xR HL405_0.out) hb)
        replace HL407_0 := aM (Kd.R_below (xR HL407_0.out) hb)
        replace HO403 := aM (Kd.R_below (xR HO403.out) hb)
        replace HR399_0 := aM (Kd.C_below (by repeat (first | (with_reducible exact HR399_0.out) | (with_reducible refine Kd.C_alloc ?_ _) | (with_reducible refine Kd.C_drewN ?_ _) | (with_reducible refine Kd.C_drew ?_) | exact HR399_0.out)) hb)
        replace HR405_0 := aM (Kd.C_below (by repeat (first | (with_reducible exact HR405_0.out) | (with_reducible refine Kd.C_alloc ?_ _) | (with_reducible refine Kd.C_drewN ?_ _) | (with_reducible refine Kd.C_drew ?_) | exact HR405_0.out)) hb)
        replace HR407_0 := aM (Kd.C_below (by repeat (first | (with_reducible exact HR407_0.out) | (with_reducible refine Kd.C_alloc ?_ _) | (with_reducible refine Kd.C_drewN ?_ _) | (with_reducible refine Kd.C_drew ?_) | exact HR407_0.out)) hb)
        replace HB := yS0 HB hb
        (try clear hb)
        (try clear hb2)
        (try clear hk)
        (try clear hi)
        refine hK.out _ _ ⟨HS0_, HS1_, HS2_, HS3_, HS4_, HS5_⟩ (fun hHeld => ?_)
        clear hK K
        refine norm_ (a' := ?_) ?_ ?_
        rotate_left
        ·
         show Act.put _ (some 93) _ = _
         simp only [Act.put, sA, sZ, sU, i64_w, i32_w]
         rfl
        refine yP 11 94 (bm 30 268435455) HT_ ?_
        refine yP 28 111 (bm 30 536870911) HT_ ?_
        refine yP 29 15 (bm 30 1073741823) HT_ ?_
        refine done_ (done_of HT_.out (by kernel_rfl)) ?_
        try go_wp2
        go_roundg k3
        case measure => have := HK1.out; have := HJ19.out; have := HK3.out; omega
        case rel => exact ⟨(wrap64 ((wrap64 (Int.tdiv x15_3 t404)) * (ji40))), (wrap64 (x78_3 + 1)), (by first | rfl | (simp; done) | (simp only [← hji40] <;> (first | rfl | simp)) | (simp [*]; done)), yZ, H', ⟨by have := HK1.out; have := HJ19.out; have := HK3.out; omega⟩, ⟨by (try simp only [hl5_19]); (with_reducible repeat (first | apply Kd.S_alloc | apply Kd.S_drewN | apply Kd.S_drew)); exact Kd.S_mono HO_5.out (fun _ hk => hk.1)⟩, ⟨by (try simp only [hl5_19]); (with_reducible repeat (first | apply Kd.V_alloc | apply Kd.V_drewN | apply Kd.V_drew)); exact Kd.V_mono HO_10.out (fun _ hk => ⟨hk.1.1, hk.1.2⟩)⟩, ⟨by (try simp only [hl5_19]); (with_reducible repeat (first | apply rA | apply rN | apply rD)); exact rM HO_14.out (fun _ hk => trivial)⟩, ⟨by (try simp only [hl5_19]); (with_reducible repeat (first | apply Kd.V_alloc | apply Kd.V_drewN | apply Kd.V_drew)); exact Kd.V_mono HO_76.out (fun _ hk => ⟨hk.1.1, hk.1.2⟩)⟩, ⟨xH HB.out⟩⟩
       rw [if_neg c32] at H
       have c32b0 := decide_eq_false c32
       clear c32
       by_cases c46 : 0 ≤ x11_19
       rotate_left
       ·
        rw [if_neg c46] at H
        exact absurd H (by simp)
       rw [if_pos c46] at H
       have c46b0 := decide_eq_true c46
       clear c46
       by_cases c47 : x11_19 < (y395.length : Int)
       rotate_left
       ·
        rw [if_neg c47] at H
        exact absurd H (by simp)
       rw [if_pos c47] at H
       have c47b0 := decide_eq_true c47
       clear c47
       obtain ⟨y409, hy409⟩ := yE (y395.set (x11_19 : Int).toNat x15_3 : List Int)
       replace H : (impl_balance.l4 k3 t393 x11_19 y409 x15_3 t390 (t390.length : Int) 0) = some (r1, r2) := yI hy409 H
       have Ny409 := aM hy409
       clear hy409
       have H' := aM H
       clear H
       have p48 : 0 ≤ (x11_19 : Int) := yA
       have q48 : (x11_19 : Int) < ((y395.length : Int) : Int) := yA
       obtain ⟨go48, co48, eo48, gb48, gl48, cl48, HG48⟩ := Kd.R_form HO_14.out (by omega)
       (first | cases eo48 | (injection eo48 with ea_ en_ ec_; (first | subst ea_ | (injection ea_ with ea_; subst ea_)); subst ec_; clear en_))
       have GB48 := aM gb48
       have GG48 := aM HG48
       clear gb48 gl48 HG48
       obtain ⟨hx48_0, hf48_0⟩ := Kd.R_celln 0 HO_14.out (x11_19 : Int) p48 q48
       replace p48 := eq_true p48
       replace q48 := eq_true q48
       have HP49 := Kd.R_putg HO_14.out (x11_19 : Int) x15_3
       go_wp2_with (first | ((with_reducible refine gate_store (t := 3) (p := 116) rfl ?_); refine store_event (t := 3) (p := 116) (v := ?vo_w50) (w1 := (wr.setCell ⟨go48, (x11_19 : Int).toNat, none⟩ (.int .i64 x15_3))) ?hg ?ho ?hn ?hr ?_; (case ho => rfl); (case hg => rfl); (case hn => rfl); (case hr => first | (go_simp; done) | (go_simp; rfl)); intro w50 hw; have hg : wr.grownBy w50 (some go48) := (by rw [hw]; exact HP49.2); have hp_ : Kd.R (Kd.int .i64) 3 w50 w.heap.size (fun _ => True) (.slice (some ⟨go48, 0, none⟩) y395.length co48) y409 := (by rw [hw, Ny409.out]; exact HP49.1); clear HP49; replace HO_5 := aM (Kd.S_after (v := (.slice (some ⟨go48, 0, none⟩) y395.length co48)) (v1 := (.slice (some ⟨go48, 0, none⟩) y395.length co48)) (ok := (fun _ => True)) (zS (Kd.S_mono HO_5.out (fun _ hk => ⟨trivial, hk⟩))) hg (.inl rfl)); replace HO_10 := aM (Kd.V_afterv (v := (.slice (some ⟨go48, 0, none⟩) y395.length co48)) (v1 := (.slice (some ⟨go48, 0, none⟩) y395.length co48)) (ok := (fun k_ => some k_ ≠ (.slice Ao21 t393.length co21 : Value).ownBlock)) (xV HO_10.out) hg (.inl rfl)); replace HO_14 := aM (hp_); replace HO_76 := aM (Kd.V_afterv (v := (.slice (some ⟨go48, 0, none⟩) y395.length co48)) (v1 := (.slice (some ⟨go48, 0, none⟩) y395.length co48)) (ok := (fun k_ => some k_ ≠ (.slice Ao21 t393.length co21 : Value).ownBlock)) (xV HO_76.out) hg (.inl rfl)); replace HB := aM ((by rw [hw]; exact eS (HB.out) GB48.out : Below w.heap.size w w50)); clear hg hw hp_))
       go_loopg [119] k3 (fun kq v119 w' => ∃ (x14_4 : List Int) (x119_4 : Int), v119 = .int .i64 x119_4 ∧ Aside0 (impl_balance.l4 kq t393 x11_19 x14_4 x15_3 t390 (t390.length : Int) x119_4 = some (r1, r2)) ∧ Aside0 (kq ≤ k3) ∧ Aside0 (Kd.S (Kd.slice 3 (Kd.int .i64)) 22 w' w.heap.size (fun k_ => some k_ ≠ ((.slice (some ⟨go48, 0, none⟩) y395.length co48) : Value).ownBlock) (.slice Ao21 t393.length co21) t393) ∧ Aside0 (Kd.R (Kd.int .i64) 3 w' w.heap.size (fun _ => True) (.slice (some ⟨go48, 0, none⟩) y395.length co48) x14_4) ∧ Aside0 (Kd.V (Kd.int .i64) 3 w' w.heap.size (fun k_ => some k_ ≠ ((.slice Ao21 t393.length co21) : Value).ownBlock ∧ some k_ ≠ ((.slice (some ⟨go48, 0, none⟩) y395.length co48) : Value).ownBlock) (.slice Ao23 t390.length co23) t390) ∧ Aside0 (Below w.heap.size w w'))
       case atStart => exact ⟨(y409), (0), yZ, H', ⟨Nat.le_refl _⟩, ⟨by (try simp only [hl5_19]); (with_reducible repeat (first | apply Kd.S_alloc | apply Kd.S_drewN | apply Kd.S_drew)); exact Kd.S_mono HO_5.out (fun _ hk => hk.2)⟩, ⟨by (try simp only [hl5_19]); (with_reducible repeat (first | apply rA | apply rN | apply rD)); exact HO_14.out⟩, ⟨by (try simp only [hl5_19]); (with_reducible repeat (first | apply Kd.V_alloc | apply Kd.V_drewN | apply Kd.V_drew)); exact HO_10.out⟩, ⟨xH HB.out⟩⟩
       case round =>
        clear H'
        try clear c32; try clear c32b0; try clear c33; try clear c33b0; try clear c34; try clear c34b0; try clear c35; try clear c35b0; try clear c36; try clear c36b0; try clear c37; try clear c37b0; try clear c39; try clear c39b0; try clear c39b1; try clear c46; try clear c46b0; try clear c47; try clear c47b0; try clear p48; try clear q48; try clear hx398_0; try clear hx399_0; try clear hx400_0; try clear hx405_0; try clear hx406_0; try clear hx407_0; try clear hx408_0; try clear hx48_0; try clear p398; try clear p399; try clear p400; try clear p405; try clear p406; try clear p407; try clear p408; try clear q398; try clear q399; try clear q400; try clear q405; try clear q406; try clear q407; try clear q408
        obtain ⟨x14_4, x119_4, rfl, HA, HK4, HO_5, HO_14, HO_117, HB⟩ := hrel
        have hl14_4 := (Kd.R_reads' HO_14.out).1
        rw [hl14_4] at HO_14
        (try simp only [hl14_4])
        (try simp only [hl14_4] at HO_5)
        (try simp only [hl14_4] at HO_117)
        cases gk with
        | zero => exact absurd HA.out (by simp [impl_balance.l4])
        | succ k4 =>
         have H := HA.out
         clear HA
         simp only [impl_balance.l4] at H
         by_cases c51 : x119_4 < (t390.length : Int)
         rotate_left
         ·
          rw [if_neg c51] at H
          have c51b0 := decide_eq_false c51
          clear c51
          replace H := oB.mp H
          obtain ⟨t416, A640, H⟩ := H
          have A64 := aM A640
          clear A640
          have H' := aM H
          clear H
          go_wp2_with (first | (refine yL 147 Try.func103 #[.slice (some ⟨go48, 0, none⟩) x14_4.length co48] ?_; (with_reducible refine (impl_shortened.calls k4 (fun k_ => some k_ = (.slice (some ⟨go48, 0, none⟩) x14_4.length co48 : Value).ownBlock) (.slice (some ⟨go48, 0, none⟩) x14_4.length co48) x14_4 t416 w _ ?side1 ?side2 A64.out).mono ?_); (case side1 => repeat (first | (with_reducible first | exact HB.out | apply eA | apply eN | apply eD) | exact HB.out)); (case side2 => exact Kd.R_tight rfl HO_14.out); rintro e w65 ⟨rfl, hy0, hb, hkp⟩; refine ⟨_, rfl, ?_⟩; replace HO_5 := aM (Kd.S_mono (ok' := fun k_ => some k_ ≠ (.slice (some ⟨go48, 0, none⟩) x14_4.length co48 : Value).ownBlock) (Kd.S_keptB (HO_5.out) hkp (fun k_ hk_ hs_ => (hk_) hs_)) (fun k_ hk_ => hk_.1)); replace HO_14 := aM (Kd.R_reok rfl hy0 (fun k_ e_ => HO_14.out.1 k_ e_)); replace HO_117 := aM (Kd.V_mono (ok' := fun k_ => some k_ ≠ (.slice Ao21 t393.length co21 : Value).ownBlock ∧ some k_ ≠ (.slice (some ⟨go48, 0, none⟩) x14_4.length co48 : Value).ownBlock) (Kd.V_keptB (HO_117.out) hkp (fun k_ hk_ hs_ => (hk_.2) hs_)) (fun k_ hk_ => ⟨hk_.1.1, hk_.1.2⟩)); replace HB := aM (hb); (try clear hb; try clear hkp; try clear hy0)))
          go_loopg [150] k4 (fun kq v150 w' => ∃ (x150_5 : Int), v150 = .int .i64 x150_5 ∧ Aside0 (impl_balance.l5 kq t416 t416 (x14_4.length : Int) x150_5 = some (r1, r2)) ∧ Aside0 (kq ≤ k4) ∧ Aside0 (Kd.R (Kd.int .i64) 3 w' w.heap.size (fun _ => True) (.slice (some ⟨go48, 0, none⟩) x14_4.length co48) t416) ∧ Aside0 (Kd.R (Kd.int .i64) 3 w' w.heap.size (fun _ => True) (.slice (some ⟨go48, 0, none⟩) x14_4.length co48) t416) ∧ Aside0 (Below w.heap.size w w'))
          case atStart => exact ⟨(0), yZ, H', ⟨Nat.le_refl _⟩, ⟨by (try simp only [hl5_19]); (try simp only [hl14_4]); (with_reducible repeat (first | apply rA | apply rN | apply rD)); exact HO_14.out⟩, ⟨by (try simp only [hl5_19]); (try simp only [hl14_4]); (with_reducible repeat (first | apply rA | apply rN | apply rD)); exact HO_14.out⟩, ⟨xH HB.out⟩⟩
          case round =>
           clear H'
           try clear c51; try clear c51b0; try clear c52; try clear c52b0; try clear c53; try clear c53b0; try clear c54; try clear c54b0; try clear c55; try clear c55b0; try clear c56; try clear c56b0; try clear c57; try clear c57b0; try clear c58; try clear c58b0; try clear c59; try clear c59b0; try clear c59b1; try clear c60; try clear c60b0; try clear p61; try clear q61; try clear hx410_0; try clear hx411_0; try clear hx412_0; try clear hx413_0; try clear hx414_0; try clear hx61_0; try clear p410; try clear p411; try clear p412; try clear p413; try clear p414; try clear q410; try clear q411; try clear q412; try clear q413; try clear q414
           obtain ⟨x150_5, rfl, HA, HK5, HO_14, HO_148, HB⟩ := hrel
           have hl14_5 := (Kd.R_reads' HO_14.out).1
           rw [hl14_5] at HO_14
           (try simp only [hl14_5])
           (try simp only [hl14_5] at HO_148)
           have hl148_5 := (Kd.R_reads' HO_148.out).1
           rw [hl148_5] at HO_148
           (try simp only [hl148_5])
           (try simp only [hl148_5] at HO_14)
           cases gk with
           | zero => exact absurd HA.out (by simp [impl_balance.l5])
           | succ k5 =>
            have H := HA.out
            clear HA
            simp only [impl_balance.l5] at H
            by_cases c66 : x150_5 < (x14_4.length : Int)
            rotate_left
            ·
             rw [if_neg c66] at H
             have c66b0 := decide_eq_false c66
             have c66b9 := c66b0
             (try simp only [hl148_5] at c66b9)
             have c66b8 := c66b0
             (try simp only [hl14_5] at c66b8)
             clear c66
             simp only [Option.some.injEq, Prod.mk.injEq] at H
             obtain ⟨rfl, rfl⟩ := H
             go_wp2
             go_ret2
             exact ⟨_, yF, xR HO_14.out, by repeat (first | (with_reducible first | exact HB.out | apply eA | apply eN | apply eD) | exact HB.out)⟩
            rw [if_pos c66] at H
            have c66b0 := decide_eq_true c66
            clear c66
            by_cases c67 : 0 ≤ x150_5
            rotate_left
            ·
             rw [if_neg c67] at H
             exact absurd H (by simp)
            rw [if_pos c67] at H
            have c67b0 := decide_eq_true c67
            clear c67
            by_cases c68 : x150_5 < (t416.length : Int)
            rotate_left
            ·
             rw [if_neg c68] at H
             exact absurd H (by simp)
            rw [if_pos c68] at H
            have c68b0 := decide_eq_true c68
            clear c68
            by_cases c69 : (rd t416 x150_5) ≤ 0
            ·
             rw [if_pos c69] at H
             have c69b0 := decide_eq_true c69
             clear c69
             simp only [Option.some.injEq, Prod.mk.injEq] at H
             obtain ⟨rfl, rfl⟩ := H
             have p417 : 0 ≤ (x150_5 : Int) := yA
             have q417 : x150_5 < (t416.length : Int) := yA
             obtain ⟨ad417, e417, hx417_0⟩ := Kd.at_int (Kd.R_reads' HO_148.out).2.2 x150_5 p417 q417
             obtain rfl : (⟨go48, 0, none⟩ : Addr) = ad417 := (by injection e417)
             (first | simp only [add_plain] at hx417_0 | simp only [add_at] at hx417_0 | simp only [Addr.add, Nat.zero_add] at hx417_0 | skip)
             replace p417 := eq_true p417
             replace q417 := eq_true q417
             go_wp2
             go_ret2
             exact ⟨_, yF, by first | exact Kd.R_nil _ _ _ _ _ | exact Kd.N_nil _ _ _ _ _ | exact Kd.V_nil _ _ _ _ _ | exact Kd.Q_nil _ _ _ _ _ | exact Kd.S_nil _ _ _ _ _, by repeat (first | (with_reducible first | exact HB.out | apply eA | apply eN | apply eD) | exact HB.out)⟩
            rw [if_neg c69] at H
            have c69b0 := decide_eq_false c69
            clear c69
            have H' := aM H
            clear H
            have p417 : 0 ≤ (x150_5 : Int) := yA
            have q417 : x150_5 < (t416.length : Int) := yA
            obtain ⟨ad417, e417, hx417_0⟩ := Kd.at_int (Kd.R_reads' HO_148.out).2.2 x150_5 p417 q417
            obtain rfl : (⟨go48, 0, none⟩ : Addr) = ad417 := (by injection e417)
            (first | simp only [add_plain] at hx417_0 | simp only [add_at] at hx417_0 | simp only [Addr.add, Nat.zero_add] at hx417_0 | skip)
            replace p417 := eq_true p417
            replace q417 := eq_true q417
            go_wp2
            (first | simp only [← hl14_5] | simp only [← hl148_5] | skip)
            go_roundg k5
            case measure => have := HK1.out; have := HJ19.out; have := HK3.out; have := HK4.out; have := HK5.out; omega
            case rel => exact ⟨(wrap64 (x150_5 + 1)), yZ, H', ⟨by have := HK1.out; have := HJ19.out; have := HK3.out; have := HK4.out; have := HK5.out; omega⟩, ⟨by (try simp only [hl5_19]); (try simp only [hl14_4]); (try simp only [hl14_5]); (try simp only [hl148_5]); (with_reducible repeat (first | apply rA | apply rN | apply rD)); exact HO_14.out⟩, ⟨by (try simp only [hl5_19]); (try simp only [hl14_4]); (try simp only [hl14_5]); (try simp only [hl148_5]); (with_reducible repeat (first | apply rA | apply rN | apply rD)); exact HO_148.out⟩, ⟨xH HB.out⟩⟩
         rw [if_pos c51] at H
         have c51b0 := decide_eq_true c51
         clear c51
         by_cases c52 : 0 ≤ x119_4
         rotate_left
         ·
          rw [if_neg c52] at H
          exact absurd H (by simp)
         rw [if_pos c52] at H
         have c52b0 := decide_eq_true c52
         clear c52
         by_cases c53 : x119_4 < (t390.length : Int)
         rotate_left
         ·
          rw [if_neg c53] at H
          exact absurd H (by simp)
         rw [if_pos c53] at H
         have c53b0 := decide_eq_true c53
         clear c53
         by_cases c54 : x119_4 < (t393.length : Int)
         rotate_left
         ·
          rw [if_neg c54] at H
          exact absurd H (by simp)
         rw [if_pos c54] at H
         have c54b0 := decide_eq_true c54
         clear c54
         by_cases c55 : 0 ≤ x11_19
         rotate_left
         ·
          rw [if_neg c55] at H
          exact absurd H (by simp)
         rw [if_pos c55] at H
         have c55b0 := decide_eq_true c55
         clear c55
         by_cases c56 : x11_19 < ((rd_L1 t393 x119_4).length : Int)
         rotate_left
         ·
          rw [if_neg c56] at H
          exact absurd H (by simp)
         rw [if_pos c56] at H
         have c56b0 := decide_eq_true c56
         clear c56
         by_cases c57 : 0 ≤ (rd t390 x119_4)
         rotate_left
         ·
          rw [if_neg c57] at H
          exact absurd H (by simp)
         rw [if_pos c57] at H
         have c57b0 := decide_eq_true c57
         clear c57
         by_cases c58 : (rd t390 x119_4) < ((rd_L1 t393 x119_4).length : Int)
         rotate_left
         ·
          rw [if_neg c58] at H
          exact absurd H (by simp)
         rw [if_pos c58] at H
         have c58b0 := decide_eq_true c58
         clear c58
         by_cases c59 : (rd (rd_L1 t393 x119_4) (rd t390 x119_4)) = 0
         ·
          rw [if_pos c59] at H
          exact absurd H (by simp)
         rw [if_neg c59] at H
         have c59b0 : ((rd (rd_L1 t393 x119_4) (rd t390 x119_4)) == 0) = false := beq_eq_false_iff_ne.mpr c59
         have c59b1 : ((rd (rd_L1 t393 x119_4) (rd t390 x119_4)) != 0) = true := bne_iff_ne.mpr c59
         by_cases c60 : (rd t390 x119_4) < (x14_4.length : Int)
         rotate_left
         ·
          rw [if_neg c60] at H
          exact absurd H (by simp)
         rw [if_pos c60] at H
         have c60b0 := decide_eq_true c60
         clear c60
         obtain ⟨y415, hy415⟩ := yE (x14_4.set ((rd t390 x119_4) : Int).toNat (wrap64 ((wrap64 (-(rd (rd_L1 t393 x119_4) x11_19))) * (wrap64 (Int.tdiv x15_3 (rd (rd_L1 t393 x119_4) (rd t390 x119_4)))))) : List Int)
         replace H : (impl_balance.l4 k4 t393 x11_19 y415 x15_3 t390 (t390.length : Int) (wrap64 (x119_4 + 1))) = some (r1, r2) := yI hy415 H
         have Ny415 := aM hy415
         clear hy415
         have H' := aM H
         clear H
         have p410 : 0 ≤ (x119_4 : Int) := yA
         have q410 : x119_4 < (t390.length : Int) := yA
         obtain ⟨ad410, e410, hx410_0⟩ := Kd.at_int (Kd.V_reads' HO_117.out).2.2 x119_4 p410 q410
         cases e410
         replace p410 := eq_true p410
         replace q410 := eq_true q410
         try go_wp2
         replace HO_5 := aM (Kd.S_drew HO_5.out)
         replace HO_14 := aM (rD HO_14.out)
         replace HO_117 := aM (Kd.V_drew HO_117.out)
         replace HB := aM (eD HB.out)
         have p411 : 0 ≤ (x119_4 : Int) := yA
         have q411 : x119_4 < (t393.length : Int) := yA
         obtain ⟨ad411, A411_0, c411_0, e411, hx411_0, hl411_0, hi411_0⟩ := at_L1 (Kd.S_reads' HO_5.out).2.2 x119_4 p411 q411
         cases e411
         obtain ⟨ce411, hce411, hMe411, hcc411⟩ := Kd.S_get HO_5.out [] x119_4 p411 (by first | exact q411 | exact yA | (have e_ := (Kd.S_reads' HO_5.out).1; omega))
         obtain ⟨ve411_0, rfl, ge411_0⟩ := hMe411
         have hv411_0 := hcc411 0 _ rfl
         rw [Nat.add_zero, show ((Kd.slice 3 (Kd.int .i64))).sz = 1 from rfl, Nat.mul_one] at hv411_0
         replace hv411_0 := Option.some.inj (hv411_0.symm.trans hx411_0)
         rw [hv411_0] at ge411_0
         have HL411_0 := aM (show Kd.R (Kd.int .i64) 3 _ _ _ _ (rd_L1 t393 x119_4) from ge411_0)
         clear hv411_0 ge411_0 hcc411 hce411
         have HR411_0 := aM hi411_0
         have HC411_0 := aM hl411_0
         clear hi411_0 hl411_0
         replace p411 := eq_true p411
         replace q411 := eq_true q411
         have p412 : 0 ≤ (x11_19 : Int) := yA
         have q412 : x11_19 < ((rd_L1 t393 x119_4).length : Int) := yA
         obtain ⟨ad412, e412, hx412_0⟩ := Kd.at_int (by repeat (first | (with_reducible exact HR411_0.out) | (with_reducible refine Kd.C_alloc ?_ _) | (with_reducible refine Kd.C_drewN ?_ _) | (with_reducible refine Kd.C_drew ?_) | exact HR411_0.out)) x11_19 p412 q412
         cases e412
         replace p412 := eq_true p412
         replace q412 := eq_true q412
         have p413 : 0 ≤ (x119_4 : Int) := yA
         have q413 : x119_4 < (t393.length : Int) := yA
         obtain ⟨ad413, A413_0, c413_0, e413, hx413_0, hl413_0, hi413_0⟩ := at_L1 (Kd.S_reads' HO_5.out).2.2 x119_4 p413 q413
         obtain rfl : ad411 = ad413 := (by injection e413)
         obtain ⟨ce413, hce413, hMe413, hcc413⟩ := Kd.S_get HO_5.out [] x119_4 p413 (by first | exact q413 | exact yA | (have e_ := (Kd.S_reads' HO_5.out).1; omega))
         obtain ⟨ve413_0, rfl, ge413_0⟩ := hMe413
         have hv413_0 := hcc413 0 _ rfl
         rw [Nat.add_zero, show ((Kd.slice 3 (Kd.int .i64))).sz = 1 from rfl, Nat.mul_one] at hv413_0
         replace hv413_0 := Option.some.inj (hv413_0.symm.trans hx413_0)
         rw [hv413_0] at ge413_0
         have HL413_0 := aM (show Kd.R (Kd.int .i64) 3 _ _ _ _ (rd_L1 t393 x119_4) from ge413_0)
         clear hv413_0 ge413_0 hcc413 hce413
         have HR413_0 := aM hi413_0
         have HC413_0 := aM hl413_0
         clear hi413_0 hl413_0
         replace p413 := eq_true p413
         replace q413 := eq_true q413
         have ea_ := Option.some.inj (hx411_0.symm.trans hx413_0)
         injection ea_ with ea_ en_ ec_
         subst ea_
         subst ec_
         clear en_
         have p414 : 0 ≤ ((rd t390 x119_4) : Int) := yA
         have q414 : (rd t390 x119_4) < ((rd_L1 t393 x119_4).length : Int) := yA
         obtain ⟨ad414, e414, hx414_0⟩ := Kd.at_int (by repeat (first | (with_reducible exact HR413_0.out) | (with_reducible refine Kd.C_alloc ?_ _) | (with_reducible refine Kd.C_drewN ?_ _) | (with_reducible refine Kd.C_drew ?_) | exact HR413_0.out)) (rd t390 x119_4) p414 q414
         obtain rfl : ad412 = ad414 := (by injection e414)
         replace p414 := eq_true p414
         replace q414 := eq_true q414
         have p61 : 0 ≤ ((rd t390 x119_4) : Int) := yA
         have q61 : ((rd t390 x119_4) : Int) < ((x14_4.length : Int) : Int) := yA
         obtain ⟨hx61_0, hf61_0⟩ := Kd.R_celln 0 HO_14.out ((rd t390 x119_4) : Int) p61 q61
         replace p61 := eq_true p61
         replace q61 := eq_true q61
         have HP63 := Kd.R_putn HO_14.out ((rd t390 x119_4) : Int) (wrap64 ((wrap64 (-(rd (rd_L1 t393 x119_4) x11_19))) * (wrap64 (Int.tdiv x15_3 (rd (rd_L1 t393 x119_4) (rd t390 x119_4))))))
         rw [← Ny415.out] at HP63
         have HQ63 := aM HP63
         clear HP63
         refine start_ (n := 22) (S := fun w' => w'.cell? (ad411.add (x119_4).toNat) = some (.slice (some ad412) (rd_L1 t393 x119_4).length c411_0) ∧ w'.cell? (ad412.add (x11_19).toNat) = some (.int .i64 (rd (rd_L1 t393 x119_4) x11_19)) ∧ w'.cell? (ad411.add (x119_4).toNat) = some (.slice (some ad412) (rd_L1 t393 x119_4).length c411_0) ∧ w'.cell? (ad412.add ((rd t390 x119_4)).toNat) = some (.int .i64 (rd (rd_L1 t393 x119_4) (rd t390 x119_4)))) (ds := [21]) (bm 22 0) (by kernel_rfl) rfl rfl ⟨hx411_0, hx412_0, hx413_0, hx414_0⟩ (fun hHeld => ?_); refine with_tabW impl_balance.tab34 impl_balance.bits34 (fun HT_ HW_ => ?_)
         generalize wr.drew = w62 at HO_5 HO_14 HO_117 HB HL411_0 HL413_0 HQ63 HR411_0 HR413_0 hf61_0 hx411_0 hx412_0 hx413_0 hx414_0 hx61_0 hHeld ⊢
         refine yP 0 124 (bm 22 1) HT_ ?_
         refine yP 1 125 (bm 22 3) HT_ ?_
         refine yP 2 126 (bm 22 7) HT_ ?_
         refine yP 3 127 (bm 22 15) HT_ ?_
         refine yP 4 128 (bm 22 31) HT_ ?_
         refine yP 6 130 (bm 22 95) HT_ ?_
         refine yP 10 134 (bm 22 1119) HT_ ?_
         refine yP 11 135 (bm 22 3167) HT_ ?_
         refine yP 12 136 (bm 22 7263) HT_ ?_
         refine yP 13 137 (bm 22 15455) HT_ ?_
         refine yP 15 139 (bm 22 48223) HT_ ?_
         refine yT4 5 129 (bm 22 48255) HT_ HW_ hHeld ?_
         refine yP 7 131 (bm 22 48383) HT_ ?_
         refine yT4 8 132 (bm 22 48639) HT_ HW_ hHeld ?_
         refine yP 9 133 (bm 22 49151) HT_ ?_
         refine yT4 14 138 (bm 22 65535) HT_ HW_ hHeld ?_
         refine yP 16 140 (bm 22 131071) HT_ ?_
         refine yT4 17 141 (bm 22 262143) HT_ HW_ hHeld ?_
         refine yP 18 142 (bm 22 524287) HT_ ?_
         refine yP 19 143 (bm 22 1048575) HT_ ?_
         refine yP 20 144 (bm 22 2097151) HT_ ?_
         refine last_ (i := 21) (N := none) (bm 22 4194303) rfl rfl (one_of HT_.out (by kernel_rfl)) (by decide) (fun K hK => ?_)
         refine skip_ (w1 := ?_) (by rfl) rfl ?_ ?_
         rotate_left
         ·
          go_simp
          rfl
         refine hK.out _ _ ?_
         clear hK K
         refine done_ (done_of HT_.out (by kernel_rfl)) ?_
         try go_wp2
         (try simp only [← hl14_4])
         go_roundg k4
         case measure => have := HK1.out; have := HJ19.out; have := HK3.out; have := HK4.out; omega
         case rel => exact ⟨(y415), (wrap64 (x119_4 + 1)), yZ, H', ⟨by have := HK1.out; have := HJ19.out; have := HK3.out; have := HK4.out; omega⟩, ⟨by (try simp only [hl5_19]); (try simp only [hl14_4]); (with_reducible repeat (first | apply Kd.S_alloc | apply Kd.S_drewN | apply Kd.S_drew)); exact Kd.S_mono (Kd.S_far (p := ⟨go48, ((rd t390 x119_4) : Int).toNat, none⟩) (Kd.S_mono HO_5.out (fun k_ hk => (⟨hk, fun e_ => hk (by rw [e_]; rfl)⟩ : _ ∧ k_ ≠ go48))) (fun _ hk => hk.2) (.int .i64 (wrap64 ((wrap64 (-(rd (rd_L1 t393 x119_4) x11_19))) * (wrap64 (Int.tdiv x15_3 (rd (rd_L1 t393 x119_4) (rd t390 x119_4)))))))) (fun _ hk => hk.1)⟩, ⟨by (try simp only [hl5_19]); (try simp only [hl14_4]); (with_reducible repeat (first | apply rA | apply rN | apply rD)); exact HQ63.out⟩, ⟨by (try simp only [hl5_19]); (try simp only [hl14_4]); (with_reducible repeat (first | apply Kd.V_alloc | apply Kd.V_drewN | apply Kd.V_drew)); exact Kd.V_mono (Kd.V_far (p := ⟨go48, ((rd t390 x119_4) : Int).toNat, none⟩) (Kd.V_mono HO_117.out (fun k_ hk => (⟨hk, fun e_ => hk.2 (by rw [e_]; rfl)⟩ : _ ∧ k_ ≠ go48))) (fun _ hk => hk.2) (.int .i64 (wrap64 ((wrap64 (-(rd (rd_L1 t393 x119_4) x11_19))) * (wrap64 (Int.tdiv x15_3 (rd (rd_L1 t393 x119_4) (rd t390 x119_4)))))))) (fun _ hk => ⟨hk.1.1, hk.1.2⟩)⟩, ⟨xG1 HB.out GB48.out⟩⟩
end Go.Proofs.Ytgidnmpppbkamaa.PFnExactPlaneClass
