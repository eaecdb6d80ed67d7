-- Laid for this claim by a program of the session's own (wip/tool/myprint.py).
import Derived.Test.YtkgekmpnbhomgaaMFnSidesx16
namespace Go.Proofs.Ytkgekmpnbhomgaa.PFnSides
open Go.RowKit Go.Proofs.YtkgekmpnbhomgaaW.PrintWords Go.Proofs.YtkgekmpnbhomgaaW.PrintLast Go.Proofs.YtkgekmpnbhomgaaW.PrintMore
attribute [local go_sem] max2_int min2_int max_two min_two max_three min_three max_four min_four
set_option linter.unusedVariables false
set_option maxHeartbeats 8000000
set_option maxRecDepth 100000
set_option linter.unusedSimpArgs false
mutual
def impl_balance.l0 : Nat → List (List Int) → Int → List (List Int) → Int → Int → Option (List Int × Bool)
  | 0, _, _, _, _, _ => none
  | k + 1, x0, x4, x5, x28, x29 => if x29 < x28 then (impl_balance.l1 k x0 x4 x5 x29 (([] : List Int)) x28 x29 x0 (x0.length : Int) 0) else ((impl_reduced.f k x5 x4).bind fun bt587 => (if (bt587.1.length : Int) = (wrap64 (x4 - 1)) then (impl_balance.l2 k x4 bt587.2 bt587.1 (wrap64 (x4 - 1)) bt587.1 (bt587.1.length : Int) 0) else (some (([] : List Int), false))))
def impl_balance.l1 : Nat → List (List Int) → Int → List (List Int) → Int → List Int → Int → Int → List (List Int) → Int → Int → Option (List Int × Bool)
  | 0, _, _, _, _, _, _, _, _, _, _ => none
  | k + 1, x0, x4, x5, x6, x7, x28, x29, x33, x34, x35 => if x35 < x34 then (if 0 ≤ x35 then (if x35 < (x33.length : Int) then (if 0 ≤ x6 then (if x6 < ((rd_L2 x33 x35).length : Int) then (if x7.length < 17592186044416 then (impl_balance.l1 k x0 x4 x5 x6 (x7 ++ [rd (rd_L2 x33 x35) x6]) x28 x29 x33 x34 (wrap64 (x35 + 1))) else (none)) else (none)) else (none)) else (none)) else (none)) else (if x5.length < 5864062014805 then (impl_balance.l0 k x0 x4 (x5 ++ [x7]) x28 (wrap64 (x29 + 1))) else (none))
def impl_balance.j3 : Nat → Int → List (List Int) → List Int → Int → Option (List Int × Bool)
  | 0, _, _, _, _ => none
  | k + 1, x4, x5, x10, x11 => if 0 ≤ x4 then (if (x4 : Int).toNat ≤ 35184372088832 then (impl_balance.l3 k x5 x10 x11 (List.replicate (x4 : Int).toNat 0) 1 x10 (x10.length : Int) 0) else (none)) else (none)
def impl_balance.l3 : Nat → List (List Int) → List Int → Int → List Int → Int → List Int → Int → Int → Option (List Int × Bool)
  | 0, _, _, _, _, _, _, _, _ => none
  | k + 1, x5, x10, x11, x14, x15, x76, x77, x78 => if x78 < x77 then (if 0 ≤ x78 then (if x78 < (x76.length : Int) then (if x78 < (x5.length : Int) then (if 0 ≤ (rd x76 x78) then (if (rd x76 x78) < ((rd_L2 x5 x78).length : Int) then ((impl_divisor.f k (([x15, rd (rd_L2 x5 x78) (rd x76 x78)] : List Int))).bind fun t601 => (if t601 = 0 then (none) else (impl_balance.l3 k x5 x10 x11 x14 (wrap64 ((wrap64 (Int.tdiv x15 t601)) * (mx (rd (rd_L2 x5 x78) (rd x76 x78)) (wrap64 (-(rd (rd_L2 x5 x78) (rd x76 x78))))))) x76 x77 (wrap64 (x78 + 1))))) else (none)) else (none)) else (none)) else (none)) else (none)) else (if 0 ≤ x11 then (if x11 < (x14.length : Int) then (impl_balance.l4 k x5 x11 (x14.set (x11 : Int).toNat x15) x15 x10 (x10.length : Int) 0) else (none)) else (none))
def impl_balance.l4 : Nat → List (List Int) → Int → List Int → Int → List Int → Int → Int → Option (List Int × Bool)
  | 0, _, _, _, _, _, _, _ => none
  | k + 1, x5, x11, x14, x15, x117, x118, x119 => if x119 < x118 then (if 0 ≤ x119 then (if x119 < (x117.length : Int) then (if x119 < (x5.length : Int) then (if 0 ≤ x11 then (if x11 < ((rd_L2 x5 x119).length : Int) then (if 0 ≤ (rd x117 x119) then (if (rd x117 x119) < ((rd_L2 x5 x119).length : Int) then (if (rd (rd_L2 x5 x119) (rd x117 x119)) = 0 then (none) else (if (rd x117 x119) < (x14.length : Int) then (impl_balance.l4 k x5 x11 (x14.set ((rd x117 x119) : Int).toNat (wrap64 ((wrap64 (-(rd (rd_L2 x5 x119) x11))) * (wrap64 (Int.tdiv x15 (rd (rd_L2 x5 x119) (rd x117 x119))))))) x15 x117 x118 (wrap64 (x119 + 1))) else (none))) else (none)) else (none)) else (none)) else (none)) else (none)) else (none)) else (none)) else ((impl_shortened.f k x14).bind fun t613 => (impl_balance.l5 k t613 t613 (x14.length : Int) 0))
def impl_balance.l5 : Nat → List Int → List Int → Int → Int → Option (List Int × Bool)
  | 0, _, _, _, _ => none
  | k + 1, x14, x148, x149, x150 => if x150 < x149 then (if 0 ≤ x150 then (if x150 < (x148.length : Int) then (if (rd x148 x150) ≤ 0 then (some (([] : List Int), false)) else (impl_balance.l5 k x14 x148 x149 (wrap64 (x150 + 1)))) else (none)) else (none)) else (some (x14, true))
def impl_balance.l2 : Nat → Int → List (List Int) → List Int → Int → List Int → Int → Int → Option (List Int × Bool)
  | 0, _, _, _, _, _, _, _ => none
  | k + 1, x4, x5, x10, x11, x62, x63, x64 => if x64 < x63 then (if 0 ≤ x64 then (if x64 < (x62.length : Int) then (if (rd x62 x64) = x64 then (impl_balance.l2 k x4 x5 x10 x11 x62 x63 (wrap64 (x64 + 1))) else (impl_balance.j3 k x4 x5 x10 x64)) else (none)) else (none)) else (impl_balance.j3 k x4 x5 x10 x11)
end
def impl_balance.f (k : Nat) (l0 : List (List Int)) : Option (List Int × Bool) := if 0 < (l0.length : Int) then (impl_balance.l0 k l0 (l0.length : Int) (([] : List (List Int))) ((rd_L2 l0 0).length : Int) 0) else (none)
def impl_balance.T28 : Bool × List (List Nat × List Nat) := (true, [([], []), ([], []), ([], []), ([], []), ([2, 3], [2, 3]), ([4], [4]), ([], []), ([5, 6], [5, 6]), ([7], [7]), ([1, 8], [1, 8]), ([9], [9]), ([0, 10], [0, 10]), ([], []), ([], []), ([12, 13], [12, 13]), ([14], [14]), ([], []), ([15, 16], [15, 16]), ([17], [17]), ([], []), ([], []), ([19, 20], [19, 20]), ([21], [21]), ([], []), ([22, 23], [22, 23]), ([24], [24]), ([25], [25]), ([18, 26], [18, 26]), ([11, 27], [11, 27]), ([28, 10, 0, 1, 2, 3, 4, 5, 6, 7, 8, 9, 10, 11, 12, 13, 14, 15, 16, 17, 18, 19, 20, 21, 22, 23, 24, 25, 26, 27, 28], [0, 1, 28])])
def impl_balance.B28 : List Nat := [0, 0, 0, 0, 12, 28, 0, 124, 252, 510, 1022, 2047, 0, 0, 12288, 28672, 0, 126976, 258048, 0, 0, 1572864, 3670016, 0, 16252928, 33030144, 66584576, 134213632, 268435455, 536870911]
theorem impl_balance.tab28 : rtab .any (opsOf Try.f120 28) = impl_balance.T28 := by kernel_rfl
theorem impl_balance.bits28 : waitsOk impl_balance.T28.2 impl_balance.B28 = true := by kernel_rfl
def impl_balance.T34 : Bool × List (List Nat × List Nat) := (true, [([], []), ([], []), ([], []), ([], []), ([2, 3], [2, 3]), ([4], [4]), ([], []), ([5, 6], [5, 6]), ([7], [7]), ([8], [8]), ([], []), ([], []), ([], []), ([11, 12], [11, 12]), ([13], [13]), ([], []), ([14, 15], [14, 15]), ([16], [16]), ([10, 17], [10, 17]), ([9, 18], [9, 18]), ([0, 1, 0, 1, 2, 3, 4, 5, 6, 7, 8, 9, 10, 11, 12, 13, 14, 15, 16, 17, 18, 19], [0, 1]), ([20, 19, 0, 1, 2, 3, 4, 5, 6, 7, 8, 9, 10, 11, 12, 13, 14, 15, 16, 17, 18, 19], [19, 20])])
def impl_balance.B34 : List Nat := [0, 0, 0, 0, 12, 28, 0, 124, 252, 508, 0, 0, 0, 6144, 14336, 0, 63488, 129024, 261120, 524284, 1048575, 2097151]
theorem impl_balance.tab34 : rtab .any (opsOf Try.f120 34) = impl_balance.T34 := by kernel_rfl
theorem impl_balance.bits34 : waitsOk impl_balance.T34.2 impl_balance.B34 = true := by kernel_rfl
theorem impl_balance.calls (k : Nat) (A0 : Option Addr) (c0 : Nat) (l0 : List (List Int)) (r1 : List Int) (r2 : Bool) (w : World) (hr0 : Kd.C (Kd.slice 3 (Kd.int .i64)) w A0 l0.length l0) (hc0 : l0.length ≤ c0) (h : impl_balance.f k l0 = some (r1, r2)) :
    Calls Try.prog 120 #[.slice A0 l0.length c0] w fun e w' => ∃ v0_ : Value, e = .returned (.tuple #[v0_, .bool r2]) ∧ Kd.R (Kd.int .i64) 3 w' w.heap.size (fun _ => True) v0_ r1 ∧ Below w.heap.size w w' := by
 have HR0 := aM hr0; have HC0 := aM hc0; clear hr0 hc0; have HB := aM (Below.refl w.heap.size w); have H : (if 0 < (l0.length : Int) then (impl_balance.l0 k l0 (l0.length : Int) (([] : List (List Int))) ((rd_L2 l0 0).length : Int) 0) else (none)) = some (r1, r2) := h; clear h; obtain ⟨y572, hy572⟩ := yE (([] : List (List Int)) : List (List Int)); replace H : (if 0 < (l0.length : Int) then (impl_balance.l0 k l0 (l0.length : Int) y572 ((rd_L2 l0 0).length : Int) 0) else (none)) = some (r1, r2) := yI hy572 H; have Ny572 := aM hy572; clear hy572; obtain ⟨c2, c2b0, H⟩ | ⟨c2, -, H⟩ := yif H
 rotate_left
 · exact absurd H (by simp)
 have c2b1 : decide (0 < l0.length) = true := decide_eq_true (by omega); clear c2; have H' := aM H; clear H; go_enter Try.func120, Try.ntmps120; go_wp2_with (first | ((with_reducible refine gate_dst (N := 24) rfl ?_); refine Kd.S_lit (Kd.slice 3 (Kd.int .i64)) _ 24 ?hg (N := 24) ?hd (xs := ([] : List (List Int))) (inner := []) (ok := fun _ => True) (okp := fun _ => True) ?hr ?hp (fun _ hk => hk) trivial (Below.refl _ _) (Nat.le_refl _) (by simp) ?_; (case hd => rfl); (case hg => rfl); (case hr => first | (go_simp; done) | (go_simp; rfl)); (case hp => exact (Reps.none _ _)); intro v573 w3 ho4 hb hg_ hnew_; clear hg_ hnew_; (first | rw [← Ny572.out] at ho4 | (simp only [Int.reduceToNat] at ho4; rw [← Ny572.out] at ho4)); have HO574 := aM (Kd.S_lower ho4 (below_size (xH HB.out))); replace HB := yS0 HB hb; clear hb ho4; have p575 : 0 ≤ (0 : Int) := (by omega); have q575 : 0 < (l0.length : Int) := yA; obtain ⟨ad575, A575_0, c575_0, e575, hx575_0, hl575_0, hi575_0⟩ := at_L2 HR0.out 0 p575 q575; cases e575; have qi575 : (0 < l0.length) = True := eq_true (by omega); (try rw [show ((0 : Int)).toNat = 0 from rfl] at hx575_0); (try rw [Addr.add_zero'] at hx575_0); replace hx575_0 := yc HB hx575_0; have HR575_0 := aM hi575_0; have HC575_0 := aM hl575_0; clear hi575_0 hl575_0; replace p575 := eq_true p575; replace q575 := eq_true q575)); go_loopg [5, 29] k (fun kq v5 v29 w' => ∃ (x5_1 : List (List Int)) (x29_1 : Int), v29 = .int .i64 x29_1 ∧ Aside0 (impl_balance.l0 kq l0 (l0.length : Int) x5_1 ((rd_L2 l0 0).length : Int) x29_1 = some (r1, r2)) ∧ Aside0 (kq ≤ k) ∧ Aside0 (Kd.S (Kd.slice 3 (Kd.int .i64)) 24 w' w.heap.size (fun _ => True) v5 x5_1) ∧ Aside0 (Below w.heap.size w w')); case atStart => exact ⟨(y572), (0), yZ, H', ⟨Nat.le_refl _⟩, ⟨xS HO574.out⟩, ⟨xH HB.out⟩⟩
 case round =>
  clear H'; try clear c2
  try clear c2b0
  try clear c2b1
  try clear hx575_0
  try clear p575
  try clear q575
  obtain ⟨x5_1, x29_1, rfl, HA, HK1, HO_5, HB⟩ := hrel; cases gk with
  | zero => exact absurd HA.out (by simp [impl_balance.l0])
  | succ k1 =>
   have H := HA.out; clear HA; simp only [impl_balance.l0] at H; obtain ⟨c5, c5b0, H⟩ | ⟨c5, c5b0, H⟩ := yif H
   ·
    clear c5; obtain ⟨y576, hy576⟩ := yE (([] : List Int) : List Int); replace H : (impl_balance.l1 k1 l0 (l0.length : Int) x5_1 x29_1 y576 ((rd_L2 l0 0).length : Int) x29_1 l0 (l0.length : Int) 0) = some (r1, r2) := yI hy576 H; have Ny576 := aM hy576; clear hy576; have H' := aM H; clear H; go_wp2_with (first | ((with_reducible refine gate_dst (N := 32) rfl ?_); refine Kd.R_lit (Kd.int .i64) _ 3 ?hg (N := 32) ?hd (xs := ([] : List Int)) (inner := []) (ok := fun _ => True) (okp := fun _ => True) ?hr ?hp (fun _ hk => hk) trivial (Below.refl _ _) (Nat.le_refl _) (by simp) ?_; (case hd => rfl); (case hg => rfl); (case hr => first | (go_simp; done) | (go_simp; rfl)); (case hp => exact (Reps.none _ _)); intro v577 w6 ho7 hb hg_ hnew_; clear hg_ hnew_; (first | rw [← Ny576.out] at ho7 | (simp only [Int.reduceToNat] at ho7; rw [← Ny576.out] at ho7)); replace HO_5 := aM (Kd.S_elder' (xS HO_5.out) (Kd.R_base ho7) hb); have HO578 := aM (Kd.R_lower ho7 (below_size (xH HB.out))); replace HB := yS0 HB hb; clear hb ho7)); go_loopg [7, 35] k1 (fun kq v7 v35 w' => ∃ (x7_2 : List Int) (x35_2 : Int), v35 = .int .i64 x35_2 ∧ Aside0 (impl_balance.l1 kq l0 (l0.length : Int) x5_1 x29_1 x7_2 ((rd_L2 l0 0).length : Int) x29_1 l0 (l0.length : Int) x35_2 = some (r1, r2)) ∧ Aside0 (kq ≤ k1) ∧ Aside0 (Kd.S (Kd.slice 3 (Kd.int .i64)) 24 w' w.heap.size (fun k_ => some k_ ≠ (v7 : Value).ownBlock) u5 x5_1) ∧ Aside0 (Kd.R (Kd.int .i64) 3 w' w.heap.size (fun _ => True) v7 x7_2) ∧ Aside0 (Below w.heap.size w w')); case atStart => exact ⟨(y576), (0), yZ, H', ⟨Nat.le_refl _⟩, ⟨zS (Kd.S_mono HO_5.out (fun _ hk => hk.2))⟩, ⟨xR HO578.out⟩, ⟨xH HB.out⟩⟩
    case round =>
     clear H'; try clear c5
     try clear c5b0
     obtain ⟨x7_2, x35_2, rfl, HA, HK2, HO_5, HO_7, HB⟩ := hrel; cases gk with
     | zero => exact absurd HA.out (by simp [impl_balance.l1])
     | succ k2 =>
      have H := HA.out; clear HA; simp only [impl_balance.l1] at H; obtain ⟨-, c8b0, H⟩ | ⟨-, c8b0, H⟩ := yif H
      rotate_left
      ·
       obtain ⟨c15, -, H⟩ | ⟨c15, -, H⟩ := yif H
       rotate_left
       · exact absurd H (by simp)
       have LMc15 := aM c15; clear c15; obtain ⟨y584, hy584⟩ := yE (x5_1 ++ [x7_2] : List (List Int)); replace H : (impl_balance.l0 k2 l0 (l0.length : Int) y584 ((rd_L2 l0 0).length : Int) (wrap64 (x29_1 + 1))) = some (r1, r2) := yI hy584 H; have Ny584 := aM hy584; clear hy584; have H' := aM H; clear H; obtain ⟨Ao17, co17, eo17⟩ := Kd.R_slice HO_7.out; subst eo17; go_wp2_with (first | ((with_reducible refine gate_builtin (b := .append) (xs := #[.tmp 47, .tmp 49]) rfl ?_); at_builtin; refine Kd.S_append (Kd.slice 3 (Kd.int .i64)) (w0 := w) w.heap.size rfl (.tmp 47) (.tmp 49) 34 24 (.slice none 0 0) 24 rfl Try.underlying34 info24 rfl (by decide) (by omega) u5 x5_1 x7_2 [.slice Ao17 x7_2.length co17] (fun _ => True) (fun k_ => some k_ = (.slice Ao17 x7_2.length co17 : Value).ownBlock) rfl rfl ?aP (fun k_ hk_ => ((rM (ok' := fun k_ => ((fun _ => True)) k_ ∧ some k_ ≠ (u5 : Value).ownBlock) (Kd.R_apart' (HO_7.out) (Kd.S_typed HO_5.out) (by decide)) (fun k_ hk => ⟨trivial, hk.2⟩))).1 k_ hk_.symm) ?aF ?aO ?aB ?aS ?aL ?_; (case aP => exact Kd.M_row (rM (Kd.R_tight rfl (rM (ok' := fun k_ => ((fun _ => True)) k_ ∧ some k_ ≠ (u5 : Value).ownBlock) (Kd.R_apart' (HO_7.out) (Kd.S_typed HO_5.out) (by decide)) (fun k_ hk => ⟨trivial, hk.2⟩))) (fun _ h_ => h_))); (case aB => exact (xH HB.out)); (case aF => exact (fun _ _ => trivial)); (case aO => exact (zS (Kd.S_mono HO_5.out (fun k_ hk => ⟨trivial, fun e_ => hk e_⟩)))); (case aS => exact (below_size (xH HB.out))); (case aL => have := LMc15.out; omega); intro v585 w16 ho hb hg hat; rw [← Ny584.out] at ho; replace HB := aM (hb); have HO586 := aM (ho); clear HO_5; clear HO_7; clear ho hb hg hat)); go_roundg k2; case measure => have := HK1.out; have := HK2.out; omega
       case rel => exact ⟨(y584), (wrap64 (x29_1 + 1)), yZ, H', ⟨by have := HK1.out; have := HK2.out; omega⟩, ⟨xS HO586.out⟩, ⟨xH HB.out⟩⟩
      obtain ⟨-, c9b0, H⟩ | ⟨c9, -, H⟩ := yif H
      rotate_left
      · exact absurd H (by simp)
      obtain ⟨-, c10b0, H⟩ | ⟨c10, -, H⟩ := yif H
      rotate_left
      · exact absurd H (by simp)
      obtain ⟨-, c11b0, H⟩ | ⟨c11, -, H⟩ := yif H
      rotate_left
      · exact absurd H (by simp)
      obtain ⟨-, c12b0, H⟩ | ⟨c12, -, H⟩ := yif H
      rotate_left
      · exact absurd H (by simp)
      obtain ⟨c13, -, H⟩ | ⟨c13, -, H⟩ := yif H
      rotate_left
      · exact absurd H (by simp)
      have LMc13 := aM c13; clear c13; obtain ⟨y581, hy581⟩ := yE (x7_2 ++ [rd (rd_L2 l0 x35_2) x29_1] : List Int); replace H : (impl_balance.l1 k2 l0 (l0.length : Int) x5_1 x29_1 y581 ((rd_L2 l0 0).length : Int) x29_1 l0 (l0.length : Int) (wrap64 (x35_2 + 1))) = some (r1, r2) := yI hy581 H; have Ny581 := aM hy581; clear hy581; have H' := aM H; clear H; have p579 : 0 ≤ (x35_2 : Int) := yA; have q579 : x35_2 < (l0.length : Int) := yA; obtain ⟨ad579, A579_0, c579_0, e579, hx579_0, hl579_0, hi579_0⟩ := at_L2 HR0.out x35_2 p579 q579; obtain rfl : ad575 = ad579 := (by injection e579)
      replace hx579_0 := yc HB hx579_0; have HR579_0 := aM hi579_0; have HC579_0 := aM hl579_0; clear hi579_0 hl579_0; replace p579 := eq_true p579; replace q579 := eq_true q579; obtain ⟨ad580, e580, hx580_0, p580, q580⟩ := yi HR579_0.out x29_1; cases e580
      replace hx580_0 := yc HB hx580_0; go_wp2_with (first | ((with_reducible refine gate_builtin (b := .append) (xs := #[.tmp 39, .tmp 44]) rfl ?_); at_builtin; refine Kd.R_append (Kd.int .i64) (w0 := w) w.heap.size rfl (.tmp 39) (.tmp 44) 24 3 (.int .i64 0) 8 rfl Try.underlying24 info3 rfl (by decide) (by omega) u7 x7_2 (rd (rd_L2 l0 x35_2) x29_1) [.int .i64 (rd (rd_L2 l0 x35_2) x29_1)] (fun _ => True) (fun _ => False) rfl rfl ?aP (fun _ hk => hk.elim) ?aF ?aO ?aB ?aS ?aL ?_; (case aP => exact rfl); (case aB => exact (xH HB.out)); (case aF => exact (fun _ _ => trivial)); (case aO => exact (xR HO_7.out)); (case aS => exact (below_size (xH HB.out))); (case aL => have := LMc13.out; omega); intro v582 w14 ho hb hg hat; rw [← Ny581.out] at ho; replace HO_5 := aM (Kd.S_after (ok := (fun _ => True)) (zS (Kd.S_mono HO_5.out (fun _ hk => ⟨trivial, hk⟩))) hg hat); replace HB := aM (hb); have HO583 := aM (ho); clear HO_7; clear ho hb hg hat)); go_roundg k2; case measure => have := HK1.out; have := HK2.out; omega
      case rel => exact ⟨(y581), (wrap64 (x35_2 + 1)), yZ, H', ⟨by have := HK1.out; have := HK2.out; omega⟩, ⟨zS (Kd.S_mono HO_5.out (fun _ hk => hk.2))⟩, ⟨xR HO583.out⟩, ⟨xH HB.out⟩⟩
   clear c5; replace H := oA H; obtain ⟨⟨t587, t590⟩, A18, H⟩ := H; (try dsimp only at H); obtain ⟨c19, -, H⟩ | ⟨c19, -, H⟩ := yif H
   rotate_left
   ·
    have c19b0 : ((t587.length : Int) == (wrap64 ((l0.length : Int) - 1))) = false := beq_eq_false_iff_ne.mpr c19; have c19b1 : ((t587.length : Int) != (wrap64 ((l0.length : Int) - 1))) = true := bne_iff_ne.mpr c19; simp only [Option.some.injEq, Prod.mk.injEq] at H; obtain ⟨rfl, rfl⟩ := H; obtain ⟨Ao70, co70, eo70⟩ := Kd.S_slice HO_5.out; subst eo70; go_wp2_with (first | (refine yL 54 Try.func122 #[.slice Ao70 x5_1.length co70, .int .i64 (l0.length : Int)] ?_; (with_reducible refine (impl_reduced.calls k1 (fun k_ => True) (.slice Ao70 x5_1.length co70) x5_1 (l0.length : Int) t587 t590 w _ ?side1 (xS HO_5.out) A18.out).mono ?_); (case side1 => repeat (first | (with_reducible first | exact HB.out | apply eA | apply eN | apply eD) | exact HB.out)); rintro e w71 ⟨v588, rfl, ho0, hy0, hb, hkp⟩; refine ⟨_, rfl, ?_⟩; replace HO_5 := aM (Kd.S_mono hy0 (fun _ _ => trivial)); have HO589 := aM (Kd.V_mono (ok' := fun k_ => some k_ ≠ (.slice Ao70 x5_1.length co70 : Value).ownBlock) ho0 (fun k_ hk_ => hk_.2)); replace HB := aM (hb); (try clear hb; try clear hkp; try clear ho0; try clear hy0); obtain ⟨Ao72, co72, eo72⟩ := Kd.V_slice HO589.out; subst eo72)); go_ret2; exact ⟨_, yF, yNi, xH HB.out⟩
   have c19b0 : ((t587.length : Int) == (wrap64 ((l0.length : Int) - 1))) = true := beq_iff_eq.mpr c19; have c19b1 : ((t587.length : Int) != (wrap64 ((l0.length : Int) - 1))) = false := bne_eq_false_iff_eq.mpr c19; clear c19; have HC20 := aM H; clear H; obtain ⟨Ao21, co21, eo21⟩ := Kd.S_slice HO_5.out; subst eo21; go_upto_block 4 with (first | (refine yL 54 Try.func122 #[.slice Ao21 x5_1.length co21, .int .i64 (l0.length : Int)] ?_; (with_reducible refine (impl_reduced.calls k1 (fun k_ => True) (.slice Ao21 x5_1.length co21) x5_1 (l0.length : Int) t587 t590 w _ ?side1 (xS HO_5.out) A18.out).mono ?_); (case side1 => repeat (first | (with_reducible first | exact HB.out | apply eA | apply eN | apply eD) | exact HB.out)); rintro e w22 ⟨v588, rfl, ho0, hy0, hb, hkp⟩; refine ⟨_, rfl, ?_⟩; replace HO_5 := aM (Kd.S_mono hy0 (fun _ _ => trivial)); have HO589 := aM (Kd.V_mono (ok' := fun k_ => some k_ ≠ (.slice Ao21 x5_1.length co21 : Value).ownBlock) ho0 (fun k_ hk_ => hk_.2)); replace HB := aM (hb); (try clear hb; try clear hkp; try clear ho0; try clear hy0); obtain ⟨Ao23, co23, eo23⟩ := Kd.V_slice HO589.out; subst eo23)); (try simp only [Act.put, sA, sZ, sU]); go_cut [11] (fun v11 wc => ∃ (kq : Nat) (x11_19 : Int), v11 = .int .i64 x11_19 ∧ Aside0 (impl_balance.j3 kq (l0.length : Int) t590 t587 x11_19 = some (r1, r2)) ∧ Aside0 (kq ≤ k1) ∧ Aside0 (Kd.S (Kd.slice 3 (Kd.int .i64)) 24 wc w.heap.size (fun _ => True) (.slice Ao21 x5_1.length co21) t590) ∧ Aside0 (Kd.V (Kd.int .i64) 3 wc w.heap.size (fun k_ => some k_ ≠ ((.slice Ao21 x5_1.length co21) : Value).ownBlock) (.slice Ao23 t587.length co23) t587) ∧ Aside0 (Below w.heap.size w wc))
   case first =>
    have H := HC20.out; clear HC20; have H' := aM H; clear H; go_wp2; go_loopg [11, 64] k1 (fun kq v11 v64 w' => ∃ (x11_2 : Int) (x64_2 : Int), v11 = .int .i64 x11_2 ∧ v64 = .int .i64 x64_2 ∧ Aside0 (impl_balance.l2 kq (l0.length : Int) t590 t587 x11_2 t587 (t587.length : Int) x64_2 = some (r1, r2)) ∧ Aside0 (kq ≤ k1) ∧ Aside0 (Kd.S (Kd.slice 3 (Kd.int .i64)) 24 w' w.heap.size (fun _ => True) (.slice Ao21 x5_1.length co21) t590) ∧ Aside0 (Kd.V (Kd.int .i64) 3 w' w.heap.size (fun k_ => some k_ ≠ ((.slice Ao21 x5_1.length co21) : Value).ownBlock) (.slice Ao23 t587.length co23) t587) ∧ Aside0 (Kd.V (Kd.int .i64) 3 w' w.heap.size (fun k_ => some k_ ≠ ((.slice Ao21 x5_1.length co21) : Value).ownBlock) (.slice Ao23 t587.length co23) t587) ∧ Aside0 (Below w.heap.size w w')); case atStart => exact ⟨(wrap64 ((l0.length : Int) - 1)), (0), yZ, yZ, H', ⟨Nat.le_refl _⟩, ⟨xS HO_5.out⟩, ⟨xV HO589.out⟩, ⟨xV HO589.out⟩, ⟨xH HB.out⟩⟩
    case round =>
     clear H'; try clear c5
     try clear c5b0
     try clear c8b0
     try clear c9
     try clear c9b0
     try clear c10
     try clear c10b0
     try clear c11
     try clear c11b0
     try clear c12
     try clear c12b0
     try clear c13
     try clear c15
     try clear c19
     try clear c19b0
     try clear c19b1
     try clear hx579_0
     try clear hx580_0
     try clear p579
     try clear p580
     try clear q579
     try clear q580
     obtain ⟨x11_2, x64_2, rfl, rfl, HA, HK2, HO_5, HO_10, HO_62, HB⟩ := hrel; have hl5_2 := (Kd.S_reads' HO_5.out).1; rw [hl5_2] at HO_5; (try simp only [hl5_2]); (try simp only [hl5_2] at HO_10); (try simp only [hl5_2] at HO_62); cases gk with
     | zero => exact absurd HA.out (by simp [impl_balance.l2])
     | succ k2 =>
      have H := HA.out; clear HA; simp only [impl_balance.l2] at H; obtain ⟨-, c24b0, H⟩ | ⟨-, c24b0, H⟩ := yif H
      rotate_left
      ·
       (first | rw [c24b0] | (simp only [i64_w, i32_w]; rw [c24b0]) | rw [c24b1] | skip); have H' := aM H; clear H; go_wp2; (try simp only [← hl5_2]); go_meet; case rel => exact ⟨_, (x11_2), yZ, H', ⟨by have := HK1.out; have := HK2.out; first | omega | exact Nat.le_refl _⟩, ⟨by (try simp only [hl5_2]); (with_reducible repeat (first | apply Kd.S_alloc | apply Kd.S_drewN | apply Kd.S_drew)); exact HO_5.out⟩, ⟨by (try simp only [hl5_2]); (with_reducible repeat (first | apply Kd.V_alloc | apply Kd.V_drewN | apply Kd.V_drew)); exact HO_10.out⟩, ⟨xH HB.out⟩⟩
      (first | rw [c24b0] | (simp only [i64_w, i32_w]; rw [c24b0]) | rw [c24b1] | skip); obtain ⟨-, c25b0, H⟩ | ⟨c25, -, H⟩ := yif H
      rotate_left
      · exact absurd H (by simp)
      obtain ⟨-, c26b0, H⟩ | ⟨c26, -, H⟩ := yif H
      rotate_left
      · exact absurd H (by simp)
      obtain ⟨c27, -, H⟩ | ⟨c27, -, H⟩ := yif H
      rotate_left
      ·
       have c27b0 : ((rd t587 x64_2) == x64_2) = false := beq_eq_false_iff_ne.mpr c27; have c27b1 : ((rd t587 x64_2) != x64_2) = true := bne_iff_ne.mpr c27; have H' := aM H; clear H; obtain ⟨ad591, e591, hx591_0, p591, q591⟩ := yi (Kd.V_reads' HO_62.out).2.2 x64_2; cases e591
       go_wp2; (try simp only [← hl5_2]); go_meet; case rel => exact ⟨_, (x64_2), yZ, H', ⟨by have := HK1.out; have := HK2.out; first | omega | exact Nat.le_refl _⟩, ⟨by (try simp only [hl5_2]); (with_reducible repeat (first | apply Kd.S_alloc | apply Kd.S_drewN | apply Kd.S_drew)); exact HO_5.out⟩, ⟨by (try simp only [hl5_2]); (with_reducible repeat (first | apply Kd.V_alloc | apply Kd.V_drewN | apply Kd.V_drew)); exact HO_10.out⟩, ⟨xH HB.out⟩⟩
      have c27b0 : ((rd t587 x64_2) == x64_2) = true := beq_iff_eq.mpr c27; have c27b1 : ((rd t587 x64_2) != x64_2) = false := bne_eq_false_iff_eq.mpr c27; clear c27; have H' := aM H; clear H; obtain ⟨ad591, e591, hx591_0, p591, q591⟩ := yi (Kd.V_reads' HO_62.out).2.2 x64_2; cases e591
      go_wp2; (try simp only [← hl5_2]); go_roundg k2; case measure => have := HK1.out; have := HK2.out; omega
      case rel => exact ⟨(x11_2), (wrap64 (x64_2 + 1)), yZ, yZ, H', ⟨by have := HK1.out; have := HK2.out; omega⟩, ⟨by (try simp only [hl5_2]); (with_reducible repeat (first | apply Kd.S_alloc | apply Kd.S_drewN | apply Kd.S_drew)); exact HO_5.out⟩, ⟨by (try simp only [hl5_2]); (with_reducible repeat (first | apply Kd.V_alloc | apply Kd.V_drewN | apply Kd.V_drew)); exact HO_10.out⟩, ⟨by (try simp only [hl5_2]); (with_reducible repeat (first | apply Kd.V_alloc | apply Kd.V_drewN | apply Kd.V_drew)); exact HO_62.out⟩, ⟨xH HB.out⟩⟩
   case rest =>
    clear HC20; try clear c5
    try clear c5b0
    try clear c8b0
    try clear c9
    try clear c9b0
    try clear c10
    try clear c10b0
    try clear c11
    try clear c11b0
    try clear c12
    try clear c12b0
    try clear c13
    try clear c15
    try clear c19
    try clear c19b0
    try clear c19b1
    try clear c24b0
    try clear c25
    try clear c25b0
    try clear c26
    try clear c26b0
    try clear c27
    try clear c27b0
    try clear c27b1
    try clear hx579_0
    try clear hx580_0
    try clear hx591_0
    try clear p579
    try clear p580
    try clear p591
    try clear q579
    try clear q580
    try clear q591
    obtain ⟨kq, x11_19, rfl, HA, HJ19, HO_5, HO_10, HB⟩ := hcut; have hl5_19 := (Kd.S_reads' HO_5.out).1; rw [hl5_19] at HO_5; (try simp only [hl5_19]); (try simp only [hl5_19] at HO_10); cases kq with
    | zero => exact absurd HA.out (by simp [impl_balance.j3])
    | succ kj19 =>
     have H := HA.out; clear HA; simp only [impl_balance.j3] at H; obtain ⟨c28, -, H⟩ | ⟨c28, -, H⟩ := yif H
     rotate_left
     · exact absurd H (by simp)
     have c28b0 := eq_true c28; have c28b1 : decide (0 ≤ (l0.length : Int)) = true := decide_eq_true c28; clear c28; obtain ⟨c29, -, H⟩ | ⟨c29, -, H⟩ := yif H
     rotate_left
     · exact absurd H (by simp)
     have c29b0 := eq_true c29; have c29b1 : decide (((l0.length : Int) : Int).toNat ≤ 35184372088832) = true := decide_eq_true c29; clear c29; obtain ⟨y592, hy592⟩ := yE (List.replicate ((l0.length : Int) : Int).toNat 0 : List Int); replace H : (impl_balance.l3 kj19 t590 t587 x11_19 y592 1 t587 (t587.length : Int) 0) = some (r1, r2) := yI hy592 H; have Ny592 := aM hy592; clear hy592; have H' := aM H; clear H; go_wp2_with (first | ((with_reducible refine gate_dst (N := 75) rfl ?_); refine Kd.R_make (Kd.int .i64) _ 3 rfl (N := 75) rfl 24 _ _ rfl (l0.length : Int) rfl rfl Try.underlying24 (.int .i64 0) 8 info3 rfl (by decide) (by omega) 0 (ok := fun _ => True) (okp := fun _ => True) rfl (fun _ hk => hk) trivial (yA) (Nat.le_trans (Nat.mul_le_mul_right _ (yA : (l0.length : Int).toNat ≤ 35184372088832)) (by omega)) (Below.refl _ _) (Nat.le_refl _) ?_; intro v593 w30 ho31 hb hg_ hnew_; clear hg_ hnew_; (first | rw [← Ny592.out] at ho31 | (simp only [Int.reduceToNat] at ho31; rw [← Ny592.out] at ho31)); replace HO_5 := aM (Kd.S_elder' (xS HO_5.out) (Kd.R_base ho31) hb); replace HO_10 := aM (Kd.V_elder' (xV HO_10.out) (Kd.R_base ho31) hb); have HO594 := aM (Kd.R_lower ho31 (below_size (xH HB.out))); replace HB := yS0 HB hb; clear hb ho31)); go_loopg [15, 78] kj19 (fun kq v15 v78 w' => ∃ (x15_3 : Int) (x78_3 : Int), v15 = .int .i64 x15_3 ∧ v78 = .int .i64 x78_3 ∧ Aside0 (impl_balance.l3 kq t590 t587 x11_19 y592 x15_3 t587 (t587.length : Int) x78_3 = some (r1, r2)) ∧ Aside0 (kq ≤ kj19) ∧ Aside0 (Kd.S (Kd.slice 3 (Kd.int .i64)) 24 w' w.heap.size (fun k_ => some k_ ≠ (v593 : Value).ownBlock) (.slice Ao21 t590.length co21) t590) ∧ Aside0 (Kd.V (Kd.int .i64) 3 w' w.heap.size (fun k_ => some k_ ≠ ((.slice Ao21 t590.length co21) : Value).ownBlock ∧ some k_ ≠ (v593 : Value).ownBlock) (.slice Ao23 t587.length co23) t587) ∧ Aside0 (Kd.R (Kd.int .i64) 3 w' w.heap.size (fun _ => True) v593 y592) ∧ Aside0 (Kd.V (Kd.int .i64) 3 w' w.heap.size (fun k_ => some k_ ≠ ((.slice Ao21 t590.length co21) : Value).ownBlock ∧ some k_ ≠ (v593 : Value).ownBlock) (.slice Ao23 t587.length co23) t587) ∧ Aside0 (Below w.heap.size w w')); case atStart => exact ⟨(1), (0), yZ, yZ, H', ⟨Nat.le_refl _⟩, ⟨by (try simp only [hl5_19]); (with_reducible repeat (first | apply Kd.S_alloc | apply Kd.S_drewN | apply Kd.S_drew)); exact Kd.S_mono HO_5.out (fun _ hk => hk.2)⟩, ⟨by (try simp only [hl5_19]); (with_reducible repeat (first | apply Kd.V_alloc | apply Kd.V_drewN | apply Kd.V_drew)); exact HO_10.out⟩, ⟨by (try simp only [hl5_19]); (with_reducible repeat (first | apply rA | apply rN | apply rD)); exact HO594.out⟩, ⟨by (try simp only [hl5_19]); (with_reducible repeat (first | apply Kd.V_alloc | apply Kd.V_drewN | apply Kd.V_drew)); exact HO_10.out⟩, ⟨xH HB.out⟩⟩
     case round =>
      clear H'; try clear c28
      try clear c28b0
      try clear c28b1
      try clear c29
      try clear c29b0
      try clear c29b1
      obtain ⟨x15_3, x78_3, rfl, rfl, HA, HK3, HO_5, HO_10, HO_14, HO_76, HB⟩ := hrel; cases gk with
      | zero => exact absurd HA.out (by simp [impl_balance.l3])
      | succ k3 =>
       have H := HA.out; clear HA; simp only [impl_balance.l3] at H; obtain ⟨-, c32b0, H⟩ | ⟨c32, c32b0, H⟩ := yif H
       ·
        obtain ⟨-, c33b0, H⟩ | ⟨c33, -, H⟩ := yif H
        rotate_left
        · exact absurd H (by simp)
        obtain ⟨-, c34b0, H⟩ | ⟨c34, -, H⟩ := yif H
        rotate_left
        · exact absurd H (by simp)
        obtain ⟨-, c35b0, H⟩ | ⟨c35, -, H⟩ := yif H
        rotate_left
        · exact absurd H (by simp)
        obtain ⟨-, c36b0, H⟩ | ⟨c36, -, H⟩ := yif H
        rotate_left
        · exact absurd H (by simp)
        obtain ⟨-, c37b0, H⟩ | ⟨c37, -, H⟩ := yif H
        rotate_left
        · exact absurd H (by simp)
        obtain ⟨y598, hy598⟩ := yE (([x15_3, rd (rd_L2 t590 x78_3) (rd t587 x78_3)] : List Int) : List Int); replace H : ((impl_divisor.f k3 y598).bind fun t601 => (if t601 = 0 then (none) else (impl_balance.l3 k3 t590 t587 x11_19 y592 (wrap64 ((wrap64 (Int.tdiv x15_3 t601)) * (mx (rd (rd_L2 t590 x78_3) (rd t587 x78_3)) (wrap64 (-(rd (rd_L2 t590 x78_3) (rd t587 x78_3))))))) t587 (t587.length : Int) (wrap64 (x78_3 + 1))))) = some (r1, r2) := yI hy598 H; have Ny598 := aM hy598; clear hy598; replace H := oA H; obtain ⟨t601, A38, H⟩ := H; obtain ⟨c39, -, H⟩ | ⟨c39, -, H⟩ := yif H
        · exact absurd H (by simp)
        have c39b0 : (t601 == 0) = false := beq_eq_false_iff_ne.mpr c39; have c39b1 : (t601 != 0) = true := bne_iff_ne.mpr c39; obtain ⟨ji40, hji40⟩ := yJ ((mx (rd (rd_L2 t590 x78_3) (rd t587 x78_3)) (wrap64 (-(rd (rd_L2 t590 x78_3) (rd t587 x78_3)))))); (first | rw [hji40] at H | simp only [hji40] at H); (try rw [hji40] at A38); have hji40_ : (if (rd (rd_L2 t590 x78_3) (rd t587 x78_3)) < (wrap64 (-(rd (rd_L2 t590 x78_3) (rd t587 x78_3)))) then (wrap64 (-(rd (rd_L2 t590 x78_3) (rd t587 x78_3)))) else (rd (rd_L2 t590 x78_3) (rd t587 x78_3))) = ji40 := hji40; have H' := aM H; clear H; obtain ⟨ad595, e595, hx595_0, p595, q595⟩ := yi (Kd.V_reads' HO_76.out).2.2 x78_3; cases e595
        try go_wp2
        replace HO_5 := aM (Kd.S_drew HO_5.out); replace HO_10 := aM (Kd.V_drew HO_10.out); replace HO_14 := aM (rD HO_14.out); replace HO_76 := aM (Kd.V_drew HO_76.out); replace HB := aM (eD HB.out); have p596 : 0 ≤ (x78_3 : Int) := yA; have q596 : x78_3 < (t590.length : Int) := yA; obtain ⟨ad596, A596_0, c596_0, e596, hx596_0, hl596_0, hi596_0⟩ := at_L2 (Kd.S_reads' HO_5.out).2.2 x78_3 p596 q596; cases e596
        obtain ⟨ce596, hce596, hMe596, hcc596⟩ := Kd.S_get HO_5.out [] x78_3 p596 (by first | exact q596 | exact yA | (have e_ := (Kd.S_reads' HO_5.out).1; omega)); obtain ⟨ve596_0, rfl, ge596_0⟩ := hMe596; have hv596_0 := hcc596 0 _ rfl; rw [Nat.add_zero, show ((Kd.slice 3 (Kd.int .i64))).sz = 1 from rfl, Nat.mul_one] at hv596_0; replace hv596_0 := Option.some.inj (hv596_0.symm.trans hx596_0); rw [hv596_0] at ge596_0; have HL596_0 := aM (show Kd.R (Kd.int .i64) 3 _ _ _ _ (rd_L2 t590 x78_3) from ge596_0); clear hv596_0 ge596_0; clear hcc596 hce596; have HR596_0 := aM hi596_0; have HC596_0 := aM hl596_0; clear hi596_0 hl596_0; replace p596 := eq_true p596; replace q596 := eq_true q596; obtain ⟨ad597, e597, hx597_0, p597, q597⟩ := yi (by repeat (first | (with_reducible exact HR596_0.out) | (with_reducible refine Kd.C_alloc ?_ _) | (with_reducible refine Kd.C_drewN ?_ _) | (with_reducible refine Kd.C_drew ?_) | exact HR596_0.out)) (rd t587 x78_3); cases e597
        have p602 : 0 ≤ (x78_3 : Int) := yA; have q602 : x78_3 < (t590.length : Int) := yA; obtain ⟨ad602, A602_0, c602_0, e602, hx602_0, hl602_0, hi602_0⟩ := at_L2 (Kd.S_reads' HO_5.out).2.2 x78_3 p602 q602; obtain rfl : ad596 = ad602 := (by injection e602)
        obtain ⟨ce602, hce602, hMe602, hcc602⟩ := Kd.S_get HO_5.out [] x78_3 p602 (by first | exact q602 | exact yA | (have e_ := (Kd.S_reads' HO_5.out).1; omega)); obtain ⟨ve602_0, rfl, ge602_0⟩ := hMe602; have hv602_0 := hcc602 0 _ rfl; rw [Nat.add_zero, show ((Kd.slice 3 (Kd.int .i64))).sz = 1 from rfl, Nat.mul_one] at hv602_0; replace hv602_0 := Option.some.inj (hv602_0.symm.trans hx602_0); rw [hv602_0] at ge602_0; have HL602_0 := aM (show Kd.R (Kd.int .i64) 3 _ _ _ _ (rd_L2 t590 x78_3) from ge602_0); clear hv602_0 ge602_0; clear hcc602 hce602; have HR602_0 := aM hi602_0; have HC602_0 := aM hl602_0; clear hi602_0 hl602_0; replace p602 := eq_true p602; replace q602 := eq_true q602; have ea_ := Option.some.inj (hx596_0.symm.trans hx602_0); injection ea_ with ea_ en_ ec_; subst ea_; subst ec_; clear en_; obtain ⟨ad603, e603, hx603_0, p603, q603⟩ := yi (by repeat (first | (with_reducible exact HR602_0.out) | (with_reducible refine Kd.C_alloc ?_ _) | (with_reducible refine Kd.C_drewN ?_ _) | (with_reducible refine Kd.C_drew ?_) | exact HR602_0.out)) (rd t587 x78_3); obtain rfl : ad597 = ad603 := (by injection e603)
        have p604 : 0 ≤ (x78_3 : Int) := yA; have q604 : x78_3 < (t590.length : Int) := yA; obtain ⟨ad604, A604_0, c604_0, e604, hx604_0, hl604_0, hi604_0⟩ := at_L2 (Kd.S_reads' HO_5.out).2.2 x78_3 p604 q604; obtain rfl : ad596 = ad604 := (by injection e604)
        obtain ⟨ce604, hce604, hMe604, hcc604⟩ := Kd.S_get HO_5.out [] x78_3 p604 (by first | exact q604 | exact yA | (have e_ := (Kd.S_reads' HO_5.out).1; omega)); obtain ⟨ve604_0, rfl, ge604_0⟩ := hMe604; have hv604_0 := hcc604 0 _ rfl; rw [Nat.add_zero, show ((Kd.slice 3 (Kd.int .i64))).sz = 1 from rfl, Nat.mul_one] at hv604_0; replace hv604_0 := Option.some.inj (hv604_0.symm.trans hx604_0); rw [hv604_0] at ge604_0; have HL604_0 := aM (show Kd.R (Kd.int .i64) 3 _ _ _ _ (rd_L2 t590 x78_3) from ge604_0); clear hv604_0 ge604_0; clear hcc604 hce604; have HR604_0 := aM hi604_0; have HC604_0 := aM hl604_0; clear hi604_0 hl604_0; replace p604 := eq_true p604; replace q604 := eq_true q604; have ea_ := Option.some.inj (hx596_0.symm.trans hx604_0); injection ea_ with ea_ en_ ec_; subst ea_; subst ec_; clear en_; obtain ⟨ad605, e605, hx605_0, p605, q605⟩ := yi (by repeat (first | (with_reducible exact HR604_0.out) | (with_reducible refine Kd.C_alloc ?_ _) | (with_reducible refine Kd.C_drewN ?_ _) | (with_reducible refine Kd.C_drew ?_) | exact HR604_0.out)) (rd t587 x78_3); obtain rfl : ad597 = ad605 := (by injection e605)
        refine start_ (n := 30) (S := fun w' => w'.cell? (ad596.add (x78_3).toNat) = some (.slice (some ad597) (rd_L2 t590 x78_3).length c596_0) ∧ w'.cell? (ad597.add ((rd t587 x78_3)).toNat) = some (.int .i64 (rd (rd_L2 t590 x78_3) (rd t587 x78_3))) ∧ w'.cell? (ad596.add (x78_3).toNat) = some (.slice (some ad597) (rd_L2 t590 x78_3).length c596_0) ∧ w'.cell? (ad597.add ((rd t587 x78_3)).toNat) = some (.int .i64 (rd (rd_L2 t590 x78_3) (rd t587 x78_3))) ∧ w'.cell? (ad596.add (x78_3).toNat) = some (.slice (some ad597) (rd_L2 t590 x78_3).length c596_0) ∧ w'.cell? (ad597.add ((rd t587 x78_3)).toNat) = some (.int .i64 (rd (rd_L2 t590 x78_3) (rd t587 x78_3)))) (ds := []) (bm 30 0) (by kernel_rfl) rfl rfl ⟨hx596_0, hx597_0, hx602_0, hx603_0, hx604_0, hx605_0⟩ (fun hHeld => ?_); refine with_tabW impl_balance.tab28 impl_balance.bits28 (fun HT_ HW_ => ?_); generalize wr.drew = w41 at HO_5 HO_10 HO_14 HO_76 HB HL596_0 HL602_0 HL604_0 HR596_0 HR602_0 HR604_0 hx596_0 hx597_0 hx602_0 hx603_0 hx604_0 hx605_0 hHeld ⊢; refine yP 0 83 (bm 30 1) HT_ ?_; refine yP 1 84 (bm 30 3) HT_ ?_; refine yP 2 85 (bm 30 7) HT_ ?_; refine yP 3 86 (bm 30 15) HT_ ?_; refine yP 4 87 (bm 30 31) HT_ ?_; refine yP 6 89 (bm 30 95) HT_ ?_; refine yP 12 95 (bm 30 4191) HT_ ?_; refine yP 13 96 (bm 30 12383) HT_ ?_; refine yP 14 97 (bm 30 28767) HT_ ?_; refine yP 16 99 (bm 30 94303) HT_ ?_; refine yP 19 102 (bm 30 618591) HT_ ?_; refine yP 20 103 (bm 30 1667167) HT_ ?_; refine yP 21 104 (bm 30 3764319) HT_ ?_; refine yP 23 106 (bm 30 12152927) HT_ ?_; refine yT6 5 88 (bm 30 12152959) HT_ HW_ hHeld ?_; refine yP 7 90 (bm 30 12153087) HT_ ?_; refine yT6 8 91 (bm 30 12153343) HT_ HW_ hHeld ?_; refine yT6 15 98 (bm 30 12186111) HT_ HW_ hHeld ?_; refine yP 17 100 (bm 30 12317183) HT_ ?_; refine yT6 18 101 (bm 30 12579327) HT_ HW_ hHeld ?_; refine yT6 22 105 (bm 30 16773631) HT_ HW_ hHeld ?_; refine yP 24 107 (bm 30 33550847) HT_ ?_; refine yT6 25 108 (bm 30 67105279) HT_ HW_ hHeld ?_; refine yP 26 109 (bm 30 134214143) HT_ ?_; refine yP 27 110 (bm 30 268431871) HT_ ?_; refine yO 9 92 (bm 30 268432383) HT_ (fun K hK => ?_); refine Kd.R_lit_step (Kd.int .i64) _ 3 ?hg (N := 92) ?hd (xs := ([x15_3, rd (rd_L2 t590 x78_3) (rd t587 x78_3)] : List Int)) (inner := [.int .i64 x15_3, .int .i64 (rd (rd_L2 t590 x78_3) (rd t587 x78_3))]) (ok := fun _ => True) (okp := fun _ => True) ?hr ?hp (fun _ hk => hk) trivial (Below.refl _ _) (Nat.le_refl _) (by simp) ?_; (case hd => rfl); (case hg => rfl); (case hr => first | (go_simp; done) | (go_simp; rfl)); (case hp => exact (Reps.one (show Kd.M (Kd.int .i64) _ _ _ x15_3 [.int .i64 x15_3] from rfl) (Reps.one (show Kd.M (Kd.int .i64) _ _ _ (rd (rd_L2 t590 x78_3) (rd t587 x78_3)) [.int .i64 (rd (rd_L2 t590 x78_3) (rd t587 x78_3))] from rfl) (Reps.none _ _)))); intro v599 w42 ho43 hb hg_ hnew_; have HS0_ := (hb.cell (World.block_lt_of_cell? _ _ (hHeld.1))).trans (hHeld.1); have HS1_ := (hb.cell (World.block_lt_of_cell? _ _ (hHeld.2.1))).trans (hHeld.2.1); have HS2_ := (hb.cell (World.block_lt_of_cell? _ _ (hHeld.2.2.1))).trans (hHeld.2.2.1); have HS3_ := (hb.cell (World.block_lt_of_cell? _ _ (hHeld.2.2.2.1))).trans (hHeld.2.2.2.1); have HS4_ := (hb.cell (World.block_lt_of_cell? _ _ (hHeld.2.2.2.2.1))).trans (hHeld.2.2.2.2.1); have HS5_ := (hb.cell (World.block_lt_of_cell? _ _ (hHeld.2.2.2.2.2))).trans (hHeld.2.2.2.2.2); clear hg_ hnew_; (first | rw [← Ny598.out] at ho43 | (simp only [Int.reduceToNat] at ho43; rw [← Ny598.out] at ho43)); replace HO_5 := aM (Kd.S_elder' (xS HO_5.out) (Kd.R_base ho43) hb); replace HO_10 := aM (Kd.V_elder' (xV HO_10.out) (Kd.R_base ho43) hb); replace HO_76 := aM (Kd.V_elder' (xV HO_76.out) (Kd.R_base ho43) hb); have HO600 := aM (Kd.R_lower (Kd.R_new' (Kd.R_new' (Kd.R_new' (Kd.R_new' ho43 (Kd.R_lt (xR HO_14.out))) (Kd.R_lt (xR HL596_0.out))) (Kd.R_lt (xR HL602_0.out))) (Kd.R_lt (xR HL604_0.out))) (below_size (xH HB.out))); replace HO_14 := aM (Kd.R_elder' (xR HO_14.out) (Kd.R_base ho43) hb); replace HL596_0 := aM (Kd.R_elder' (xR HL596_0.out) (Kd.R_base ho43) hb); replace HL602_0 := aM (Kd.R_elder' (xR HL602_0.out) (Kd.R_base ho43) hb); replace HL604_0 := aM (Kd.R_elder' (xR HL604_0.out) (Kd.R_base ho43) hb); replace HR596_0 := aM (Kd.C_below (by repeat (first | (with_reducible exact HR596_0.out) | (with_reducible refine Kd.C_alloc ?_ _) | (with_reducible refine Kd.C_drewN ?_ _) | (with_reducible refine Kd.C_drew ?_) | exact HR596_0.out)) hb); replace HR602_0 := aM (Kd.C_below (by repeat (first | (with_reducible exact HR602_0.out) | (with_reducible refine Kd.C_alloc ?_ _) | (with_reducible refine Kd.C_drewN ?_ _) | (with_reducible refine Kd.C_drew ?_) | exact HR602_0.out)) hb); replace HR604_0 := aM (Kd.C_below (by repeat (first | (with_reducible exact HR604_0.out) | (with_reducible refine Kd.C_alloc ?_ _) | (with_reducible refine Kd.C_drewN ?_ _) | (with_reducible refine Kd.C_drew ?_) | exact HR604_0.out)) hb); replace HB := yS0 HB hb; clear hb ho43; obtain ⟨Ao44, co44, eo44⟩ := Kd.R_slice HO600.out; (first | subst eo44 | (injection eo44 with f1_ f2_ f3_; have f4_ := f1_.symm; have f5_ := f3_.symm; clear f1_ f2_ f3_; subst f4_; subst f5_)); refine hK.out _ _ ⟨HS0_, HS1_, HS2_, HS3_, HS4_, HS5_⟩ (fun hHeld => ?_); clear hK K; refine norm_ (a' := ?_) ?_ ?_
        rotate_left
        ·
         show Act.put _ (some 92) _ = _; simp only [Act.put, sA, sZ, sU, i64_w, i32_w]; rfl
        refine yO 10 93 (bm 30 268433407) HT_ (fun K hK => ?_); refine yG Try.func123 #[.slice Ao44 y598.length co44] ?_; with_reducible refine (impl_divisor.calls k3 _ _ y598 t601 _ ?side1 ?side2 A38.out).mono ?_
        (case side1 => exact xC (Kd.R_reads' HO600.out).2.2); (case side2 => exact (Kd.R_reads' HO600.out).2.1); rintro e w45 ⟨rfl, hb⟩; have HS0_ := (hb.cell (World.block_lt_of_cell? _ _ (hHeld.1))).trans (hHeld.1); have HS1_ := (hb.cell (World.block_lt_of_cell? _ _ (hHeld.2.1))).trans (hHeld.2.1); have HS2_ := (hb.cell (World.block_lt_of_cell? _ _ (hHeld.2.2.1))).trans (hHeld.2.2.1); have HS3_ := (hb.cell (World.block_lt_of_cell? _ _ (hHeld.2.2.2.1))).trans (hHeld.2.2.2.1); have HS4_ := (hb.cell (World.block_lt_of_cell? _ _ (hHeld.2.2.2.2.1))).trans (hHeld.2.2.2.2.1); have HS5_ := (hb.cell (World.block_lt_of_cell? _ _ (hHeld.2.2.2.2.2))).trans (hHeld.2.2.2.2.2); refine ⟨_, rfl, ?_⟩; replace HO_5 := aM (Kd.S_below (xS HO_5.out) hb); replace HO_10 := aM (Kd.V_below (xV HO_10.out) hb); replace HO_14 := aM (Kd.R_below (xR HO_14.out) hb); replace HO_76 := aM (Kd.V_below (xV HO_76.out) hb); replace HL596_0 := aM (Kd.R_below (xR HL596_0.out) hb); replace HL602_0 := aM (Kd.R_below (xR HL602_0.out) hb); replace HL604_0 := aM (Kd.R_below (xR HL604_0.out) hb); replace HO600 := aM (Kd.R_below (xR HO600.out) hb); replace HR596_0 := aM (Kd.C_below (by repeat (first | (with_reducible exact HR596_0.out) | (with_reducible refine Kd.C_alloc ?_ _) | (with_reducible refine Kd.C_drewN ?_ _) | (with_reducible refine Kd.C_drew ?_) | exact HR596_0.out)) hb); replace HR602_0 := aM (Kd.C_below (by repeat (first | (with_reducible exact HR602_0.out) | (with_reducible refine Kd.C_alloc ?_ _) | (with_reducible refine Kd.C_drewN ?_ _) | (with_reducible refine Kd.C_drew ?_) | exact HR602_0.out)) hb); replace HR604_0 := aM (Kd.C_below (by repeat (first | (with_reducible exact HR604_0.out) | (with_reducible refine Kd.C_alloc ?_ _) | (with_reducible refine Kd.C_drewN ?_ _) | (with_reducible refine Kd.C_drew ?_) | exact HR604_0.out)) hb); replace HB := yS0 HB hb; (try clear hb); (try clear hb2); (try clear hk); (try clear hi); refine hK.out _ _ ⟨HS0_, HS1_, HS2_, HS3_, HS4_, HS5_⟩ (fun hHeld => ?_); clear hK K; refine norm_ (a' := ?_) ?_ ?_
        rotate_left
        ·
         show Act.put _ (some 93) _ = _; simp only [Act.put, sA, sZ, sU, i64_w, i32_w]; rfl
        refine yP 11 94 (bm 30 268435455) HT_ ?_; refine yP 28 111 (bm 30 536870911) HT_ ?_; refine yP 29 15 (bm 30 1073741823) HT_ ?_; refine done_ (done_of HT_.out (by kernel_rfl)) ?_; try go_wp2
        go_roundg k3; case measure => have := HK1.out; have := HJ19.out; have := HK3.out; omega
        case rel => exact ⟨(wrap64 ((wrap64 (Int.tdiv x15_3 t601)) * (ji40))), (wrap64 (x78_3 + 1)), (by first | rfl | (simp; done) | (simp only [← hji40] <;> (first | rfl | simp)) | (simp [*]; done)), yZ, H', ⟨by have := HK1.out; have := HJ19.out; have := HK3.out; omega⟩, ⟨by (try simp only [hl5_19]); (with_reducible repeat (first | apply Kd.S_alloc | apply Kd.S_drewN | apply Kd.S_drew)); exact Kd.S_mono HO_5.out (fun _ hk => hk.1)⟩, ⟨by (try simp only [hl5_19]); (with_reducible repeat (first | apply Kd.V_alloc | apply Kd.V_drewN | apply Kd.V_drew)); exact Kd.V_mono HO_10.out (fun _ hk => hk.1)⟩, ⟨by (try simp only [hl5_19]); (with_reducible repeat (first | apply rA | apply rN | apply rD)); exact rM HO_14.out (fun _ hk => trivial)⟩, ⟨by (try simp only [hl5_19]); (with_reducible repeat (first | apply Kd.V_alloc | apply Kd.V_drewN | apply Kd.V_drew)); exact Kd.V_mono HO_76.out (fun _ hk => hk.1)⟩, ⟨xH HB.out⟩⟩
       clear c32; obtain ⟨c46, c46b0, H⟩ | ⟨c46, -, H⟩ := yif H
       rotate_left
       · exact absurd H (by simp)
       clear c46; obtain ⟨c47, c47b0, H⟩ | ⟨c47, -, H⟩ := yif H
       rotate_left
       · exact absurd H (by simp)
       clear c47; obtain ⟨y606, hy606⟩ := yE (y592.set (x11_19 : Int).toNat x15_3 : List Int); replace H : (impl_balance.l4 k3 t590 x11_19 y606 x15_3 t587 (t587.length : Int) 0) = some (r1, r2) := yI hy606 H; have Ny606 := aM hy606; clear hy606; have H' := aM H; clear H; have p48 : 0 ≤ (x11_19 : Int) := yA; have q48 : (x11_19 : Int) < ((y592.length : Int) : Int) := yA; obtain ⟨go48, co48, eo48, gb48, gl48, cl48, HG48⟩ := Kd.R_form HO_14.out (by omega); (first | cases eo48 | (injection eo48 with ea_ en_ ec_; (first | subst ea_ | (injection ea_ with ea_; subst ea_)); subst ec_; clear en_)); have GB48 := aM gb48; have GG48 := aM HG48; clear gb48 gl48 HG48; obtain ⟨hx48_0, hf48_0⟩ := Kd.R_celln 0 HO_14.out (x11_19 : Int) p48 q48; replace p48 := eq_true p48; replace q48 := eq_true q48; have HP49 := Kd.R_putg HO_14.out (x11_19 : Int) x15_3; go_wp2_with (first | ((with_reducible refine gate_store (t := 3) (p := 116) rfl ?_); refine store_event (t := 3) (p := 116) (v := ?vo_w50) (w1 := (wr.setCell ⟨go48, (x11_19 : Int).toNat, none⟩ (.int .i64 x15_3))) ?hg ?ho ?hn ?hr ?_; (case ho => rfl); (case hg => rfl); (case hn => rfl); (case hr => first | (go_simp; done) | (go_simp; rfl)); intro w50 hw; have hg : wr.grownBy w50 (some go48) := (by rw [hw]; exact HP49.2); have hp_ : Kd.R (Kd.int .i64) 3 w50 w.heap.size (fun _ => True) (.slice (some ⟨go48, 0, none⟩) y592.length co48) y606 := (by rw [hw, Ny606.out]; exact HP49.1); clear HP49; replace HO_5 := aM (Kd.S_after (v := (.slice (some ⟨go48, 0, none⟩) y592.length co48)) (v1 := (.slice (some ⟨go48, 0, none⟩) y592.length co48)) (ok := (fun _ => True)) (zS (Kd.S_mono HO_5.out (fun _ hk => ⟨trivial, hk⟩))) hg (.inl rfl)); replace HO_10 := aM (Kd.V_afterv (v := (.slice (some ⟨go48, 0, none⟩) y592.length co48)) (v1 := (.slice (some ⟨go48, 0, none⟩) y592.length co48)) (ok := (fun k_ => some k_ ≠ (.slice Ao21 t590.length co21 : Value).ownBlock)) (xV HO_10.out) hg (.inl rfl)); replace HO_14 := aM (hp_); replace HO_76 := aM (Kd.V_afterv (v := (.slice (some ⟨go48, 0, none⟩) y592.length co48)) (v1 := (.slice (some ⟨go48, 0, none⟩) y592.length co48)) (ok := (fun k_ => some k_ ≠ (.slice Ao21 t590.length co21 : Value).ownBlock)) (xV HO_76.out) hg (.inl rfl)); replace HB := aM ((by rw [hw]; exact eS (HB.out) GB48.out : Below w.heap.size w w50)); clear hg hw hp_)); go_loopg [119] k3 (fun kq v119 w' => ∃ (x14_4 : List Int) (x119_4 : Int), v119 = .int .i64 x119_4 ∧ Aside0 (impl_balance.l4 kq t590 x11_19 x14_4 x15_3 t587 (t587.length : Int) x119_4 = some (r1, r2)) ∧ Aside0 (kq ≤ k3) ∧ Aside0 (Kd.S (Kd.slice 3 (Kd.int .i64)) 24 w' w.heap.size (fun k_ => some k_ ≠ ((.slice (some ⟨go48, 0, none⟩) y592.length co48) : Value).ownBlock) (.slice Ao21 t590.length co21) t590) ∧ Aside0 (Kd.R (Kd.int .i64) 3 w' w.heap.size (fun _ => True) (.slice (some ⟨go48, 0, none⟩) y592.length co48) x14_4) ∧ Aside0 (Kd.V (Kd.int .i64) 3 w' w.heap.size (fun k_ => some k_ ≠ ((.slice Ao21 t590.length co21) : Value).ownBlock ∧ some k_ ≠ ((.slice (some ⟨go48, 0, none⟩) y592.length co48) : Value).ownBlock) (.slice Ao23 t587.length co23) t587) ∧ Aside0 (Below w.heap.size w w')); case atStart => exact ⟨(y606), (0), yZ, H', ⟨Nat.le_refl _⟩, ⟨by (try simp only [hl5_19]); (with_reducible repeat (first | apply Kd.S_alloc | apply Kd.S_drewN | apply Kd.S_drew)); exact Kd.S_mono HO_5.out (fun _ hk => hk.2)⟩, ⟨by (try simp only [hl5_19]); (with_reducible repeat (first | apply rA | apply rN | apply rD)); exact HO_14.out⟩, ⟨by (try simp only [hl5_19]); (with_reducible repeat (first | apply Kd.V_alloc | apply Kd.V_drewN | apply Kd.V_drew)); exact HO_10.out⟩, ⟨xH HB.out⟩⟩
       case round =>
        clear H'; try clear c32
        try clear c32b0
        try clear c33
        try clear c33b0
        try clear c34
        try clear c34b0
        try clear c35
        try clear c35b0
        try clear c36
        try clear c36b0
        try clear c37
        try clear c37b0
        try clear c39
        try clear c39b0
        try clear c39b1
        try clear c46
        try clear c46b0
        try clear c47
        try clear c47b0
        try clear p48
        try clear q48
        try clear hx48_0
        try clear hx595_0
        try clear hx596_0
        try clear hx597_0
        try clear hx602_0
        try clear hx603_0
        try clear hx604_0
        try clear hx605_0
        try clear p595
        try clear p596
        try clear p597
        try clear p602
        try clear p603
        try clear p604
        try clear p605
        try clear q595
        try clear q596
        try clear q597
        try clear q602
        try clear q603
        try clear q604
        try clear q605
        obtain ⟨x14_4, x119_4, rfl, HA, HK4, HO_5, HO_14, HO_117, HB⟩ := hrel; have hl14_4 := (Kd.R_reads' HO_14.out).1; rw [hl14_4] at HO_14; (try simp only [hl14_4]); (try simp only [hl14_4] at HO_5); (try simp only [hl14_4] at HO_117); cases gk with
        | zero => exact absurd HA.out (by simp [impl_balance.l4])
        | succ k4 =>
         have H := HA.out; clear HA; simp only [impl_balance.l4] at H; obtain ⟨-, c51b0, H⟩ | ⟨c51, c51b0, H⟩ := yif H
         rotate_left
         ·
          clear c51; replace H := oA H; obtain ⟨t613, A64, H⟩ := H; have H' := aM H; clear H; go_wp2_with (first | (refine yL 147 Try.func124 #[.slice (some ⟨go48, 0, none⟩) x14_4.length co48] ?_; (with_reducible refine (impl_shortened.calls k4 (fun k_ => some k_ = (.slice (some ⟨go48, 0, none⟩) x14_4.length co48 : Value).ownBlock) (.slice (some ⟨go48, 0, none⟩) x14_4.length co48) x14_4 t613 w _ ?side1 (Kd.R_tight rfl HO_14.out) A64.out).mono ?_); (case side1 => repeat (first | (with_reducible first | exact HB.out | apply eA | apply eN | apply eD) | exact HB.out)); rintro e w65 ⟨rfl, hy0, hb, hkp⟩; refine ⟨_, rfl, ?_⟩; replace HO_5 := aM (Kd.S_mono (ok' := fun k_ => some k_ ≠ (.slice (some ⟨go48, 0, none⟩) x14_4.length co48 : Value).ownBlock) (Kd.S_keptB (HO_5.out) hkp (fun k_ hk_ hs_ => (hk_) hs_)) (fun k_ hk_ => hk_.1)); replace HO_14 := aM (Kd.R_reok rfl hy0 (fun k_ e_ => HO_14.out.1 k_ e_)); replace HO_117 := aM (Kd.V_mono (ok' := fun k_ => some k_ ≠ (.slice Ao21 t590.length co21 : Value).ownBlock ∧ some k_ ≠ (.slice (some ⟨go48, 0, none⟩) x14_4.length co48 : Value).ownBlock) (Kd.V_keptB (HO_117.out) hkp (fun k_ hk_ hs_ => (hk_.2) hs_)) (fun k_ hk_ => hk_.1)); replace HB := aM (hb); (try clear hb; try clear hkp; try clear hy0))); go_loopg [150] k4 (fun kq v150 w' => ∃ (x150_5 : Int), v150 = .int .i64 x150_5 ∧ Aside0 (impl_balance.l5 kq t613 t613 (x14_4.length : Int) x150_5 = some (r1, r2)) ∧ Aside0 (kq ≤ k4) ∧ Aside0 (Kd.R (Kd.int .i64) 3 w' w.heap.size (fun _ => True) (.slice (some ⟨go48, 0, none⟩) x14_4.length co48) t613) ∧ Aside0 (Kd.R (Kd.int .i64) 3 w' w.heap.size (fun _ => True) (.slice (some ⟨go48, 0, none⟩) x14_4.length co48) t613) ∧ Aside0 (Below w.heap.size w w')); case atStart => exact ⟨(0), yZ, H', ⟨Nat.le_refl _⟩, ⟨by (try simp only [hl5_19]); (try simp only [hl14_4]); (with_reducible repeat (first | apply rA | apply rN | apply rD)); exact HO_14.out⟩, ⟨by (try simp only [hl5_19]); (try simp only [hl14_4]); (with_reducible repeat (first | apply rA | apply rN | apply rD)); exact HO_14.out⟩, ⟨xH HB.out⟩⟩
          case round =>
           clear H'; try clear c51
           try clear c51b0
           try clear c52
           try clear c52b0
           try clear c53
           try clear c53b0
           try clear c54
           try clear c54b0
           try clear c55
           try clear c55b0
           try clear c56
           try clear c56b0
           try clear c57
           try clear c57b0
           try clear c58
           try clear c58b0
           try clear c59
           try clear c59b0
           try clear c59b1
           try clear c60
           try clear c60b0
           try clear p61
           try clear q61
           try clear hx607_0
           try clear hx608_0
           try clear hx609_0
           try clear hx610_0
           try clear hx611_0
           try clear hx61_0
           try clear p607
           try clear p608
           try clear p609
           try clear p610
           try clear p611
           try clear q607
           try clear q608
           try clear q609
           try clear q610
           try clear q611
           obtain ⟨x150_5, rfl, HA, HK5, HO_14, HO_148, HB⟩ := hrel; have hl14_5 := (Kd.R_reads' HO_14.out).1; rw [hl14_5] at HO_14; (try simp only [hl14_5]); (try simp only [hl14_5] at HO_148); have hl148_5 := (Kd.R_reads' HO_148.out).1; rw [hl148_5] at HO_148; (try simp only [hl148_5]); (try simp only [hl148_5] at HO_14); cases gk with
           | zero => exact absurd HA.out (by simp [impl_balance.l5])
           | succ k5 =>
            have H := HA.out; clear HA; simp only [impl_balance.l5] at H; obtain ⟨-, c66b0, H⟩ | ⟨-, c66b0, H⟩ := yif H
            rotate_left
            ·
             have c66b9 := c66b0; (try simp only [hl148_5] at c66b9); have c66b8 := c66b0; (try simp only [hl14_5] at c66b8); simp only [Option.some.injEq, Prod.mk.injEq] at H; obtain ⟨rfl, rfl⟩ := H; go_wp2; go_ret2; exact ⟨_, yF, xR HO_14.out, xH HB.out⟩
            obtain ⟨-, c67b0, H⟩ | ⟨c67, -, H⟩ := yif H
            rotate_left
            · exact absurd H (by simp)
            obtain ⟨-, c68b0, H⟩ | ⟨c68, -, H⟩ := yif H
            rotate_left
            · exact absurd H (by simp)
            obtain ⟨-, c69b0, H⟩ | ⟨-, c69b0, H⟩ := yif H
            ·
             simp only [Option.some.injEq, Prod.mk.injEq] at H; obtain ⟨rfl, rfl⟩ := H; obtain ⟨ad614, e614, hx614_0, p614, q614⟩ := yi (Kd.R_reads' HO_148.out).2.2 x150_5; obtain rfl : (⟨go48, 0, none⟩ : Addr) = ad614 := (by injection e614)
             (first | simp only [add_plain] at hx614_0 | simp only [add_at] at hx614_0 | simp only [Addr.add, Nat.zero_add] at hx614_0 | skip); go_wp2; go_ret2; exact ⟨_, yF, yNi, xH HB.out⟩
            have H' := aM H; clear H; obtain ⟨ad614, e614, hx614_0, p614, q614⟩ := yi (Kd.R_reads' HO_148.out).2.2 x150_5; obtain rfl : (⟨go48, 0, none⟩ : Addr) = ad614 := (by injection e614)
            (first | simp only [add_plain] at hx614_0 | simp only [add_at] at hx614_0 | simp only [Addr.add, Nat.zero_add] at hx614_0 | skip); go_wp2; (first | simp only [← hl14_5] | simp only [← hl148_5] | skip); go_roundg k5; case measure => have := HK1.out; have := HJ19.out; have := HK3.out; have := HK4.out; have := HK5.out; omega
            case rel => exact ⟨(wrap64 (x150_5 + 1)), yZ, H', ⟨by have := HK1.out; have := HJ19.out; have := HK3.out; have := HK4.out; have := HK5.out; omega⟩, ⟨by (try simp only [hl5_19]); (try simp only [hl14_4]); (try simp only [hl14_5]); (try simp only [hl148_5]); (with_reducible repeat (first | apply rA | apply rN | apply rD)); exact HO_14.out⟩, ⟨by (try simp only [hl5_19]); (try simp only [hl14_4]); (try simp only [hl14_5]); (try simp only [hl148_5]); (with_reducible repeat (first | apply rA | apply rN | apply rD)); exact HO_148.out⟩, ⟨xH HB.out⟩⟩
         obtain ⟨-, c52b0, H⟩ | ⟨c52, -, H⟩ := yif H
         rotate_left
         · exact absurd H (by simp)
         obtain ⟨-, c53b0, H⟩ | ⟨c53, -, H⟩ := yif H
         rotate_left
         · exact absurd H (by simp)
         obtain ⟨-, c54b0, H⟩ | ⟨c54, -, H⟩ := yif H
         rotate_left
         · exact absurd H (by simp)
         obtain ⟨-, c55b0, H⟩ | ⟨c55, -, H⟩ := yif H
         rotate_left
         · exact absurd H (by simp)
         obtain ⟨-, c56b0, H⟩ | ⟨c56, -, H⟩ := yif H
         rotate_left
         · exact absurd H (by simp)
         obtain ⟨-, c57b0, H⟩ | ⟨c57, -, H⟩ := yif H
         rotate_left
         · exact absurd H (by simp)
         obtain ⟨-, c58b0, H⟩ | ⟨c58, -, H⟩ := yif H
         rotate_left
         · exact absurd H (by simp)
         obtain ⟨c59, -, H⟩ | ⟨c59, -, H⟩ := yif H
         · exact absurd H (by simp)
         have c59b0 : ((rd (rd_L2 t590 x119_4) (rd t587 x119_4)) == 0) = false := beq_eq_false_iff_ne.mpr c59; have c59b1 : ((rd (rd_L2 t590 x119_4) (rd t587 x119_4)) != 0) = true := bne_iff_ne.mpr c59; obtain ⟨-, c60b0, H⟩ | ⟨c60, -, H⟩ := yif H
         rotate_left
         · exact absurd H (by simp)
         obtain ⟨y612, hy612⟩ := yE (x14_4.set ((rd t587 x119_4) : Int).toNat (wrap64 ((wrap64 (-(rd (rd_L2 t590 x119_4) x11_19))) * (wrap64 (Int.tdiv x15_3 (rd (rd_L2 t590 x119_4) (rd t587 x119_4)))))) : List Int); replace H : (impl_balance.l4 k4 t590 x11_19 y612 x15_3 t587 (t587.length : Int) (wrap64 (x119_4 + 1))) = some (r1, r2) := yI hy612 H; have Ny612 := aM hy612; clear hy612; have H' := aM H; clear H; obtain ⟨ad607, e607, hx607_0, p607, q607⟩ := yi (Kd.V_reads' HO_117.out).2.2 x119_4; cases e607
         try go_wp2
         replace HO_5 := aM (Kd.S_drew HO_5.out); replace HO_14 := aM (rD HO_14.out); replace HO_117 := aM (Kd.V_drew HO_117.out); replace HB := aM (eD HB.out); have p608 : 0 ≤ (x119_4 : Int) := yA; have q608 : x119_4 < (t590.length : Int) := yA; obtain ⟨ad608, A608_0, c608_0, e608, hx608_0, hl608_0, hi608_0⟩ := at_L2 (Kd.S_reads' HO_5.out).2.2 x119_4 p608 q608; cases e608
         obtain ⟨ce608, hce608, hMe608, hcc608⟩ := Kd.S_get HO_5.out [] x119_4 p608 (by first | exact q608 | exact yA | (have e_ := (Kd.S_reads' HO_5.out).1; omega)); obtain ⟨ve608_0, rfl, ge608_0⟩ := hMe608; have hv608_0 := hcc608 0 _ rfl; rw [Nat.add_zero, show ((Kd.slice 3 (Kd.int .i64))).sz = 1 from rfl, Nat.mul_one] at hv608_0; replace hv608_0 := Option.some.inj (hv608_0.symm.trans hx608_0); rw [hv608_0] at ge608_0; have HL608_0 := aM (show Kd.R (Kd.int .i64) 3 _ _ _ _ (rd_L2 t590 x119_4) from ge608_0); clear hv608_0 ge608_0; clear hcc608 hce608; have HR608_0 := aM hi608_0; have HC608_0 := aM hl608_0; clear hi608_0 hl608_0; replace p608 := eq_true p608; replace q608 := eq_true q608; obtain ⟨ad609, e609, hx609_0, p609, q609⟩ := yi (by repeat (first | (with_reducible exact HR608_0.out) | (with_reducible refine Kd.C_alloc ?_ _) | (with_reducible refine Kd.C_drewN ?_ _) | (with_reducible refine Kd.C_drew ?_) | exact HR608_0.out)) x11_19; cases e609
         have p610 : 0 ≤ (x119_4 : Int) := yA; have q610 : x119_4 < (t590.length : Int) := yA; obtain ⟨ad610, A610_0, c610_0, e610, hx610_0, hl610_0, hi610_0⟩ := at_L2 (Kd.S_reads' HO_5.out).2.2 x119_4 p610 q610; obtain rfl : ad608 = ad610 := (by injection e610)
         obtain ⟨ce610, hce610, hMe610, hcc610⟩ := Kd.S_get HO_5.out [] x119_4 p610 (by first | exact q610 | exact yA | (have e_ := (Kd.S_reads' HO_5.out).1; omega)); obtain ⟨ve610_0, rfl, ge610_0⟩ := hMe610; have hv610_0 := hcc610 0 _ rfl; rw [Nat.add_zero, show ((Kd.slice 3 (Kd.int .i64))).sz = 1 from rfl, Nat.mul_one] at hv610_0; replace hv610_0 := Option.some.inj (hv610_0.symm.trans hx610_0); rw [hv610_0] at ge610_0; have HL610_0 := aM (show Kd.R (Kd.int .i64) 3 _ _ _ _ (rd_L2 t590 x119_4) from ge610_0); clear hv610_0 ge610_0; clear hcc610 hce610; have HR610_0 := aM hi610_0; have HC610_0 := aM hl610_0; clear hi610_0 hl610_0; replace p610 := eq_true p610; replace q610 := eq_true q610; have ea_ := Option.some.inj (hx608_0.symm.trans hx610_0); injection ea_ with ea_ en_ ec_; subst ea_; subst ec_; clear en_; obtain ⟨ad611, e611, hx611_0, p611, q611⟩ := yi (by repeat (first | (with_reducible exact HR610_0.out) | (with_reducible refine Kd.C_alloc ?_ _) | (with_reducible refine Kd.C_drewN ?_ _) | (with_reducible refine Kd.C_drew ?_) | exact HR610_0.out)) (rd t587 x119_4); obtain rfl : ad609 = ad611 := (by injection e611)
         have p61 : 0 ≤ ((rd t587 x119_4) : Int) := yA; have q61 : ((rd t587 x119_4) : Int) < ((x14_4.length : Int) : Int) := yA; obtain ⟨hx61_0, hf61_0⟩ := Kd.R_celln 0 HO_14.out ((rd t587 x119_4) : Int) p61 q61; replace p61 := eq_true p61; replace q61 := eq_true q61; have HP63 := Kd.R_putn HO_14.out ((rd t587 x119_4) : Int) (wrap64 ((wrap64 (-(rd (rd_L2 t590 x119_4) x11_19))) * (wrap64 (Int.tdiv x15_3 (rd (rd_L2 t590 x119_4) (rd t587 x119_4)))))); rw [← Ny612.out] at HP63; have HQ63 := aM HP63; clear HP63; refine start_ (n := 22) (S := fun w' => w'.cell? (ad608.add (x119_4).toNat) = some (.slice (some ad609) (rd_L2 t590 x119_4).length c608_0) ∧ w'.cell? (ad609.add (x11_19).toNat) = some (.int .i64 (rd (rd_L2 t590 x119_4) x11_19)) ∧ w'.cell? (ad608.add (x119_4).toNat) = some (.slice (some ad609) (rd_L2 t590 x119_4).length c608_0) ∧ w'.cell? (ad609.add ((rd t587 x119_4)).toNat) = some (.int .i64 (rd (rd_L2 t590 x119_4) (rd t587 x119_4)))) (ds := [21]) (bm 22 0) (by kernel_rfl) rfl rfl ⟨hx608_0, hx609_0, hx610_0, hx611_0⟩ (fun hHeld => ?_); refine with_tabW impl_balance.tab34 impl_balance.bits34 (fun HT_ HW_ => ?_); generalize wr.drew = w62 at HO_5 HO_14 HO_117 HB HL608_0 HL610_0 HQ63 HR608_0 HR610_0 hf61_0 hx608_0 hx609_0 hx610_0 hx611_0 hx61_0 hHeld ⊢; refine yP 0 124 (bm 22 1) HT_ ?_; refine yP 1 125 (bm 22 3) HT_ ?_; refine yP 2 126 (bm 22 7) HT_ ?_; refine yP 3 127 (bm 22 15) HT_ ?_; refine yP 4 128 (bm 22 31) HT_ ?_; refine yP 6 130 (bm 22 95) HT_ ?_; refine yP 10 134 (bm 22 1119) HT_ ?_; refine yP 11 135 (bm 22 3167) HT_ ?_; refine yP 12 136 (bm 22 7263) HT_ ?_; refine yP 13 137 (bm 22 15455) HT_ ?_; refine yP 15 139 (bm 22 48223) HT_ ?_; refine yT4 5 129 (bm 22 48255) HT_ HW_ hHeld ?_; refine yP 7 131 (bm 22 48383) HT_ ?_; refine yT4 8 132 (bm 22 48639) HT_ HW_ hHeld ?_; refine yP 9 133 (bm 22 49151) HT_ ?_; refine yT4 14 138 (bm 22 65535) HT_ HW_ hHeld ?_; refine yP 16 140 (bm 22 131071) HT_ ?_; refine yT4 17 141 (bm 22 262143) HT_ HW_ hHeld ?_; refine yP 18 142 (bm 22 524287) HT_ ?_; refine yP 19 143 (bm 22 1048575) HT_ ?_; refine yP 20 144 (bm 22 2097151) HT_ ?_; refine last_ (i := 21) (N := none) (bm 22 4194303) rfl rfl (one_of HT_.out (by kernel_rfl)) (by decide) (fun K hK => ?_); refine skip_ (w1 := ?_) (by rfl) rfl ?_ ?_
         rotate_left
         ·
          go_simp; rfl
         refine hK.out _ _ ?_; clear hK K; refine done_ (done_of HT_.out (by kernel_rfl)) ?_; try go_wp2
         (try simp only [← hl14_4]); go_roundg k4; case measure => have := HK1.out; have := HJ19.out; have := HK3.out; have := HK4.out; omega
         case rel => exact ⟨(y612), (wrap64 (x119_4 + 1)), yZ, H', ⟨by have := HK1.out; have := HJ19.out; have := HK3.out; have := HK4.out; omega⟩, ⟨by (try simp only [hl5_19]); (try simp only [hl14_4]); (with_reducible repeat (first | apply Kd.S_alloc | apply Kd.S_drewN | apply Kd.S_drew)); exact Kd.S_mono (Kd.S_far (p := ⟨go48, ((rd t587 x119_4) : Int).toNat, none⟩) (Kd.S_mono HO_5.out (fun k_ hk => (⟨hk, fun e_ => hk (by rw [e_]; rfl)⟩ : _ ∧ k_ ≠ go48))) (fun _ hk => hk.2) (.int .i64 (wrap64 ((wrap64 (-(rd (rd_L2 t590 x119_4) x11_19))) * (wrap64 (Int.tdiv x15_3 (rd (rd_L2 t590 x119_4) (rd t587 x119_4)))))))) (fun _ hk => hk.1)⟩, ⟨by (try simp only [hl5_19]); (try simp only [hl14_4]); (with_reducible repeat (first | apply rA | apply rN | apply rD)); exact HQ63.out⟩, ⟨by (try simp only [hl5_19]); (try simp only [hl14_4]); (with_reducible repeat (first | apply Kd.V_alloc | apply Kd.V_drewN | apply Kd.V_drew)); exact Kd.V_mono (Kd.V_far (p := ⟨go48, ((rd t587 x119_4) : Int).toNat, none⟩) (Kd.V_mono HO_117.out (fun k_ hk => (⟨hk, fun e_ => hk.2 (by rw [e_]; rfl)⟩ : _ ∧ k_ ≠ go48))) (fun _ hk => hk.2) (.int .i64 (wrap64 ((wrap64 (-(rd (rd_L2 t590 x119_4) x11_19))) * (wrap64 (Int.tdiv x15_3 (rd (rd_L2 t590 x119_4) (rd t587 x119_4)))))))) (fun _ hk => hk.1)⟩, ⟨xG1 HB.out GB48.out⟩⟩
end Go.Proofs.Ytkgekmpnbhomgaa.PFnSides
