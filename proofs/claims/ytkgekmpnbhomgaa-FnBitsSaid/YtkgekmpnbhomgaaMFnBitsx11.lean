-- Laid for this claim by a program of the session's own (wip/tool/myprint.py).
import Derived.Test.YtkgekmpnbhomgaaMFnBitsx0
import Derived.Test.YtkgekmpnbhomgaaMFnBitsx3
import Derived.Test.YtkgekmpnbhomgaaMFnBitsx10
namespace Go.Proofs.Ytkgekmpnbhomgaa.PFnBits
open Go.RowKit Go.Proofs.YtkgekmpnbhomgaaW.PrintWords Go.Proofs.YtkgekmpnbhomgaaW.PrintLast Go.Proofs.YtkgekmpnbhomgaaW.PrintMore
attribute [local go_sem] max2_int min2_int max_two min_two max_three min_three max_four min_four
set_option linter.unusedVariables false
set_option linter.unusedSimpArgs false
def impl_Plane_mistakes.l0 : Nat → List Int → List (List Int) → Int → Int → List Int → Int → List (List Int) → List Int → Option (List Int)
 | 0, _, _, _, _, _, _, _, _ => none
 | k + 1, x5, x10, x11, x12, x402000, x402001, x403000, x403001 => if x12 < x11 then (if 0 ≤ x12 then (if x12 < (x10.length : Int) then ((impl_Plane_side.f k x402000 x402001 (rd_L2 x10 x12)).bind fun t407 => (if x12 < (x403001.length : Int) then (if t407 = (rd x403001 x12) then (impl_Plane_mistakes.l0 k x5 x10 x11 (wrap64 (x12 + 1)) x402000 x402001 x403000 x403001) else (if x5.length < 17592186044416 then (impl_Plane_mistakes.l0 k (x5 ++ [x12]) x10 x11 (wrap64 (x12 + 1)) x402000 x402001 x403000 x403001) else (none))) else (none))) else (none)) else (none)) else (some x5)
def impl_Plane_mistakes.f (k : Nat) (l0_0 : List Int) (a0_1 : Int) (l1_0 : List (List Int)) (l1_1 : List Int) : Option (List Int) := impl_Plane_mistakes.l0 k (([] : List Int)) l1_0 (l1_0.length : Int) 0 l0_0 a0_1 l1_0 l1_1
theorem impl_Plane_mistakes.mono_l : ∀ k, (∀ y0 y1 y2 y3 y4 y5 y6 y7, LeO (impl_Plane_mistakes.l0 k y0 y1 y2 y3 y4 y5 y6 y7) (impl_Plane_mistakes.l0 (k + 1) y0 y1 y2 y3 y4 y5 y6 y7))
 | 0 => fun _ _ _ _ _ _ _ _ r h => by simp [impl_Plane_mistakes.l0] at h
 | k + 1 => by
  have ih0 := impl_Plane_mistakes.mono_l k
  ·
   intro y0 y1 y2 y3 y4 y5 y6 y7
   unfold impl_Plane_mistakes.l0
   repeat' first
   | (with_reducible exact ih0 _ _ _ _ _ _ _ _)
   | (with_reducible exact impl_Plane_side.mono _ _ _ _)
   | (with_reducible exact LeO.refl _)
   | (with_reducible exact LeO.none _)
   | (with_reducible refine LeO.ite ?_ ?_)
   | (with_reducible refine LeO.bind ?_ (fun _ => ?_))
   | exact ih0 _ _ _ _ _ _ _ _
   | exact impl_Plane_side.mono _ _ _ _
   | exact LeO.none _
   | refine LeO.ite ?_ ?_
   | refine LeO.bind ?_ (fun _ => ?_)
theorem impl_Plane_mistakes.mono : ∀ a0 a1 a2 a3 k, LeO (impl_Plane_mistakes.f k a0 a1 a2 a3) (impl_Plane_mistakes.f (k + 1) a0 a1 a2 a3) := by
 intro a0 a1 a2 a3 k
 have ih0 := impl_Plane_mistakes.mono_l k
 unfold impl_Plane_mistakes.f
 repeat' first
   | (with_reducible exact ih0 _ _ _ _ _ _ _ _)
   | (with_reducible exact impl_Plane_side.mono _ _ _ _)
   | (with_reducible exact LeO.refl _)
   | (with_reducible exact LeO.none _)
   | (with_reducible refine LeO.ite ?_ ?_)
   | (with_reducible refine LeO.bind ?_ (fun _ => ?_))
   | exact ih0 _ _ _ _ _ _ _ _
   | exact impl_Plane_side.mono _ _ _ _
   | exact LeO.none _
   | refine LeO.ite ?_ ?_
   | refine LeO.bind ?_ (fun _ => ?_)
def impl_Plane_mistakes.T5 : Bool × List (List Nat × List Nat) := (true, [([], []), ([], []), ([0, 1], [0, 1]), ([], []), ([3], [3]), ([], []), ([4, 5], [4, 5]), ([6], [6]), ([2, 7], [2, 7])])
def impl_Plane_mistakes.B5 : List Nat := [0, 0, 3, 0, 8, 0, 56, 120, 255]
theorem impl_Plane_mistakes.tab5 : rtab .any (opsOf Try.f67 5) = impl_Plane_mistakes.T5 := by kernel_rfl
theorem impl_Plane_mistakes.bits5 : waitsOk impl_Plane_mistakes.T5.2 impl_Plane_mistakes.B5 = true := by kernel_rfl
set_option maxHeartbeats 8000000 in
set_option maxRecDepth 100000 in
theorem impl_Plane_mistakes.calls (k : Nat) (A0_0 : Option Addr) (c0_0 : Nat) (l0_0 : List Int) (a0_1 : Int) (A1_0 : Option Addr) (c1_0 : Nat) (l1_0 : List (List Int)) (A1_1 : Option Addr) (c1_1 : Nat) (l1_1 : List Int) (r : List Int) (w : World) (hr0_0 : Kd.C (Kd.int .i64) w A0_0 l0_0.length l0_0) (hc0_0 : l0_0.length ≤ c0_0) (hr1_0 : Kd.C (Kd.slice 3 (Kd.int .i64)) w A1_0 l1_0.length l1_0) (hc1_0 : l1_0.length ≤ c1_0) (hr1_1 : Kd.C (Kd.int .i64) w A1_1 l1_1.length l1_1) (hc1_1 : l1_1.length ≤ c1_1) (h : impl_Plane_mistakes.f k l0_0 a0_1 l1_0 l1_1 = some r) :
  Calls Try.prog 67 #[.agg #[.slice A0_0 l0_0.length c0_0, .int .i64 a0_1], .agg #[.slice A1_0 l1_0.length c1_0, .slice A1_1 l1_1.length c1_1]] w fun e w' => ∃ v0_ : Value, e = .returned (v0_) ∧ Kd.R (Kd.int .i64) 3 w' w.heap.size (fun _ => True) v0_ r ∧ Below w.heap.size w w' := by
 have hu26 := Try.underlying26
 have hu36 := Try.underlying36
 have HR0_0 := aM hr0_0
 have HC0_0 := aM hc0_0
 clear hr0_0 hc0_0
 have HR1_0 := aM hr1_0
 have HC1_0 := aM hc1_0
 clear hr1_0 hc1_0
 have HR1_1 := aM hr1_1
 have HC1_1 := aM hc1_1
 clear hr1_1 hc1_1
 have HB := aM (Below.refl w.heap.size w)
 have H : (impl_Plane_mistakes.l0 k (([] : List Int)) l1_0 (l1_0.length : Int) 0 l0_0 a0_1 l1_0 l1_1) = some r := h
 clear h
 obtain ⟨y403, hy403⟩ : ∃ y_ : List Int, y_ = (([] : List Int)) := ⟨_, rfl⟩
 replace H : (impl_Plane_mistakes.l0 k y403 l1_0 (l1_0.length : Int) 0 l0_0 a0_1 l1_0 l1_1) = some r := by first | (rw [hy403]; with_reducible exact H) | (have H2_ := (Option.bind_some _ _).symm.trans H; rw [hy403]; with_reducible exact H2_) | (have H2_ := (Option.bind_some _ _).symm.trans H; with_reducible exact H2_) | with_reducible exact H | (rw [hy403]; exact H) | exact H
 have Ny403 := aM hy403
 clear hy403
 have H' := aM H
 clear H
 go_enter Try.func67, Try.ntmps67
 go_wp2_with (first | ((with_reducible refine gate_dst (N := 2) rfl ?_); refine box_event ?hg (N := 2) ?hd (cs := #[.slice A0_0 l0_0.length c0_0, .int .i64 a0_1]) (t := 26) ?hr ?_; (case hd => rfl); (case hg => rfl); (case hr => first | (go_simp; done) | (go_simp; rfl)); intro gb401 hg w3 hbox hb; have BK401 := aM (hbox); have GW401 := aM ((by rw [hg]; exact (below_size (xH HB.out)) : w.heap.size ≤ gb401)); have GE401 := aM ((by rw [hg]; exact (below_size (xH HB.out)) : w.heap.size ≤ gb401)); replace HB := aM (below_step (xH HB.out) hb); clear hb hbox hg) | ((with_reducible refine gate_dst (N := 3) rfl ?_); refine box_event ?hg (N := 3) ?hd (cs := #[.slice A1_0 l1_0.length c1_0, .slice A1_1 l1_1.length c1_1]) (t := 36) ?hr ?_; (case hd => rfl); (case hg => rfl); (case hr => first | (go_simp; done) | (go_simp; rfl)); intro gb402 hg w4 hbox hb; have BK402 := aM (hbox); have GW402 := aM ((by rw [hg]; exact (below_size (xG1 HB.out GE401.out)) : w.heap.size ≤ gb402)); have GE402 := aM ((by rw [hg]; exact (below_size (xG1 HB.out GE401.out)) : w.heap.size ≤ gb402)); replace HB := aM (below_step (xG1 HB.out GE401.out) hb); have NB401_402 := aM ((by rw [hg]; exact Nat.ne_of_lt (blk_lt (g := gb401) (o := .cells #[.slice A0_0 l0_0.length c0_0, .int .i64 a0_1] 26 (0, 0)) (xB BK401.out)) : gb401 ≠ gb402)); have NB402_401 := aM ((by rw [hg]; exact Nat.ne_of_gt (blk_lt (g := gb401) (o := .cells #[.slice A0_0 l0_0.length c0_0, .int .i64 a0_1] 26 (0, 0)) (xB BK401.out)) : gb402 ≠ gb401)); replace BK401 := aM (bB (g := gb401) (o := .cells #[.slice A0_0 l0_0.length c0_0, .int .i64 a0_1] 26 (0, 0)) (xB BK401.out) hb); clear hb hbox hg) | ((with_reducible refine gate_dst (N := 8) rfl ?_); refine Kd.R_lit (Kd.int .i64) _ 3 ?hg (N := 8) ?hd (xs := ([] : List Int)) (inner := []) (ok := fun _ => True) (okp := fun _ => True) ?hr ?hp (fun _ hk => hk) trivial (Below.refl _ _) (Nat.le_refl _) (by simp) ?_; (case hd => rfl); (case hg => rfl); (case hr => first | (go_simp; done) | (go_simp; rfl)); (case hp => exact (Reps.none _ _)); intro v404 w5 ho6 hb hg_ hnew_; clear hg_ hnew_; (first | rw [← Ny403.out] at ho6 | (simp only [Int.reduceToNat] at ho6; rw [← Ny403.out] at ho6)); have HO405 := aM (Kd.R_lower ho6 (below_size (xG2 HB.out GE401.out GE402.out))); replace BK401 := aM (bB (g := gb401) (o := .cells #[.slice A0_0 l0_0.length c0_0, .int .i64 a0_1] 26 (0, 0)) (xB BK401.out) hb); replace BK402 := aM (bB (g := gb402) (o := .cells #[.slice A1_0 l1_0.length c1_0, .slice A1_1 l1_1.length c1_1] 36 (0, 0)) (xB BK402.out) hb); replace HB := aM (below_step (xG2 HB.out GE401.out GE402.out) hb); clear hb ho6; have hnb7 := NB402_401.out; have hnc7 := NB401_402.out; have hcz8_0 : w5.cell? ⟨gb402, 0, none⟩ = some (.slice A1_0 l1_0.length c1_0) := (bC BK402.out 0).trans rfl; have hcz8_1 : w5.cell? ⟨gb402, 1, none⟩ = some (.slice A1_1 l1_1.length c1_1) := (bC BK402.out 1).trans rfl; have hfz8_0 := bF BK402.out 0; have hfz8_1 := bF BK402.out 1))
 go_loopg [5, 12] k (fun kq v5 v12 w' => ∃ (x5_1 : List Int) (x12_1 : Int), v12 = .int .i64 x12_1 ∧ Aside0 (impl_Plane_mistakes.l0 kq x5_1 l1_0 (l1_0.length : Int) x12_1 l0_0 a0_1 l1_0 l1_1 = some r) ∧ Aside0 (kq ≤ k) ∧ Aside0 (Kd.R (Kd.int .i64) 3 w' w.heap.size (fun _ => True) v5 x5_1) ∧ Aside0 (w'.heap[gb401]? = some (.cells #[(.slice A0_0 l0_0.length c0_0), .int .i64 a0_1] 26 (0, 0))) ∧ Aside0 (w'.heap[gb402]? = some (.cells #[(.slice A1_0 l1_0.length c1_0), (.slice A1_1 l1_1.length c1_1)] 36 (0, 0))) ∧ Aside0 (Below w.heap.size w w'))
 case atStart => exact ⟨(y403), (0), (by first | rfl | (simp; done) | (simp [*]; done)), H', ⟨Nat.le_refl _⟩, ⟨xR HO405.out⟩, ⟨xB BK401.out⟩, ⟨xB BK402.out⟩, ⟨xG2 HB.out GE401.out GE402.out⟩⟩
 case round =>
  clear H'
  try clear c1; try clear p2; try clear c6; try clear c7; try clear hcz8_0; try clear hcz8_1; try clear hfz8_0; try clear hfz8_1
  obtain ⟨x5_1, x12_1, rfl, HA, HK1, HO_5, BK401, BK402, HB⟩ := hrel
  cases gk with
  | zero => exact absurd HA.out (by simp [impl_Plane_mistakes.l0])
  | succ k1 =>
   have H := HA.out
   clear HA
   simp only [impl_Plane_mistakes.l0] at H
   by_cases c9 : x12_1 < (l1_0.length : Int)
   ·
    rw [if_pos c9] at H
    have c9b0 : decide (x12_1 < (l1_0.length : Int)) = true := decide_eq_true c9
    clear c9
    by_cases c10 : 0 ≤ x12_1
    ·
     rw [if_pos c10] at H
     have c10b0 : decide (0 ≤ x12_1) = true := decide_eq_true c10
     clear c10
     by_cases c11 : x12_1 < (l1_0.length : Int)
     ·
      rw [if_pos c11] at H
      have c11b0 : decide (x12_1 < (l1_0.length : Int)) = true := decide_eq_true c11
      clear c11
      replace H := oB.mp H
      obtain ⟨t407, A120, H⟩ := H
      replace H : (if x12_1 < (l1_1.length : Int) then (if t407 = (rd l1_1 x12_1) then (impl_Plane_mistakes.l0 k1 x5_1 l1_0 (l1_0.length : Int) (wrap64 (x12_1 + 1)) l0_0 a0_1 l1_0 l1_1) else (if x5_1.length < 17592186044416 then (impl_Plane_mistakes.l0 k1 (x5_1 ++ [x12_1]) l1_0 (l1_0.length : Int) (wrap64 (x12_1 + 1)) l0_0 a0_1 l1_0 l1_1) else (none))) else (none)) = some r := H
      have A12 := aM A120
      clear A120
      by_cases c13 : x12_1 < (l1_1.length : Int)
      ·
       rw [if_pos c13] at H
       have c13b0 : decide (x12_1 < (l1_1.length : Int)) = true := decide_eq_true c13
       clear c13
       by_cases c14 : t407 = (rd l1_1 x12_1)
       ·
        rw [if_pos c14] at H
        have c14b0 : (t407 == (rd l1_1 x12_1)) = true := beq_iff_eq.mpr c14
        have c14b1 : (t407 != (rd l1_1 x12_1)) = false := bne_eq_false_iff_eq.mpr c14
        clear c14
        have H' := aM H
        clear H
        have p406 : 0 ≤ (x12_1 : Int) := of_decide_eq_true (by first | (with_reducible assumption) | assumption)
        have q406 : x12_1 < (l1_0.length : Int) := of_decide_eq_true (by first | (with_reducible assumption) | assumption)
        obtain ⟨ad406, A406_0, c406_0, e406, hx406_0, hl406_0, hi406_0⟩ := at_L2 HR1_0.out x12_1 p406 q406
        cases e406
        replace hx406_0 := (HB.out.cell (World.block_lt_of_cell? w _ hx406_0)).trans hx406_0
        have HR406_0 := aM hi406_0
        have HC406_0 := aM hl406_0
        clear hi406_0 hl406_0
        replace p406 := eq_true p406
        replace q406 := eq_true q406
        try go_wp2
        have n0_ := aM (rD HO_5.out)
        have n1_ := aM (bD BK401.out)
        have n2_ := aM (bD BK402.out)
        have n3_ := aM (eD HB.out)
        clear HO_5 BK401 BK402 HB
        have HO_5 := n0_
        have BK401 := n1_
        have BK402 := n2_
        have HB := n3_
        clear n0_ n1_ n2_ n3_
        have p408 : 0 ≤ (x12_1 : Int) := of_decide_eq_true (by first | (with_reducible assumption) | assumption)
        have q408 : x12_1 < (l1_1.length : Int) := of_decide_eq_true (by first | (with_reducible assumption) | assumption)
        obtain ⟨ad408, e408, hx408_0⟩ := Kd.at_int HR1_1.out x12_1 p408 q408
        have hw408_0 := hx408_0
        cases e408
        replace hx408_0 := (HB.out.cell (World.block_lt_of_cell? w _ hx408_0)).trans hx408_0
        replace p408 := eq_true p408
        replace q408 := eq_true q408
        refine start_ (n := 9) (S := fun w' => w'.cell? ⟨gb401, 0, none⟩ = some (.slice A0_0 l0_0.length c0_0) ∧ w'.cell? ⟨gb401, 1, none⟩ = some (.int .i64 a0_1) ∧ w'.cell? ⟨gb402, 0, none⟩ = some (.slice (some ad406) l1_0.length c1_0) ∧ w'.cell? ⟨gb402, 1, none⟩ = some (.slice (some ad408) l1_1.length c1_1) ∧ w'.cell? (ad408.add (x12_1).toNat) = some (.int .i64 (rd l1_1 x12_1))) (ds := []) #[false, false, false, false, false, false, false, false, false] (by kernel_rfl) rfl rfl ⟨(bC BK401.out 0).trans rfl, (bC BK401.out 1).trans rfl, (bC BK402.out 0).trans rfl, (bC BK402.out 1).trans rfl, ((HB.out.cell (World.block_lt_of_cell? w _ hw408_0)).trans hw408_0)⟩ (fun hHeld => ?_); refine with_tabW impl_Plane_mistakes.tab5 impl_Plane_mistakes.bits5 (fun HT_ HW_ => ?_)
        generalize wr.drew = w15 at HO_5 BK401 BK402 HB hx408_0 hHeld ⊢
        refine pure_ (i := 1) (N := some 18) (v := ?_) (a' := ?_) #[false, true, false, false, false, false, false, false, false] rfl rfl (any_of HT_.out (by kernel_rfl)) (fun _ _ _ h => h) (Or.inl ⟨by rfl, ?_⟩) ?_ ?_
        rotate_left
        ·
         intro w'
         go_simp
         with_reducible rfl
        rotate_left
        ·
         simp only [Act.put, sA, sZ, sU, i64_w, i32_w]
         rfl
        refine pure_ (i := 3) (N := some 20) (v := ?_) (a' := ?_) #[false, true, false, true, false, false, false, false, false] rfl rfl (any_of HT_.out (by kernel_rfl)) (fun _ _ _ h => h) (Or.inl ⟨by rfl, ?_⟩) ?_ ?_
        rotate_left
        ·
         intro w'
         go_simp
         with_reducible rfl
        rotate_left
        ·
         simp only [Act.put, sA, sZ, sU, i64_w, i32_w]
         rfl
        refine pure_ (i := 5) (N := some 22) (v := ?_) (a' := ?_) #[false, true, false, true, false, true, false, false, false] rfl rfl (any_of HT_.out (by kernel_rfl)) (fun _ _ _ h => h) (Or.inl ⟨by rfl, ?_⟩) ?_ ?_
        rotate_left
        ·
         intro w'
         go_simp
         with_reducible rfl
        rotate_left
        ·
         simp only [Act.put, sA, sZ, sU, i64_w, i32_w]
         rfl
        refine take_ (i := 0) (N := some 17) (v := ?_) (a' := ?_) #[true, true, false, true, false, true, false, false, false] rfl rfl (take_ofW HT_.out HW_.out (by kernel_rfl)) (fun _ _ _ h => h) (Or.inl ⟨by rfl, ?_⟩) hHeld ?_ ?_
        rotate_left
        ·
         rintro w' ⟨s0, s1, s2, s3, s4⟩
         first | (go_simp; with_reducible rfl) | (simp only [add_plain] at s0 s1 s2 s3 s4; go_simp; with_reducible rfl)
        rotate_left
        ·
         simp only [Act.put, sA, sZ, sU, i64_w, i32_w]
         rfl
        refine take_ (i := 4) (N := some 21) (v := ?_) (a' := ?_) #[true, true, false, true, true, true, false, false, false] rfl rfl (take_ofW HT_.out HW_.out (by kernel_rfl)) (fun _ _ _ h => h) (Or.inl ⟨by rfl, ?_⟩) hHeld ?_ ?_
        rotate_left
        ·
         rintro w' ⟨s0, s1, s2, s3, s4⟩
         first | (go_simp; with_reducible rfl) | (simp only [add_plain] at s0 s1 s2 s3 s4; go_simp; with_reducible rfl)
        rotate_left
        ·
         simp only [Act.put, sA, sZ, sU, i64_w, i32_w]
         rfl
        refine pure_ (i := 6) (N := some 23) (v := ?_) (a' := ?_) #[true, true, false, true, true, true, true, false, false] rfl rfl (any_of HT_.out (by kernel_rfl)) (fun _ _ _ h => h) (Or.inl ⟨by rfl, ?_⟩) ?_ ?_
        rotate_left
        ·
         intro w'
         go_simp
         with_reducible rfl
        rotate_left
        ·
         simp only [Act.put, sA, sZ, sU, i64_w, i32_w]
         rfl
        refine take_ (i := 7) (N := some 24) (v := ?_) (a' := ?_) #[true, true, false, true, true, true, true, true, false] rfl rfl (take_ofW HT_.out HW_.out (by kernel_rfl)) (fun _ _ _ h => h) (Or.inl ⟨by rfl, ?_⟩) hHeld ?_ ?_
        rotate_left
        ·
         rintro w' ⟨s0, s1, s2, s3, s4⟩
         first | (go_simp; with_reducible rfl) | (simp only [add_plain] at s0 s1 s2 s3 s4; go_simp; with_reducible rfl)
        rotate_left
        ·
         simp only [Act.put, sA, sZ, sU, i64_w, i32_w]
         rfl
        refine one_ (i := 2) (N := some 19) #[true, true, true, true, true, true, true, true, false] rfl rfl (one_of HT_.out (by kernel_rfl)) (by decide) (fun K hK => ?_)
        refine goes_ Try.func69 (by kernel_rfl) rfl #[.agg #[.slice A0_0 l0_0.length c0_0, .int .i64 a0_1], .slice A406_0 (rd_L2 l1_0 x12_1).length c406_0] (by rfl) rfl rfl xL ?_
        with_reducible refine (impl_Plane_side.calls k1 _ _ l0_0 a0_1 _ _ (rd_L2 l1_0 x12_1) t407 _ ?side1 ?side2 ?side3 ?side4 A12.out).mono ?_
        (case side1 => repeat (first | exact (Kd.C_below HR0_0.out HB.out) | (with_reducible refine Kd.C_alloc ?_ _) | (with_reducible refine Kd.C_drewN ?_ _) | (with_reducible refine Kd.C_drew ?_)))
        (case side2 => exact HC0_0.out)
        (case side3 => repeat (first | exact (Kd.C_below HR406_0.out HB.out) | (with_reducible refine Kd.C_alloc ?_ _) | (with_reducible refine Kd.C_drewN ?_ _) | (with_reducible refine Kd.C_drew ?_)))
        (case side4 => exact HC406_0.out)
        rintro e w16 ⟨rfl, hb⟩
        refine ⟨_, rfl, ?_⟩
        have n0_ := aM (Kd.R_below (xR HO_5.out) hb)
        have n1_ := aM (bB (g := gb401) (o := .cells #[.slice A0_0 l0_0.length c0_0, .int .i64 a0_1] 26 (0, 0)) (xB BK401.out) hb)
        have n2_ := aM (bB (g := gb402) (o := .cells #[.slice (some ad406) l1_0.length c1_0, .slice (some ad408) l1_1.length c1_1] 36 (0, 0)) (xB BK402.out) hb)
        have n3_ := aM (below_step (xG2 HB.out GE401.out GE402.out) hb)
        clear HO_5 BK401 BK402 HB
        have HO_5 := n0_
        have BK401 := n1_
        have BK402 := n2_
        have HB := n3_
        clear n0_ n1_ n2_ n3_
        (try clear hb)
        (try clear hb2)
        (try clear hk)
        (try clear hi)
        refine hK.out _ _ ⟨(bC BK401.out 0).trans rfl, (bC BK401.out 1).trans rfl, (bC BK402.out 0).trans rfl, (bC BK402.out 1).trans rfl, ((HB.out.cell (World.block_lt_of_cell? w _ hw408_0)).trans hw408_0)⟩ (fun hHeld => ?_)
        clear hK K
        refine norm_ (a' := ?_) ?_ ?_
        rotate_left
        ·
         show Act.put _ (some 19) _ = _
         simp only [Act.put, sA, sZ, sU, i64_w, i32_w]
         rfl
        refine pure_ (i := 8) (N := some 25) (v := ?_) (a' := ?_) #[true, true, true, true, true, true, true, true, true] rfl rfl (any_of HT_.out (by kernel_rfl)) (fun _ _ _ h => h) (Or.inl ⟨by rfl, ?_⟩) ?_ ?_
        rotate_left
        ·
         intro w'
         go_simp
         with_reducible rfl
        rotate_left
        ·
         simp only [Act.put, sA, sZ, sU, i64_w, i32_w]
         rfl
        refine done_ (done_of HT_.out (by kernel_rfl)) ?_
        try go_wp2
        go_roundg k1
        case measure => have := HK1.out; omega
        case rel => exact ⟨(x5_1), (wrap64 (x12_1 + 1)), (by first | rfl | (simp; done) | (simp [*]; done)), H', ⟨by have := HK1.out; omega⟩, ⟨xR HO_5.out⟩, ⟨xB BK401.out⟩, ⟨xB BK402.out⟩, ⟨xG2 HB.out GE401.out GE402.out⟩⟩
       ·
        rw [if_neg c14] at H
        have c14b0 : (t407 == (rd l1_1 x12_1)) = false := beq_eq_false_iff_ne.mpr c14
        have c14b1 : (t407 != (rd l1_1 x12_1)) = true := bne_iff_ne.mpr c14
        by_cases c17 : x5_1.length < 17592186044416
        ·
         rw [if_pos c17] at H
         have LMc17 := aM c17
         clear c17
         obtain ⟨y409, hy409⟩ : ∃ y_ : List Int, y_ = (x5_1 ++ [x12_1]) := ⟨_, rfl⟩
         replace H : (impl_Plane_mistakes.l0 k1 y409 l1_0 (l1_0.length : Int) (wrap64 (x12_1 + 1)) l0_0 a0_1 l1_0 l1_1) = some r := by first | (rw [hy409]; with_reducible exact H) | (have H2_ := (Option.bind_some _ _).symm.trans H; rw [hy409]; with_reducible exact H2_) | (have H2_ := (Option.bind_some _ _).symm.trans H; with_reducible exact H2_) | with_reducible exact H | (rw [hy409]; exact H) | exact H
         have Ny409 := aM hy409
         clear hy409
         have H' := aM H
         clear H
         have p406 : 0 ≤ (x12_1 : Int) := of_decide_eq_true (by first | (with_reducible assumption) | assumption)
         have q406 : x12_1 < (l1_0.length : Int) := of_decide_eq_true (by first | (with_reducible assumption) | assumption)
         obtain ⟨ad406, A406_0, c406_0, e406, hx406_0, hl406_0, hi406_0⟩ := at_L2 HR1_0.out x12_1 p406 q406
         cases e406
         replace hx406_0 := (HB.out.cell (World.block_lt_of_cell? w _ hx406_0)).trans hx406_0
         have HR406_0 := aM hi406_0
         have HC406_0 := aM hl406_0
         clear hi406_0 hl406_0
         replace p406 := eq_true p406
         replace q406 := eq_true q406
         try go_wp2
         have n0_ := aM (rD HO_5.out)
         have n1_ := aM (bD BK401.out)
         have n2_ := aM (bD BK402.out)
         have n3_ := aM (eD HB.out)
         clear HO_5 BK401 BK402 HB
         have HO_5 := n0_
         have BK401 := n1_
         have BK402 := n2_
         have HB := n3_
         clear n0_ n1_ n2_ n3_
         have p408 : 0 ≤ (x12_1 : Int) := of_decide_eq_true (by first | (with_reducible assumption) | assumption)
         have q408 : x12_1 < (l1_1.length : Int) := of_decide_eq_true (by first | (with_reducible assumption) | assumption)
         obtain ⟨ad408, e408, hx408_0⟩ := Kd.at_int HR1_1.out x12_1 p408 q408
         have hw408_0 := hx408_0
         cases e408
         replace hx408_0 := (HB.out.cell (World.block_lt_of_cell? w _ hx408_0)).trans hx408_0
         replace p408 := eq_true p408
         replace q408 := eq_true q408
         refine start_ (n := 9) (S := fun w' => w'.cell? ⟨gb401, 0, none⟩ = some (.slice A0_0 l0_0.length c0_0) ∧ w'.cell? ⟨gb401, 1, none⟩ = some (.int .i64 a0_1) ∧ w'.cell? ⟨gb402, 0, none⟩ = some (.slice (some ad406) l1_0.length c1_0) ∧ w'.cell? ⟨gb402, 1, none⟩ = some (.slice (some ad408) l1_1.length c1_1) ∧ w'.cell? (ad408.add (x12_1).toNat) = some (.int .i64 (rd l1_1 x12_1))) (ds := []) #[false, false, false, false, false, false, false, false, false] (by kernel_rfl) rfl rfl ⟨(bC BK401.out 0).trans rfl, (bC BK401.out 1).trans rfl, (bC BK402.out 0).trans rfl, (bC BK402.out 1).trans rfl, ((HB.out.cell (World.block_lt_of_cell? w _ hw408_0)).trans hw408_0)⟩ (fun hHeld => ?_); refine with_tabW impl_Plane_mistakes.tab5 impl_Plane_mistakes.bits5 (fun HT_ HW_ => ?_)
         generalize wr.drew = w18 at HO_5 BK401 BK402 HB hx408_0 hHeld ⊢
         refine pure_ (i := 1) (N := some 18) (v := ?_) (a' := ?_) #[false, true, false, false, false, false, false, false, false] rfl rfl (any_of HT_.out (by kernel_rfl)) (fun _ _ _ h => h) (Or.inl ⟨by rfl, ?_⟩) ?_ ?_
         rotate_left
         ·
          intro w'
          go_simp
          with_reducible rfl
         rotate_left
         ·
          simp only [Act.put, sA, sZ, sU, i64_w, i32_w]
          rfl
         refine pure_ (i := 3) (N := some 20) (v := ?_) (a' := ?_) #[false, true, false, true, false, false, false, false, false] rfl rfl (any_of HT_.out (by kernel_rfl)) (fun _ _ _ h => h) (Or.inl ⟨by rfl, ?_⟩) ?_ ?_
         rotate_left
         ·
          intro w'
          go_simp
          with_reducible rfl
         rotate_left
         ·
          simp only [Act.put, sA, sZ, sU, i64_w, i32_w]
          rfl
         refine pure_ (i := 5) (N := some 22) (v := ?_) (a' := ?_) #[false, true, false, true, false, true, false, false, false] rfl rfl (any_of HT_.out (by kernel_rfl)) (fun _ _ _ h => h) (Or.inl ⟨by rfl, ?_⟩) ?_ ?_
         rotate_left
         ·
          intro w'
          go_simp
          with_reducible rfl
         rotate_left
         ·
          simp only [Act.put, sA, sZ, sU, i64_w, i32_w]
          rfl
         refine take_ (i := 0) (N := some 17) (v := ?_) (a' := ?_) #[true, true, false, true, false, true, false, false, false] rfl rfl (take_ofW HT_.out HW_.out (by kernel_rfl)) (fun _ _ _ h => h) (Or.inl ⟨by rfl, ?_⟩) hHeld ?_ ?_
         rotate_left
         ·
          rintro w' ⟨s0, s1, s2, s3, s4⟩
          first | (go_simp; with_reducible rfl) | (simp only [add_plain] at s0 s1 s2 s3 s4; go_simp; with_reducible rfl)
         rotate_left
         ·
          simp only [Act.put, sA, sZ, sU, i64_w, i32_w]
          rfl
         refine take_ (i := 4) (N := some 21) (v := ?_) (a' := ?_) #[true, true, false, true, true, true, false, false, false] rfl rfl (take_ofW HT_.out HW_.out (by kernel_rfl)) (fun _ _ _ h => h) (Or.inl ⟨by rfl, ?_⟩) hHeld ?_ ?_
         rotate_left
         ·
          rintro w' ⟨s0, s1, s2, s3, s4⟩
          first | (go_simp; with_reducible rfl) | (simp only [add_plain] at s0 s1 s2 s3 s4; go_simp; with_reducible rfl)
         rotate_left
         ·
          simp only [Act.put, sA, sZ, sU, i64_w, i32_w]
          rfl
         refine pure_ (i := 6) (N := some 23) (v := ?_) (a' := ?_) #[true, true, false, true, true, true, true, false, false] rfl rfl (any_of HT_.out (by kernel_rfl)) (fun _ _ _ h => h) (Or.inl ⟨by rfl, ?_⟩) ?_ ?_
         rotate_left
         ·
          intro w'
          go_simp
          with_reducible rfl
         rotate_left
         ·
          simp only [Act.put, sA, sZ, sU, i64_w, i32_w]
          rfl
         refine take_ (i := 7) (N := some 24) (v := ?_) (a' := ?_) #[true, true, false, true, true, true, true, true, false] rfl rfl (take_ofW HT_.out HW_.out (by kernel_rfl)) (fun _ _ _ h => h) (Or.inl ⟨by rfl, ?_⟩) hHeld ?_ ?_
         rotate_left
         ·
          rintro w' ⟨s0, s1, s2, s3, s4⟩
          first | (go_simp; with_reducible rfl) | (simp only [add_plain] at s0 s1 s2 s3 s4; go_simp; with_reducible rfl)
         rotate_left
         ·
          simp only [Act.put, sA, sZ, sU, i64_w, i32_w]
          rfl
         refine one_ (i := 2) (N := some 19) #[true, true, true, true, true, true, true, true, false] rfl rfl (one_of HT_.out (by kernel_rfl)) (by decide) (fun K hK => ?_)
         refine goes_ Try.func69 (by kernel_rfl) rfl #[.agg #[.slice A0_0 l0_0.length c0_0, .int .i64 a0_1], .slice A406_0 (rd_L2 l1_0 x12_1).length c406_0] (by rfl) rfl rfl xL ?_
         with_reducible refine (impl_Plane_side.calls k1 _ _ l0_0 a0_1 _ _ (rd_L2 l1_0 x12_1) t407 _ ?side1 ?side2 ?side3 ?side4 A12.out).mono ?_
         (case side1 => repeat (first | exact (Kd.C_below HR0_0.out HB.out) | (with_reducible refine Kd.C_alloc ?_ _) | (with_reducible refine Kd.C_drewN ?_ _) | (with_reducible refine Kd.C_drew ?_)))
         (case side2 => exact HC0_0.out)
         (case side3 => repeat (first | exact (Kd.C_below HR406_0.out HB.out) | (with_reducible refine Kd.C_alloc ?_ _) | (with_reducible refine Kd.C_drewN ?_ _) | (with_reducible refine Kd.C_drew ?_)))
         (case side4 => exact HC406_0.out)
         rintro e w19 ⟨rfl, hb⟩
         refine ⟨_, rfl, ?_⟩
         have n0_ := aM (Kd.R_below (xR HO_5.out) hb)
         have n1_ := aM (bB (g := gb401) (o := .cells #[.slice A0_0 l0_0.length c0_0, .int .i64 a0_1] 26 (0, 0)) (xB BK401.out) hb)
         have n2_ := aM (bB (g := gb402) (o := .cells #[.slice (some ad406) l1_0.length c1_0, .slice (some ad408) l1_1.length c1_1] 36 (0, 0)) (xB BK402.out) hb)
         have n3_ := aM (below_step (xG2 HB.out GE401.out GE402.out) hb)
         clear HO_5 BK401 BK402 HB
         have HO_5 := n0_
         have BK401 := n1_
         have BK402 := n2_
         have HB := n3_
         clear n0_ n1_ n2_ n3_
         (try clear hb)
         (try clear hb2)
         (try clear hk)
         (try clear hi)
         refine hK.out _ _ ⟨(bC BK401.out 0).trans rfl, (bC BK401.out 1).trans rfl, (bC BK402.out 0).trans rfl, (bC BK402.out 1).trans rfl, ((HB.out.cell (World.block_lt_of_cell? w _ hw408_0)).trans hw408_0)⟩ (fun hHeld => ?_)
         clear hK K
         refine norm_ (a' := ?_) ?_ ?_
         rotate_left
         ·
          show Act.put _ (some 19) _ = _
          simp only [Act.put, sA, sZ, sU, i64_w, i32_w]
          rfl
         refine pure_ (i := 8) (N := some 25) (v := ?_) (a' := ?_) #[true, true, true, true, true, true, true, true, true] rfl rfl (any_of HT_.out (by kernel_rfl)) (fun _ _ _ h => h) (Or.inl ⟨by rfl, ?_⟩) ?_ ?_
         rotate_left
         ·
          intro w'
          go_simp
          with_reducible rfl
         rotate_left
         ·
          simp only [Act.put, sA, sZ, sU, i64_w, i32_w]
          rfl
         refine done_ (done_of HT_.out (by kernel_rfl)) ?_
         try go_wp2_with (first | ((with_reducible refine gate_builtin (b := .append) (xs := #[.tmp 26, .tmp 28]) rfl ?_); at_builtin; refine Kd.R_append (Kd.int .i64) (w0 := w) w.heap.size rfl (.tmp 26) (.tmp 28) 24 3 (.int .i64 0) 8 rfl Try.underlying24 info3 rfl (by decide) (by omega) u5 x5_1 x12_1 [.int .i64 x12_1] (fun _ => True) (fun _ => False) rfl rfl ?aP (fun _ hk => hk.elim) ?aF ?aO ?aB ?aS ?aL ?_; (case aP => exact rfl); (case aB => exact (xG2 HB.out GE401.out GE402.out)); (case aF => exact (fun _ _ => trivial)); (case aO => exact (xR HO_5.out)); (case aS => exact (below_size (xG2 HB.out GE401.out GE402.out))); (case aL => have := LMc17.out; omega); intro v410 w20 ho hb hg hat; rw [← Ny409.out] at ho; replace BK401 := aM (blk_grown (g := gb401) (o := .cells #[.slice A0_0 l0_0.length c0_0, .int .i64 a0_1] 26 (0, 0)) (xB BK401.out) hg (Kd.R_ne HO_5.out BK401.out (by decide))); replace BK402 := aM (blk_grown (g := gb402) (o := .cells #[.slice (some ad406) l1_0.length c1_0, .slice (some ad408) l1_1.length c1_1] 36 (0, 0)) (xB BK402.out) hg (Kd.R_ne HO_5.out BK402.out (by decide))); replace HB := aM (hb); have HO411 := aM (ho); clear HO_5; clear ho hb hg hat))
         go_roundg k1
         case measure => have := HK1.out; omega
         case rel => exact ⟨(y409), (wrap64 (x12_1 + 1)), (by first | rfl | (simp; done) | (simp [*]; done)), H', ⟨by have := HK1.out; omega⟩, ⟨xR HO411.out⟩, ⟨xB BK401.out⟩, ⟨xB BK402.out⟩, ⟨xG2 HB.out GE401.out GE402.out⟩⟩
        ·
         rw [if_neg c17] at H
         exact absurd H (by simp)
      ·
       rw [if_neg c13] at H
       exact absurd H (by simp)
     ·
      rw [if_neg c11] at H
      exact absurd H (by simp)
    ·
     rw [if_neg c10] at H
     exact absurd H (by simp)
   ·
    rw [if_neg c9] at H
    have c9b0 : decide (x12_1 < (l1_0.length : Int)) = false := decide_eq_false c9
    clear c9
    obtain rfl := Option.some.inj H
    go_wp2
    go_ret
    exact ⟨_, by first | rfl | (simp [errW_none, errW_some] <;> rfl) | (simp [*, errW_none, errW_some] <;> rfl), by (with_reducible repeat (first | apply rA | apply rN | apply rD)); exact HO_5.out, xG2 HB.out GE401.out GE402.out⟩
def impl_FitsSample.f (k : Nat) (l0_0 : List (List Int)) (l0_1 : List Int) (l1_0 : List Int) (a1_1 : Int) : Option (Bool × Bool) := (impl_suits.f k l0_0 l0_1 l1_0 a1_1).bind fun t414 => (if t414 = true then ((impl_Plane_mistakes.f k l1_0 a1_1 l0_0 l0_1).bind fun t415 => (some (((t415.length : Int) == 0), true))) else (some (false, false)))
theorem impl_FitsSample.mono : ∀ a0 a1 a2 a3 k, LeO (impl_FitsSample.f k a0 a1 a2 a3) (impl_FitsSample.f (k + 1) a0 a1 a2 a3) := by
 intro a0 a1 a2 a3 k
 unfold impl_FitsSample.f
 repeat' first
   | (with_reducible exact impl_Plane_mistakes.mono _ _ _ _ _)
   | (with_reducible exact impl_suits.mono _ _ _ _ _)
   | (with_reducible exact LeO.refl _)
   | (with_reducible exact LeO.none _)
   | (with_reducible refine LeO.ite ?_ ?_)
   | (with_reducible refine LeO.bind ?_ (fun _ => ?_))
   | exact impl_Plane_mistakes.mono _ _ _ _ _
   | exact impl_suits.mono _ _ _ _ _
   | exact LeO.none _
   | refine LeO.ite ?_ ?_
   | refine LeO.bind ?_ (fun _ => ?_)
set_option maxHeartbeats 8000000 in
set_option maxRecDepth 100000 in
theorem impl_FitsSample.calls (k : Nat) (A0_0 : Option Addr) (c0_0 : Nat) (l0_0 : List (List Int)) (A0_1 : Option Addr) (c0_1 : Nat) (l0_1 : List Int) (A1_0 : Option Addr) (c1_0 : Nat) (l1_0 : List Int) (a1_1 : Int) (r1 : Bool) (r2 : Bool) (w : World) (hr0_0 : Kd.C (Kd.slice 3 (Kd.int .i64)) w A0_0 l0_0.length l0_0) (hc0_0 : l0_0.length ≤ c0_0) (hr0_1 : Kd.C (Kd.int .i64) w A0_1 l0_1.length l0_1) (hc0_1 : l0_1.length ≤ c0_1) (hr1_0 : Kd.C (Kd.int .i64) w A1_0 l1_0.length l1_0) (hc1_0 : l1_0.length ≤ c1_0) (h : impl_FitsSample.f k l0_0 l0_1 l1_0 a1_1 = some (r1, r2)) :
  Calls Try.prog 19 #[.agg #[.slice A0_0 l0_0.length c0_0, .slice A0_1 l0_1.length c0_1], .agg #[.slice A1_0 l1_0.length c1_0, .int .i64 a1_1]] w fun e w' => e = .returned (.tuple #[.bool r1, .bool r2]) ∧ Below w.heap.size w w' := by
 have hu36 := Try.underlying36
 have hu26 := Try.underlying26
 have HR0_0 := aM hr0_0
 have HC0_0 := aM hc0_0
 clear hr0_0 hc0_0
 have HR0_1 := aM hr0_1
 have HC0_1 := aM hc0_1
 clear hr0_1 hc0_1
 have HR1_0 := aM hr1_0
 have HC1_0 := aM hc1_0
 clear hr1_0 hc1_0
 have HB := aM (Below.refl w.heap.size w)
 have H : ((impl_suits.f k l0_0 l0_1 l1_0 a1_1).bind fun t414 => (if t414 = true then ((impl_Plane_mistakes.f k l1_0 a1_1 l0_0 l0_1).bind fun t415 => (some (((t415.length : Int) == 0), true))) else (some (false, false)))) = some (r1, r2) := h
 clear h
 replace H := oB.mp H
 obtain ⟨t414, A30, H⟩ := H
 replace H : (if t414 = true then ((impl_Plane_mistakes.f k l1_0 a1_1 l0_0 l0_1).bind fun t415 => (some (((t415.length : Int) == 0), true))) else (some (false, false))) = some (r1, r2) := H
 have A3 := aM A30
 clear A30
 by_cases c4 : t414 = true
 ·
  subst c4
  have H1 : ((impl_Plane_mistakes.f k l1_0 a1_1 l0_0 l0_1).bind fun t415 => (some (((t415.length : Int) == 0), true))) = some (r1, r2) := by rw [if_pos rfl] at H; exact H
  clear H
  have H := H1
  clear H1
  replace H := oB.mp H
  obtain ⟨t415, A50, H⟩ := H
  replace H : (some (((t415.length : Int) == 0), true)) = some (r1, r2) := H
  have A5 := aM A50
  clear A50
  simp only [Option.some.injEq, Prod.mk.injEq] at H
  obtain ⟨rfl, rfl⟩ := H
  go_enter Try.func19, Try.ntmps19
  go_wp2_with (first | ((with_reducible refine gate_dst (N := 2) rfl ?_); refine box_event ?hg (N := 2) ?hd (cs := #[.slice A0_0 l0_0.length c0_0, .slice A0_1 l0_1.length c0_1]) (t := 36) ?hr ?_; (case hd => rfl); (case hg => rfl); (case hr => first | (go_simp; done) | (go_simp; rfl)); intro gb412 hg w6 hbox hb; have BK412 := aM (hbox); have GW412 := aM ((by rw [hg]; exact (below_size (xH HB.out)) : w.heap.size ≤ gb412)); have GE412 := aM ((by rw [hg]; exact (below_size (xH HB.out)) : w.heap.size ≤ gb412)); replace HB := aM (below_step (xH HB.out) hb); clear hb hbox hg) | ((with_reducible refine gate_dst (N := 3) rfl ?_); refine box_event ?hg (N := 3) ?hd (cs := #[.slice A1_0 l1_0.length c1_0, .int .i64 a1_1]) (t := 26) ?hr ?_; (case hd => rfl); (case hg => rfl); (case hr => first | (go_simp; done) | (go_simp; rfl)); intro gb413 hg w7 hbox hb; have BK413 := aM (hbox); have GW413 := aM ((by rw [hg]; exact (below_size (xG1 HB.out GE412.out)) : w.heap.size ≤ gb413)); have GE413 := aM ((by rw [hg]; exact (below_size (xG1 HB.out GE412.out)) : w.heap.size ≤ gb413)); replace HB := aM (below_step (xG1 HB.out GE412.out) hb); have NB412_413 := aM ((by rw [hg]; exact Nat.ne_of_lt (blk_lt (g := gb412) (o := .cells #[.slice A0_0 l0_0.length c0_0, .slice A0_1 l0_1.length c0_1] 36 (0, 0)) (xB BK412.out)) : gb412 ≠ gb413)); have NB413_412 := aM ((by rw [hg]; exact Nat.ne_of_gt (blk_lt (g := gb412) (o := .cells #[.slice A0_0 l0_0.length c0_0, .slice A0_1 l0_1.length c0_1] 36 (0, 0)) (xB BK412.out)) : gb413 ≠ gb412)); replace BK412 := aM (bB (g := gb412) (o := .cells #[.slice A0_0 l0_0.length c0_0, .slice A0_1 l0_1.length c0_1] 36 (0, 0)) (xB BK412.out) hb); clear hb hbox hg; have hnb8 := NB412_413.out; have hnc8 := NB413_412.out; have hcz9_0 : w7.cell? ⟨gb412, 0, none⟩ = some (.slice A0_0 l0_0.length c0_0) := (bC BK412.out 0).trans rfl; have hcz9_1 : w7.cell? ⟨gb412, 1, none⟩ = some (.slice A0_1 l0_1.length c0_1) := (bC BK412.out 1).trans rfl; have hfz9_0 := bF BK412.out 0; have hfz9_1 := bF BK412.out 1; have hcz10_0 : w7.cell? ⟨gb413, 0, none⟩ = some (.slice A1_0 l1_0.length c1_0) := (bC BK413.out 0).trans rfl; have hcz10_1 : w7.cell? ⟨gb413, 1, none⟩ = some (.int .i64 a1_1) := (bC BK413.out 1).trans rfl; have hfz10_0 := bF BK413.out 0; have hfz10_1 := bF BK413.out 1) | ((with_reducible refine gate_callee (f := 66) rfl ?_); refine goesL_ (some 8) rfl rfl Try.func66 (by kernel_rfl) rfl #[.agg #[.slice A0_0 l0_0.length c0_0, .slice A0_1 l0_1.length c0_1], .agg #[.slice A1_0 l1_0.length c1_0, .int .i64 a1_1]] rfl xL ?_; (with_reducible refine (impl_suits.calls k _ _ l0_0 _ _ l0_1 _ _ l1_0 a1_1 true _ ?side1 ?side2 ?side3 ?side4 ?side5 ?side6 A3.out).mono ?_); (case side1 => repeat (first | exact (Kd.C_below HR0_0.out HB.out) | (with_reducible refine Kd.C_alloc ?_ _) | (with_reducible refine Kd.C_drewN ?_ _) | (with_reducible refine Kd.C_drew ?_))); (case side2 => exact HC0_0.out); (case side3 => repeat (first | exact (Kd.C_below HR0_1.out HB.out) | (with_reducible refine Kd.C_alloc ?_ _) | (with_reducible refine Kd.C_drewN ?_ _) | (with_reducible refine Kd.C_drew ?_))); (case side4 => exact HC0_1.out); (case side5 => repeat (first | exact (Kd.C_below HR1_0.out HB.out) | (with_reducible refine Kd.C_alloc ?_ _) | (with_reducible refine Kd.C_drewN ?_ _) | (with_reducible refine Kd.C_drew ?_))); (case side6 => exact HC1_0.out); rintro e w11 ⟨rfl, hb⟩; refine ⟨_, rfl, ?_⟩; replace BK412 := aM (bB (g := gb412) (o := .cells #[.slice A0_0 l0_0.length c0_0, .slice A0_1 l0_1.length c0_1] 36 (0, 0)) (xB BK412.out) hb); replace BK413 := aM (bB (g := gb413) (o := .cells #[.slice A1_0 l1_0.length c1_0, .int .i64 a1_1] 26 (0, 0)) (xB BK413.out) hb); replace HB := aM (below_step (xG2 HB.out GE412.out GE413.out) hb); (try clear hb; try clear hb2; try clear hk; try clear hi); have hcz12_0 : w11.cell? ⟨gb413, 0, none⟩ = some (.slice A1_0 l1_0.length c1_0) := (bC BK413.out 0).trans rfl; have hcz12_1 : w11.cell? ⟨gb413, 1, none⟩ = some (.int .i64 a1_1) := (bC BK413.out 1).trans rfl; have hfz12_0 := bF BK413.out 0; have hfz12_1 := bF BK413.out 1; have hcz13_0 : w11.cell? ⟨gb412, 0, none⟩ = some (.slice A0_0 l0_0.length c0_0) := (bC BK412.out 0).trans rfl; have hcz13_1 : w11.cell? ⟨gb412, 1, none⟩ = some (.slice A0_1 l0_1.length c0_1) := (bC BK412.out 1).trans rfl; have hfz13_0 := bF BK412.out 0; have hfz13_1 := bF BK412.out 1) | ((with_reducible refine gate_callee (f := 67) rfl ?_); refine goesL_ (some 12) rfl rfl Try.func67 (by kernel_rfl) rfl #[.agg #[.slice A1_0 l1_0.length c1_0, .int .i64 a1_1], .agg #[.slice A0_0 l0_0.length c0_0, .slice A0_1 l0_1.length c0_1]] rfl xL ?_; (with_reducible refine (impl_Plane_mistakes.calls k _ _ l1_0 a1_1 _ _ l0_0 _ _ l0_1 t415 _ ?side1 ?side2 ?side3 ?side4 ?side5 ?side6 A5.out).mono ?_); (case side1 => repeat (first | exact (Kd.C_below HR1_0.out HB.out) | (with_reducible refine Kd.C_alloc ?_ _) | (with_reducible refine Kd.C_drewN ?_ _) | (with_reducible refine Kd.C_drew ?_))); (case side2 => exact HC1_0.out); (case side3 => repeat (first | exact (Kd.C_below HR0_0.out HB.out) | (with_reducible refine Kd.C_alloc ?_ _) | (with_reducible refine Kd.C_drewN ?_ _) | (with_reducible refine Kd.C_drew ?_))); (case side4 => exact HC0_0.out); (case side5 => repeat (first | exact (Kd.C_below HR0_1.out HB.out) | (with_reducible refine Kd.C_alloc ?_ _) | (with_reducible refine Kd.C_drewN ?_ _) | (with_reducible refine Kd.C_drew ?_))); (case side6 => exact HC0_1.out); rintro e w14 ⟨v416, rfl, ho0, hb⟩; refine ⟨_, rfl, ?_⟩; have HO417 := aM (Kd.R_lower ho0 (below_size (xG2 HB.out GE412.out GE413.out))); replace BK412 := aM (bB (g := gb412) (o := .cells #[.slice A0_0 l0_0.length c0_0, .slice A0_1 l0_1.length c0_1] 36 (0, 0)) (xB BK412.out) hb); replace BK413 := aM (bB (g := gb413) (o := .cells #[.slice A1_0 l1_0.length c1_0, .int .i64 a1_1] 26 (0, 0)) (xB BK413.out) hb); replace HB := aM (below_step (xG2 HB.out GE412.out GE413.out) hb); (try clear hb; try clear hb2; try clear hk; try clear hi; try clear ho0); obtain ⟨Ao15, co15, eo15⟩ := Kd.R_slice HO417.out; subst eo15))
  go_ret2
  exact ⟨by first | rfl | (simp [errW_none, errW_some] <;> rfl) | (simp [*, errW_none, errW_some] <;> rfl), xG2 HB.out GE412.out GE413.out⟩
 ·
  replace c4 := Bool.eq_false_iff.mpr c4
  subst c4
  have H1 : (some (false, false)) = some (r1, r2) := by rw [if_neg (show ¬ (false = true) by decide)] at H; exact H
  clear H
  have H := H1
  clear H1
  simp only [Option.some.injEq, Prod.mk.injEq] at H
  obtain ⟨rfl, rfl⟩ := H
  go_enter Try.func19, Try.ntmps19
  go_wp2_with (first | ((with_reducible refine gate_dst (N := 2) rfl ?_); refine box_event ?hg (N := 2) ?hd (cs := #[.slice A0_0 l0_0.length c0_0, .slice A0_1 l0_1.length c0_1]) (t := 36) ?hr ?_; (case hd => rfl); (case hg => rfl); (case hr => first | (go_simp; done) | (go_simp; rfl)); intro gb412 hg w16 hbox hb; have BK412 := aM (hbox); have GW412 := aM ((by rw [hg]; exact (below_size (xH HB.out)) : w.heap.size ≤ gb412)); have GE412 := aM ((by rw [hg]; exact (below_size (xH HB.out)) : w.heap.size ≤ gb412)); replace HB := aM (below_step (xH HB.out) hb); clear hb hbox hg) | ((with_reducible refine gate_dst (N := 3) rfl ?_); refine box_event ?hg (N := 3) ?hd (cs := #[.slice A1_0 l1_0.length c1_0, .int .i64 a1_1]) (t := 26) ?hr ?_; (case hd => rfl); (case hg => rfl); (case hr => first | (go_simp; done) | (go_simp; rfl)); intro gb413 hg w17 hbox hb; have BK413 := aM (hbox); have GW413 := aM ((by rw [hg]; exact (below_size (xG1 HB.out GE412.out)) : w.heap.size ≤ gb413)); have GE413 := aM ((by rw [hg]; exact (below_size (xG1 HB.out GE412.out)) : w.heap.size ≤ gb413)); replace HB := aM (below_step (xG1 HB.out GE412.out) hb); have NB412_413 := aM ((by rw [hg]; exact Nat.ne_of_lt (blk_lt (g := gb412) (o := .cells #[.slice A0_0 l0_0.length c0_0, .slice A0_1 l0_1.length c0_1] 36 (0, 0)) (xB BK412.out)) : gb412 ≠ gb413)); have NB413_412 := aM ((by rw [hg]; exact Nat.ne_of_gt (blk_lt (g := gb412) (o := .cells #[.slice A0_0 l0_0.length c0_0, .slice A0_1 l0_1.length c0_1] 36 (0, 0)) (xB BK412.out)) : gb413 ≠ gb412)); replace BK412 := aM (bB (g := gb412) (o := .cells #[.slice A0_0 l0_0.length c0_0, .slice A0_1 l0_1.length c0_1] 36 (0, 0)) (xB BK412.out) hb); clear hb hbox hg; have hnb18 := NB412_413.out; have hnc18 := NB413_412.out; have hcz19_0 : w17.cell? ⟨gb412, 0, none⟩ = some (.slice A0_0 l0_0.length c0_0) := (bC BK412.out 0).trans rfl; have hcz19_1 : w17.cell? ⟨gb412, 1, none⟩ = some (.slice A0_1 l0_1.length c0_1) := (bC BK412.out 1).trans rfl; have hfz19_0 := bF BK412.out 0; have hfz19_1 := bF BK412.out 1; have hcz20_0 : w17.cell? ⟨gb413, 0, none⟩ = some (.slice A1_0 l1_0.length c1_0) := (bC BK413.out 0).trans rfl; have hcz20_1 : w17.cell? ⟨gb413, 1, none⟩ = some (.int .i64 a1_1) := (bC BK413.out 1).trans rfl; have hfz20_0 := bF BK413.out 0; have hfz20_1 := bF BK413.out 1) | ((with_reducible refine gate_callee (f := 66) rfl ?_); refine goesL_ (some 8) rfl rfl Try.func66 (by kernel_rfl) rfl #[.agg #[.slice A0_0 l0_0.length c0_0, .slice A0_1 l0_1.length c0_1], .agg #[.slice A1_0 l1_0.length c1_0, .int .i64 a1_1]] rfl xL ?_; (with_reducible refine (impl_suits.calls k _ _ l0_0 _ _ l0_1 _ _ l1_0 a1_1 false _ ?side1 ?side2 ?side3 ?side4 ?side5 ?side6 A3.out).mono ?_); (case side1 => repeat (first | exact (Kd.C_below HR0_0.out HB.out) | (with_reducible refine Kd.C_alloc ?_ _) | (with_reducible refine Kd.C_drewN ?_ _) | (with_reducible refine Kd.C_drew ?_))); (case side2 => exact HC0_0.out); (case side3 => repeat (first | exact (Kd.C_below HR0_1.out HB.out) | (with_reducible refine Kd.C_alloc ?_ _) | (with_reducible refine Kd.C_drewN ?_ _) | (with_reducible refine Kd.C_drew ?_))); (case side4 => exact HC0_1.out); (case side5 => repeat (first | exact (Kd.C_below HR1_0.out HB.out) | (with_reducible refine Kd.C_alloc ?_ _) | (with_reducible refine Kd.C_drewN ?_ _) | (with_reducible refine Kd.C_drew ?_))); (case side6 => exact HC1_0.out); rintro e w21 ⟨rfl, hb⟩; refine ⟨_, rfl, ?_⟩; replace BK412 := aM (bB (g := gb412) (o := .cells #[.slice A0_0 l0_0.length c0_0, .slice A0_1 l0_1.length c0_1] 36 (0, 0)) (xB BK412.out) hb); replace BK413 := aM (bB (g := gb413) (o := .cells #[.slice A1_0 l1_0.length c1_0, .int .i64 a1_1] 26 (0, 0)) (xB BK413.out) hb); replace HB := aM (below_step (xG2 HB.out GE412.out GE413.out) hb); (try clear hb; try clear hb2; try clear hk; try clear hi)))
  go_ret2
  exact ⟨by first | rfl | (simp [errW_none, errW_some] <;> rfl) | (simp [*, errW_none, errW_some] <;> rfl), xG2 HB.out GE412.out GE413.out⟩
end Go.Proofs.Ytkgekmpnbhomgaa.PFnBits
