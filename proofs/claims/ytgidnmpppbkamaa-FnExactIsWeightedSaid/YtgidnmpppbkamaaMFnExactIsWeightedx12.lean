-- Laid for this claim by a program of the session's own (wip/tool/myprint.py).
import Derived.Test.YtgidnmpppbkamaaMFnExactIsWeightedx0
import Derived.Test.YtgidnmpppbkamaaMFnExactIsWeightedx11
namespace Go.Proofs.Ytgidnmpppbkamaa.PFnExactIsWeighted
open Go.RowKit Go.Proofs.YtgidnmpppbkamaaW.PrintWords Go.Proofs.YtgidnmpppbkamaaW.PrintLast Go.Proofs.YtgidnmpppbkamaaW.PrintMore
attribute [local go_sem] max2_int min2_int max_two min_two max_three min_three max_four min_four
set_option linter.unusedVariables false
set_option linter.unusedSimpArgs false
mutual
def impl_TableSample.j0 : Nat → Int → List Int → Bool → Option ((List (List Int)) × List Int × Bool)
 | 0, _, _, _ => none
 | k + 1, x0, x1, x16 => if x16 = true then (some (([] : List (List Int)), ([] : List Int), false)) else (impl_TableSample.l0 k x0 x1 (x1.length : Int) 0 ([] : List (List Int)) ([] : List Int))
def impl_TableSample.l0 : Nat → Int → List Int → Int → Int → List (List Int) → List Int → Option ((List (List Int)) × List Int × Bool)
 | 0, _, _, _, _, _, _ => none
 | k + 1, x0, x19, x20, x21, x352000, x352001 => if x21 < x20 then (if 0 ≤ x21 then (if x21 < (x19.length : Int) then ((impl_bitPoint.f k x0 x21).bind fun t353 => ((some (([t353] : List (List Int)) : List (List Int))).bind fun y356 => (if x352000.length + y356.length < 5864062014805 then ((some (([wrap64 ((wrap64 (2 * (rd x19 x21))) - 1)] : List Int) : List Int)).bind fun y362 => (if x352001.length + y362.length < 17592186044416 then (impl_TableSample.l0 k x0 x19 x20 (wrap64 (x21 + 1)) (x352000 ++ y356) (x352001 ++ y362)) else (none))) else (none)))) else (none)) else (none)) else (some (x352000, x352001, true))
end
def impl_TableSample.f (k : Nat) (a0 : Int) (l1 : List Int) : Option ((List (List Int)) × List Int × Bool) := if a0 = 0 then (impl_TableSample.j0 k a0 l1 true) else ((impl_isTable.f k a0 l1).bind fun t350 => (impl_TableSample.j0 k a0 l1 (!t350)))
def impl_TableSample.T7 : Bool × List (List Nat × List Nat) := (true, [([], []), ([0], [0]), ([], []), ([], []), ([2, 3], [2, 3]), ([4], [4]), ([1, 5, 4], [1, 5]), ([], []), ([7], [7]), ([], []), ([9], [9]), ([10], [10]), ([11], [11]), ([8, 12, 6], [8, 12]), ([0, 1, 2, 3, 4, 5, 6, 7, 8], []), ([14, 6, 13, 0, 1, 2, 3, 4, 5, 6, 7, 8], [6, 14]), ([0, 1, 2, 3, 4, 5, 6, 7, 8, 9, 10, 11, 12, 13, 14, 15], []), ([16, 13, 15, 0, 1, 2, 3, 4, 5, 6, 7, 8, 9, 10, 11, 12, 13, 14, 15], [13, 16])])
def impl_TableSample.B7 : List Nat := [0, 1, 0, 0, 12, 28, 63, 0, 128, 0, 512, 1536, 3584, 8191, 511, 32767, 65535, 131071]
theorem impl_TableSample.tab7 : rtab .any (opsOf Try.f29 7) = impl_TableSample.T7 := by kernel_rfl
theorem impl_TableSample.bits7 : waitsOk impl_TableSample.T7.2 impl_TableSample.B7 = true := by kernel_rfl
set_option maxHeartbeats 8000000 in
set_option maxRecDepth 100000 in
theorem impl_TableSample.calls (k : Nat) (a0 : Int) (A1 : Option Addr) (c1 : Nat) (l1 : List Int) (r1 : List (List Int)) (r2 : List Int) (r3 : Bool) (w : World) (hr1 : Kd.C (Kd.int .i64) w A1 l1.length l1) (hc1 : l1.length ≤ c1) (h : impl_TableSample.f k a0 l1 = some (r1, r2, r3)) :
  Calls Try.prog 29 #[.int .i64 a0, .slice A1 l1.length c1] w fun e w' => ∃ v0_ v1_ : Value, e = .returned (.tuple #[.agg #[v0_, v1_], .bool r3]) ∧ Kd.N (Kd.slice 3 (Kd.int .i64)) 22 w' w.heap.size (fun k_ => (w.heap.size ≤ k_) ∧ some k_ ≠ (v1_ : Value).ownBlock) v0_ r1 ∧ Kd.R (Kd.int .i64) 3 w' w.heap.size (fun k_ => (w.heap.size ≤ k_)) v1_ r2 ∧ Below w.heap.size w w' := by
 have hu43 := Try.underlying43
 have HR1 := aM hr1
 have HC1 := aM hc1
 clear hr1 hc1
 have HB := aM (Below.refl w.heap.size w)
 have H : (if a0 = 0 then (impl_TableSample.j0 k a0 l1 true) else ((impl_isTable.f k a0 l1).bind fun t350 => (impl_TableSample.j0 k a0 l1 (!t350)))) = some (r1, r2, r3) := h
 clear h
 have HC3 := aM H
 clear H
 go_enter Try.func29, Try.ntmps29
 go_upto_region 1 with (first | ((with_reducible refine gate_dst (N := 4) rfl ?_); refine box_event ?hg (N := 4) ?hd (cs := #[.slice none 0 0, .slice none 0 0]) (t := 43) ?hr ?_; (case hd => rfl); (case hg => rfl); (case hr => first | (go_simp; done) | (go_simp; rfl)); intro gb349 hg w4 hbox hb; have BK349 := aM (hbox); have GW349 := aM ((by rw [hg]; exact (below_size (xH HB.out)) : w.heap.size ≤ gb349)); have GE349 := aM ((by rw [hg]; exact (below_size (xH HB.out)) : w.heap.size ≤ gb349)); replace HB := aM (below_step (xH HB.out) hb); clear hb hbox hg))
 (try simp only [Act.put, sA, sZ, sU])
 go_cut [16] (fun v16 wc => ∃ (kq : Nat) (x16_2 : Bool), v16 = .bool x16_2 ∧ Aside0 (impl_TableSample.j0 kq a0 l1 x16_2 = some (r1, r2, r3)) ∧ Aside0 (kq ≤ k) ∧ Aside0 (wc.heap[gb349]? = some (.cells #[(.slice none 0 0), (.slice none 0 0)] 43 (0, 0))) ∧ Aside0 (Below w.heap.size w wc))
 case first =>
  have H := HC3.out
  clear HC3
  by_cases c5 : a0 = 0
  ·
   rw [if_pos c5] at H
   have c5b0 : (a0 == 0) = true := beq_iff_eq.mpr c5
   have c5b1 : (a0 != 0) = false := bne_eq_false_iff_eq.mpr c5
   clear c5
   (first | rw [c5b0] | (simp only [i64_w, i32_w]; rw [c5b0]) | rw [c5b1] | skip)
   have H' := aM H
   clear H
   go_wp2
   go_meet
   case rel => exact ⟨_, (true), (by first | rfl | (simp; done) | (simp [*]; done)), H', ⟨by first | omega | exact Nat.le_refl _⟩, ⟨xB BK349.out⟩, ⟨xG1 HB.out GE349.out⟩⟩
  ·
   rw [if_neg c5] at H
   have c5b0 : (a0 == 0) = false := beq_eq_false_iff_ne.mpr c5
   have c5b1 : (a0 != 0) = true := bne_iff_ne.mpr c5
   (first | rw [c5b0] | (simp only [i64_w, i32_w]; rw [c5b0]) | rw [c5b1] | skip)
   replace H := oB.mp H
   obtain ⟨t350, A60, H⟩ := H
   replace H : (impl_TableSample.j0 k a0 l1 (!t350)) = some (r1, r2, r3) := H
   have A6 := aM A60
   clear A60
   have H' := aM H
   clear H
   go_wp2_with (first | (go_at_call 27; (with_reducible refine (impl_isTable.calls k a0 _ _ l1 t350 _ ?side1 ?side2 A6.out).mono ?_); (case side1 => repeat (first | exact (Kd.C_below HR1.out HB.out) | (with_reducible refine Kd.C_alloc ?_ _) | (with_reducible refine Kd.C_drewN ?_ _) | (with_reducible refine Kd.C_drew ?_))); (case side2 => exact HC1.out); rintro e w' ⟨rfl, ⟨nd, rfl⟩⟩))
   go_meet
   case rel => exact ⟨_, (!t350), (by first | rfl | (simp; done) | (simp [*]; done)), H', ⟨by first | omega | exact Nat.le_refl _⟩, ⟨xB BK349.out⟩, ⟨xG1 HB.out GE349.out⟩⟩
 case rest =>
  clear HC3
  try clear c1; try clear c5; try clear c5b0; try clear c5b1
  obtain ⟨kq, x16_2, rfl, HA, HJ2, BK349, HB⟩ := hcut
  cases kq with
  | zero => exact absurd HA.out (by simp [impl_TableSample.j0])
  | succ kj2 =>
   have H := HA.out
   clear HA
   simp only [impl_TableSample.j0] at H
   by_cases c7 : x16_2 = true
   ·
    subst c7
    have H1 : (some (([] : List (List Int)), ([] : List Int), false)) = some (r1, r2, r3) := by rw [if_pos rfl] at H; exact H
    clear H
    have H := H1
    clear H1
    simp only [Option.some.injEq, Prod.mk.injEq] at H
    obtain ⟨rfl, rfl, rfl⟩ := H
    have hcz8_0 : wc.cell? ⟨gb349, 0, none⟩ = some (.slice none 0 0) := (bC BK349.out 0).trans rfl
    have hcz8_1 : wc.cell? ⟨gb349, 1, none⟩ = some (.slice none 0 0) := (bC BK349.out 1).trans rfl
    have hfz8_0 := bF BK349.out 0
    have hfz8_1 := bF BK349.out 1
    go_wp2
    refine bodyPost_ret (results_ct rfl _ _ gb349 43 #[.slice none 0 0, .slice none 0 0] (0, 0) _ rfl (by (with_reducible repeat (first | refine bN ?_ _ | refine bD ?_ | refine bA ?_ _)); refine blk_put (cs := #[.slice none 0 0, .slice none 0 0]) ?_ 1 _ rfl; (with_reducible repeat (first | refine bN ?_ _ | refine bD ?_ | refine bA ?_ _)); refine blk_put (cs := #[.slice none 0 0, .slice none 0 0]) ?_ 0 _ rfl; (with_reducible repeat (first | refine bN ?_ _ | refine bD ?_ | refine bA ?_ _)); exact BK349.out) Try.underlying43 rfl (by kernel_rfl)) rfl ?_
    exact ⟨_, _, by first | rfl | (simp [errW_none, errW_some] <;> rfl) | (simp [*, errW_none, errW_some] <;> rfl), by first | exact Kd.S_nil _ _ _ _ _ | exact Kd.N_nil _ _ _ _ _ | exact Kd.V_nil _ _ _ _ _ | exact Kd.Q_nil _ _ _ _ _ | exact Kd.R_nil _ _ _ _ _, by first | exact Kd.R_nil _ _ _ _ _ | exact Kd.N_nil _ _ _ _ _ | exact Kd.V_nil _ _ _ _ _ | exact Kd.Q_nil _ _ _ _ _ | exact Kd.S_nil _ _ _ _ _, xG1 HB.out GE349.out⟩
   ·
    replace c7 := Bool.eq_false_iff.mpr c7
    subst c7
    have H1 : (impl_TableSample.l0 kj2 a0 l1 (l1.length : Int) 0 ([] : List (List Int)) ([] : List Int)) = some (r1, r2, r3) := by rw [if_neg (show ¬ (false = true) by decide)] at H; exact H
    clear H
    have H := H1
    clear H1
    have H' := aM H
    clear H
    go_wp2_with (first | ((with_reducible refine gate_dst (N := 6) rfl ?_); refine box_event ?hg (N := 6) ?hd (cs := #[.slice none 0 0, .slice none 0 0]) (t := 43) ?hr ?_; (case hd => rfl); (case hg => rfl); (case hr => first | (go_simp; done) | (go_simp; rfl)); intro gb351 hg w9 hbox hb; have BK351 := aM (hbox); have GW351 := aM ((by rw [hg]; exact (below_size (xG1 HB.out GE349.out)) : w.heap.size ≤ gb351)); have GE351 := aM ((by rw [hg]; exact (below_size (xG1 HB.out GE349.out)) : w.heap.size ≤ gb351)); replace HB := aM (below_step (xG1 HB.out GE349.out) hb); have NB349_351 := aM ((by rw [hg]; exact Nat.ne_of_lt (blk_lt (g := gb349) (o := .cells #[.slice none 0 0, .slice none 0 0] 43 (0, 0)) (xB BK349.out)) : gb349 ≠ gb351)); have NB351_349 := aM ((by rw [hg]; exact Nat.ne_of_gt (blk_lt (g := gb349) (o := .cells #[.slice none 0 0, .slice none 0 0] 43 (0, 0)) (xB BK349.out)) : gb351 ≠ gb349)); replace BK349 := aM (bB (g := gb349) (o := .cells #[.slice none 0 0, .slice none 0 0] 43 (0, 0)) (xB BK349.out) hb); clear hb hbox hg; have hnb10 := NB351_349.out; have hnc10 := NB349_351.out; have hcz11_0 : w9.cell? ⟨gb351, 0, none⟩ = some (.slice none 0 0) := (bC BK351.out 0).trans rfl; have hcz11_1 : w9.cell? ⟨gb351, 1, none⟩ = some (.slice none 0 0) := (bC BK351.out 1).trans rfl; have hfz11_0 := bF BK351.out 0; have hfz11_1 := bF BK351.out 1))
    go_loopg [21] kj2 (fun kq v21 w' => ∃ (x21_2 : Int) (x352000_2 : List (List Int)) (x352001_2 : List Int) (u352000 : Value) (u352001 : Value), v21 = .int .i64 x21_2 ∧ Aside0 (impl_TableSample.l0 kq a0 l1 (l1.length : Int) x21_2 x352000_2 x352001_2 = some (r1, r2, r3)) ∧ Aside0 (kq ≤ kj2) ∧ Aside0 (Kd.N (Kd.slice 3 (Kd.int .i64)) 22 w' w.heap.size (fun k_ => (w.heap.size ≤ k_) ∧ some k_ ≠ (u352001 : Value).ownBlock ∧ k_ ≠ gb349 ∧ k_ ≠ gb351) u352000 x352000_2) ∧ Aside0 (Kd.R (Kd.int .i64) 3 w' w.heap.size (fun k_ => (w.heap.size ≤ k_)) u352001 x352001_2) ∧ Aside0 (w'.heap[gb349]? = some (.cells #[(.slice none 0 0), (.slice none 0 0)] 43 (0, 0))) ∧ Aside0 (w'.heap[gb351]? = some (.cells #[u352000, u352001] 43 (0, 0))) ∧ Aside0 (Below w.heap.size w w'))
    case atStart => exact ⟨(0), (([] : List (List Int))), (([] : List Int)), (.slice none 0 0), (.slice none 0 0), (by first | rfl | (simp; done) | (simp [*]; done)), H', ⟨Nat.le_refl _⟩, ⟨by first | exact Kd.S_nil _ _ _ _ _ | exact Kd.N_nil _ _ _ _ _ | exact Kd.V_nil _ _ _ _ _ | exact Kd.Q_nil _ _ _ _ _ | exact Kd.R_nil _ _ _ _ _⟩, ⟨by first | exact Kd.R_nil _ _ _ _ _ | exact Kd.N_nil _ _ _ _ _ | exact Kd.V_nil _ _ _ _ _ | exact Kd.Q_nil _ _ _ _ _ | exact Kd.S_nil _ _ _ _ _⟩, ⟨by (with_reducible repeat (first | refine bN ?_ _ | refine bD ?_ | refine bA ?_ _)); refine blk_far ?_ NB349_351.out _; (with_reducible repeat (first | refine bN ?_ _ | refine bD ?_ | refine bA ?_ _)); refine blk_far ?_ NB349_351.out _; (with_reducible repeat (first | refine bN ?_ _ | refine bD ?_ | refine bA ?_ _)); exact BK349.out⟩, ⟨by (with_reducible repeat (first | refine bN ?_ _ | refine bD ?_ | refine bA ?_ _)); refine blk_put (cs := #[.slice none 0 0, .slice none 0 0]) ?_ 1 _ rfl; (with_reducible repeat (first | refine bN ?_ _ | refine bD ?_ | refine bA ?_ _)); refine blk_put (cs := #[.slice none 0 0, .slice none 0 0]) ?_ 0 _ rfl; (with_reducible repeat (first | refine bN ?_ _ | refine bD ?_ | refine bA ?_ _)); exact BK351.out⟩, ⟨xG2 HB.out GE349.out GE351.out⟩⟩
    case round =>
     clear H'
     try clear c7; try clear hcz11_0; try clear hcz11_1; try clear hcz8_0; try clear hcz8_1; try clear hfz11_0; try clear hfz11_1; try clear hfz8_0; try clear hfz8_1
     obtain ⟨x21_2, x352000_2, x352001_2, u352000, u352001, rfl, HA, HK2, HO_352000, HO_352001, BK349, BK351, HB⟩ := hrel
     cases gk with
     | zero => exact absurd HA.out (by simp [impl_TableSample.l0])
     | succ k2 =>
      have H := HA.out
      clear HA
      simp only [impl_TableSample.l0] at H
      by_cases c12 : x21_2 < (l1.length : Int)
      ·
       rw [if_pos c12] at H
       have c12b0 : decide (x21_2 < (l1.length : Int)) = true := decide_eq_true c12
       clear c12
       by_cases c13 : 0 ≤ x21_2
       ·
        rw [if_pos c13] at H
        have c13b0 : decide (0 ≤ x21_2) = true := decide_eq_true c13
        clear c13
        by_cases c14 : x21_2 < (l1.length : Int)
        ·
         rw [if_pos c14] at H
         have c14b0 : decide (x21_2 < (l1.length : Int)) = true := decide_eq_true c14
         clear c14
         replace H := oB.mp H
         obtain ⟨t353, A150, H⟩ := H
         replace H : ((some (([t353] : List (List Int)) : List (List Int))).bind fun y356 => (if x352000_2.length + y356.length < 5864062014805 then ((some (([wrap64 ((wrap64 (2 * (rd l1 x21_2))) - 1)] : List Int) : List Int)).bind fun y362 => (if x352001_2.length + y362.length < 17592186044416 then (impl_TableSample.l0 k2 a0 l1 (l1.length : Int) (wrap64 (x21_2 + 1)) (x352000_2 ++ y356) (x352001_2 ++ y362)) else (none))) else (none))) = some (r1, r2, r3) := H
         have A15 := aM A150
         clear A150
         obtain ⟨y356, hy356⟩ : ∃ y_ : List (List Int), y_ = (([t353] : List (List Int))) := ⟨_, rfl⟩
         replace H : (if x352000_2.length + y356.length < 5864062014805 then ((some (([wrap64 ((wrap64 (2 * (rd l1 x21_2))) - 1)] : List Int) : List Int)).bind fun y362 => (if x352001_2.length + y362.length < 17592186044416 then (impl_TableSample.l0 k2 a0 l1 (l1.length : Int) (wrap64 (x21_2 + 1)) (x352000_2 ++ y356) (x352001_2 ++ y362)) else (none))) else (none)) = some (r1, r2, r3) := by first | (rw [hy356]; with_reducible exact H) | (have H2_ := (Option.bind_some _ _).symm.trans H; rw [hy356]; with_reducible exact H2_) | (have H2_ := (Option.bind_some _ _).symm.trans H; with_reducible exact H2_) | with_reducible exact H | (rw [hy356]; exact H) | exact H
         have Ny356 := aM hy356
         clear hy356
         by_cases c16 : x352000_2.length + y356.length < 5864062014805
         ·
          rw [if_pos c16] at H
          have LMc16 := aM c16
          clear c16
          obtain ⟨y359, hy359⟩ : ∃ y_ : List (List Int), y_ = (x352000_2 ++ y356) := ⟨_, rfl⟩
          replace H : ((some (([wrap64 ((wrap64 (2 * (rd l1 x21_2))) - 1)] : List Int) : List Int)).bind fun y362 => (if x352001_2.length + y362.length < 17592186044416 then (impl_TableSample.l0 k2 a0 l1 (l1.length : Int) (wrap64 (x21_2 + 1)) y359 (x352001_2 ++ y362)) else (none))) = some (r1, r2, r3) := by first | (rw [hy359]; with_reducible exact H) | (have H2_ := (Option.bind_some _ _).symm.trans H; rw [hy359]; with_reducible exact H2_) | (have H2_ := (Option.bind_some _ _).symm.trans H; with_reducible exact H2_) | with_reducible exact H | (rw [hy359]; exact H) | exact H
          have Ny359 := aM hy359
          clear hy359
          obtain ⟨y362, hy362⟩ : ∃ y_ : List Int, y_ = (([wrap64 ((wrap64 (2 * (rd l1 x21_2))) - 1)] : List Int)) := ⟨_, rfl⟩
          replace H : (if x352001_2.length + y362.length < 17592186044416 then (impl_TableSample.l0 k2 a0 l1 (l1.length : Int) (wrap64 (x21_2 + 1)) y359 (x352001_2 ++ y362)) else (none)) = some (r1, r2, r3) := by first | (rw [hy362]; with_reducible exact H) | (have H2_ := (Option.bind_some _ _).symm.trans H; rw [hy362]; with_reducible exact H2_) | (have H2_ := (Option.bind_some _ _).symm.trans H; with_reducible exact H2_) | with_reducible exact H | (rw [hy362]; exact H) | exact H
          have Ny362 := aM hy362
          clear hy362
          by_cases c17 : x352001_2.length + y362.length < 17592186044416
          ·
           rw [if_pos c17] at H
           have LMc17 := aM c17
           clear c17
           obtain ⟨y365, hy365⟩ : ∃ y_ : List Int, y_ = (x352001_2 ++ y362) := ⟨_, rfl⟩
           replace H : (impl_TableSample.l0 k2 a0 l1 (l1.length : Int) (wrap64 (x21_2 + 1)) y359 y365) = some (r1, r2, r3) := by first | (rw [hy365]; with_reducible exact H) | (have H2_ := (Option.bind_some _ _).symm.trans H; rw [hy365]; with_reducible exact H2_) | (have H2_ := (Option.bind_some _ _).symm.trans H; with_reducible exact H2_) | with_reducible exact H | (rw [hy365]; exact H) | exact H
           have Ny365 := aM hy365
           clear hy365
           have H' := aM H
           clear H
           have p352 : 0 ≤ (x21_2 : Int) := of_decide_eq_true (by first | (with_reducible assumption) | assumption)
           have q352 : x21_2 < (l1.length : Int) := of_decide_eq_true (by first | (with_reducible assumption) | assumption)
           obtain ⟨ad352, e352, hx352_0⟩ := Kd.at_int HR1.out x21_2 p352 q352
           cases e352
           replace hx352_0 := (HB.out.cell (World.block_lt_of_cell? w _ hx352_0)).trans hx352_0
           replace p352 := eq_true p352
           replace q352 := eq_true q352
           obtain ⟨Ao18, co18, eo18⟩ := Kd.N_slice HO_352000.out
           subst eo18
           obtain ⟨Ao19, co19, eo19⟩ := Kd.R_slice HO_352001.out
           subst eo19
           try go_wp2
           have n0_ := aM (Kd.N_drew HO_352000.out)
           have n1_ := aM (rD HO_352001.out)
           have n2_ := aM (bD BK349.out)
           have n3_ := aM (bD BK351.out)
           have n4_ := aM (eD HB.out)
           clear HO_352000 HO_352001 BK349 BK351 HB
           have HO_352000 := n0_
           have HO_352001 := n1_
           have BK349 := n2_
           have BK351 := n3_
           have HB := n4_
           clear n0_ n1_ n2_ n3_ n4_
           refine start_ (n := 18) (S := fun w' => w'.cell? ⟨gb351, 0, none⟩ = some (.slice Ao18 x352000_2.length co18) ∧ w'.cell? ⟨gb351, 1, none⟩ = some (.slice Ao19 x352001_2.length co19)) (ds := [15, 17]) #[false, false, false, false, false, false, false, false, false, false, false, false, false, false, false, false, false, false] (by kernel_rfl) rfl rfl ⟨(bC BK351.out 0).trans rfl, (bC BK351.out 1).trans rfl⟩ (fun hHeld => ?_); refine with_tabW impl_TableSample.tab7 impl_TableSample.bits7 (fun HT_ HW_ => ?_)
           generalize wr.drew = w20 at HO_352000 HO_352001 BK349 BK351 HB hHeld ⊢
           refine pure_ (i := 0) (N := some 26) (v := ?_) (a' := ?_) #[true, false, false, false, false, false, false, false, false, false, false, false, false, false, false, false, false, false] rfl rfl (any_of HT_.out (by kernel_rfl)) (fun _ _ _ h => h) (Or.inl ⟨by rfl, ?_⟩) ?_ ?_
           rotate_left
           ·
            intro w'
            go_simp
            with_reducible rfl
           rotate_left
           ·
            simp only [Act.put, sA, sZ, sU, i64_w, i32_w]
            rfl
           refine pure_ (i := 2) (N := some 28) (v := ?_) (a' := ?_) #[true, false, true, false, false, false, false, false, false, false, false, false, false, false, false, false, false, false] rfl rfl (any_of HT_.out (by kernel_rfl)) (fun _ _ _ h => h) (Or.inl ⟨by rfl, ?_⟩) ?_ ?_
           rotate_left
           ·
            intro w'
            go_simp
            with_reducible rfl
           rotate_left
           ·
            simp only [Act.put, sA, sZ, sU, i64_w, i32_w]
            rfl
           refine pure_ (i := 3) (N := some 29) (v := ?_) (a' := ?_) #[true, false, true, true, false, false, false, false, false, false, false, false, false, false, false, false, false, false] rfl rfl (any_of HT_.out (by kernel_rfl)) (fun _ _ _ h => h) (Or.inl ⟨by rfl, ?_⟩) ?_ ?_
           rotate_left
           ·
            intro w'
            go_simp
            with_reducible rfl
           rotate_left
           ·
            simp only [Act.put, sA, sZ, sU, i64_w, i32_w]
            rfl
           refine pure_ (i := 7) (N := some 33) (v := ?_) (a' := ?_) #[true, false, true, true, false, false, false, true, false, false, false, false, false, false, false, false, false, false] rfl rfl (any_of HT_.out (by kernel_rfl)) (fun _ _ _ h => h) (Or.inl ⟨by rfl, ?_⟩) ?_ ?_
           rotate_left
           ·
            intro w'
            go_simp
            with_reducible rfl
           rotate_left
           ·
            simp only [Act.put, sA, sZ, sU, i64_w, i32_w]
            rfl
           refine pure_ (i := 9) (N := some 35) (v := ?_) (a' := ?_) #[true, false, true, true, false, false, false, true, false, true, false, false, false, false, false, false, false, false] rfl rfl (any_of HT_.out (by kernel_rfl)) (fun _ _ _ h => h) (Or.inl ⟨by rfl, ?_⟩) ?_ ?_
           rotate_left
           ·
            intro w'
            go_simp
            with_reducible rfl
           rotate_left
           ·
            simp only [Act.put, sA, sZ, sU, i64_w, i32_w]
            rfl
           refine pure_ (i := 10) (N := some 36) (v := ?_) (a' := ?_) #[true, false, true, true, false, false, false, true, false, true, true, false, false, false, false, false, false, false] rfl rfl (any_of HT_.out (by kernel_rfl)) (fun _ _ _ h => h) (Or.inl ⟨by rfl, ?_⟩) ?_ ?_
           rotate_left
           ·
            intro w'
            go_simp
            with_reducible rfl
           rotate_left
           ·
            simp only [Act.put, sA, sZ, sU, i64_w, i32_w]
            rfl
           refine pure_ (i := 11) (N := some 37) (v := ?_) (a' := ?_) #[true, false, true, true, false, false, false, true, false, true, true, true, false, false, false, false, false, false] rfl rfl (any_of HT_.out (by kernel_rfl)) (fun _ _ _ h => h) (Or.inl ⟨by rfl, ?_⟩) ?_ ?_
           rotate_left
           ·
            intro w'
            go_simp
            with_reducible rfl
           rotate_left
           ·
            simp only [Act.put, sA, sZ, sU, i64_w, i32_w]
            rfl
           refine take_ (i := 1) (N := some 27) (v := ?_) (a' := ?_) #[true, true, true, true, false, false, false, true, false, true, true, true, false, false, false, false, false, false] rfl rfl (take_ofW HT_.out HW_.out (by kernel_rfl)) (fun _ _ _ h => h) (Or.inl ⟨by rfl, ?_⟩) hHeld ?_ ?_
           rotate_left
           ·
            rintro w' ⟨s0, s1⟩
            first | (go_simp; with_reducible rfl) | (simp only [add_plain] at s0 s1; go_simp; with_reducible rfl)
           rotate_left
           ·
            simp only [Act.put, sA, sZ, sU, i64_w, i32_w]
            rfl
           refine take_ (i := 8) (N := some 34) (v := ?_) (a' := ?_) #[true, true, true, true, false, false, false, true, true, true, true, true, false, false, false, false, false, false] rfl rfl (take_ofW HT_.out HW_.out (by kernel_rfl)) (fun _ _ _ h => h) (Or.inl ⟨by rfl, ?_⟩) hHeld ?_ ?_
           rotate_left
           ·
            rintro w' ⟨s0, s1⟩
            first | (go_simp; with_reducible rfl) | (simp only [add_plain] at s0 s1; go_simp; with_reducible rfl)
           rotate_left
           ·
            simp only [Act.put, sA, sZ, sU, i64_w, i32_w]
            rfl
           refine join_ (σ := Value × Value × Value × Value) 4 #[true, true, true, true, true, true, true, true, true, true, true, true, true, false, true, false, false, false] (fun s_ => [(30, s_.1), (31, s_.2.1), (32, s_.2.2.1), (38, s_.2.2.2), (40, .pointer (some ⟨gb351, 0, none⟩))]) (fun s_ w' => (w'.cell? ⟨gb351, 0, none⟩ = some (.slice Ao18 x352000_2.length co18) ∧ w'.cell? ⟨gb351, 1, none⟩ = some (.slice Ao19 x352001_2.length co19)) ∧ (Kd.N (Kd.slice 3 (Kd.int .i64)) 22 w' w.heap.size (fun k_ => (w.heap.size ≤ k_) ∧ some k_ ≠ (s_.2.2.1 : Value).ownBlock ∧ some k_ ≠ (s_.2.2.2 : Value).ownBlock ∧ some k_ ≠ (.slice Ao19 x352001_2.length co19 : Value).ownBlock ∧ k_ ≠ gb349 ∧ k_ ≠ gb351) s_.2.1 y356) ∧ (Kd.N (Kd.slice 3 (Kd.int .i64)) 22 w' w.heap.size (fun k_ => (w.heap.size ≤ k_) ∧ some k_ ≠ (s_.2.2.2 : Value).ownBlock ∧ some k_ ≠ (.slice Ao19 x352001_2.length co19 : Value).ownBlock ∧ k_ ≠ gb349 ∧ k_ ≠ gb351) s_.2.2.1 y359) ∧ (Kd.R (Kd.int .i64) 3 w' w.heap.size (fun k_ => (w.heap.size ≤ k_) ∧ some k_ ≠ (.slice Ao19 x352001_2.length co19 : Value).ownBlock) s_.2.2.2 y362) ∧ (Kd.R (Kd.int .i64) 3 w' w.heap.size (fun k_ => (w.heap.size ≤ k_) ∧ some k_ ≠ (s_.2.2.2 : Value).ownBlock) (.slice Ao19 x352001_2.length co19) x352001_2) ∧ (w'.heap[gb349]? = some (.cells #[.slice none 0 0, .slice none 0 0] 43 (0, 0))) ∧ (w'.heap[gb351]? = some (.cells #[.slice Ao18 x352000_2.length co18, .slice Ao19 x352001_2.length co19] 43 (0, 0))) ∧ (Below w.heap.size w w')) ?_ ?_
           rotate_left
           ·
            intro hCont
            refine two_ (i := 4) (j := 12) (Ni := some 30) (Nj := some 38) #[true, true, true, true, true, false, false, true, true, true, true, true, false, false, false, false, false, false] #[true, true, true, true, false, false, false, true, true, true, true, true, true, false, false, false, false, false] rfl rfl rfl rfl (two_of HT_.out (by kernel_rfl)) (by decide) (by decide) (fun K hK => ?_) (fun K hK => ?_)
            ·
             skip
             refine goes_ Try.func56 (by kernel_rfl) rfl #[.int .i64 a0, .int .i64 x21_2] (by rfl) rfl rfl xL ?_
             with_reducible refine (impl_bitPoint.calls k2 a0 x21_2 t353 _ A15.out).mono ?_
             rintro e w21 ⟨v354, rfl, ho0, hb⟩
             refine ⟨_, rfl, ?_⟩
             have n0_ := aM (Kd.N_elder' (by (with_reducible repeat (first | apply Kd.N_alloc | apply Kd.N_drewN | apply Kd.N_drew)); exact HO_352000.out) (Kd.R_base ho0) hb)
             have n1_ := aM (Kd.R_elder' (xR HO_352001.out) (Kd.R_base ho0) hb)
             have n2_ := aM (Kd.R_lower (Kd.R_new' (Kd.R_newM (M := fun k_ => (w.heap.size ≤ k_)) ho0 (below_size (xG2 HB.out GE349.out GE351.out)) (fun k_ h_ => h_)) (Kd.R_lt (xR HO_352001.out))) (below_size (xG2 HB.out GE349.out GE351.out)))
             have n3_ := aM (bB (g := gb349) (o := .cells #[.slice none 0 0, .slice none 0 0] 43 (0, 0)) (xB BK349.out) hb)
             have n4_ := aM (bB (g := gb351) (o := .cells #[.slice Ao18 x352000_2.length co18, .slice Ao19 x352001_2.length co19] 43 (0, 0)) (xB BK351.out) hb)
             have n5_ := aM (below_step (xG2 HB.out GE349.out GE351.out) hb)
             clear HO_352000 HO_352001 BK349 BK351 HB
             have HO_352000 := n0_
             have HO_352001 := n1_
             have HO355 := n2_
             have BK349 := n3_
             have BK351 := n4_
             have HB := n5_
             clear n0_ n1_ n2_ n3_ n4_ n5_
             (try clear hb)
             (try clear hb2)
             (try clear hk)
             (try clear hi)
             (try clear ho0)
             obtain ⟨Ao22, co22, eo22⟩ := Kd.R_slice HO355.out
             (first | subst eo22 | (injection eo22 with f1_ f2_ f3_; have f4_ := f1_.symm; have f5_ := f3_.symm; clear f1_ f2_ f3_; subst f4_; subst f5_))
             refine hK.out _ _ ⟨(bC BK351.out 0).trans rfl, (bC BK351.out 1).trans rfl⟩ (fun hHeld => ?_)
             clear hK K
             refine norm_ (a' := ?_) ?_ ?_
             rotate_left
             ·
              show Act.put _ (some 30) _ = _
              simp only [Act.put, sA, sZ, sU, i64_w, i32_w]
              rfl
             refine two_ (i := 5) (j := 12) (Ni := some 31) (Nj := some 38) #[true, true, true, true, true, true, false, true, true, true, true, true, false, false, false, false, false, false] #[true, true, true, true, true, false, false, true, true, true, true, true, true, false, false, false, false, false] rfl rfl rfl rfl (two_of HT_.out (by kernel_rfl)) (by decide) (by decide) (fun K hK => ?_) (fun K hK => ?_)
             ·
              skip
              refine Kd.N_lit_step (Kd.slice 3 (Kd.int .i64)) _ 22 ?hg (N' := 31) ?hd (xs := ([t353] : List (List Int))) (inner := [.slice Ao22 t353.length co22]) (ok := (fun k_ => (w.heap.size ≤ k_) ∧ some k_ ≠ (.slice Ao18 x352000_2.length co18 : Value).ownBlock ∧ some k_ ≠ (.slice Ao19 x352001_2.length co19 : Value).ownBlock ∧ k_ ≠ gb349 ∧ k_ ≠ gb351)) (okp := (fun k_ => (w.heap.size ≤ k_) ∧ some k_ ≠ (.slice Ao18 x352000_2.length co18 : Value).ownBlock ∧ some k_ ≠ (.slice Ao19 x352001_2.length co19 : Value).ownBlock ∧ k_ ≠ gb349 ∧ k_ ≠ gb351)) ?hr ?hp (fun _ hk => hk) ((show ∀ k_, w21.heap.size ≤ k_ → (fun k_ => (w.heap.size ≤ k_) ∧ some k_ ≠ (.slice Ao18 x352000_2.length co18 : Value).ownBlock ∧ some k_ ≠ (.slice Ao19 x352001_2.length co19 : Value).ownBlock ∧ k_ ≠ gb349 ∧ k_ ≠ gb351) k_ from fun k_ hk => ⟨(Nat.le_trans (below_size (xG2 HB.out GE349.out GE351.out)) hk), Kd.fresh' (Kd.N_lt (by (with_reducible repeat (first | apply Kd.N_alloc | apply Kd.N_drewN | apply Kd.N_drew)); exact HO_352000.out)) k_ hk, Kd.fresh' (Kd.R_lt (xR HO_352001.out)) k_ hk, Kd.freshB (g := gb349) (o := .cells #[.slice none 0 0, .slice none 0 0] 43 (0, 0)) (xB BK349.out) k_ hk, Kd.freshB (g := gb351) (o := .cells #[.slice Ao18 x352000_2.length co18, .slice Ao19 x352001_2.length co19] 43 (0, 0)) (xB BK351.out) k_ hk⟩) _ (Nat.le_refl _)) (Below.refl _ _) (Nat.le_refl _) (by simp) ?_; (case hd => rfl); (case hg => rfl); (case hr => first | (go_simp; done) | (go_simp; rfl)); (case hp => exact (Reps.one (show Kd.FK (Kd.slice 3 (Kd.int .i64)) _ _ t353 [.slice Ao22 t353.length co22] from (Kd.FK_slice_mk (Kd.R_reads' (rM (ok' := (fun k_ => (w.heap.size ≤ k_) ∧ some k_ ≠ (.slice Ao18 x352000_2.length co18 : Value).ownBlock ∧ some k_ ≠ (.slice Ao19 x352001_2.length co19 : Value).ownBlock ∧ k_ ≠ gb349 ∧ k_ ≠ gb351)) (Kd.R_types (Kd.R_types (Kd.R_apart' (HO355.out) (Kd.N_typed HO_352000.out) (by decide)) BK349.out (by decide)) BK351.out (by decide)) (fun k_ hk => ⟨hk.1.1.1.1.1, ⟨hk.1.1.2, ⟨hk.1.1.1.2, ⟨hk.1.2, hk.2⟩⟩⟩⟩))).2.1 (Kd.R_F (rM (ok' := (fun k_ => (w.heap.size ≤ k_) ∧ some k_ ≠ (.slice Ao18 x352000_2.length co18 : Value).ownBlock ∧ some k_ ≠ (.slice Ao19 x352001_2.length co19 : Value).ownBlock ∧ k_ ≠ gb349 ∧ k_ ≠ gb351)) (Kd.R_types (Kd.R_types (Kd.R_apart' (HO355.out) (Kd.N_typed HO_352000.out) (by decide)) BK349.out (by decide)) BK351.out (by decide)) (fun k_ hk => ⟨hk.1.1.1.1.1, ⟨hk.1.1.2, ⟨hk.1.1.1.2, ⟨hk.1.2, hk.2⟩⟩⟩⟩))))) (Reps.none _ _)))
              intro v357 w23 ho24 hb hg_ hnew_
              clear hg_ hnew_
              (first | rw [← Ny356.out] at ho24 | (simp only [Int.reduceToNat] at ho24; rw [← Ny356.out] at ho24))
              have n0_ := aM (Kd.N_elder' (by (with_reducible repeat (first | apply Kd.N_alloc | apply Kd.N_drewN | apply Kd.N_drew)); exact HO_352000.out) (by first | exact Kd.N_base ho24 | exact Kd.S_base ho24 | exact Kd.R_base ho24) hb)
              have n1_ := aM (Kd.R_below (xR HO_352001.out) hb)
              have n2_ := aM (Kd.N_lower ho24 (below_size (xG2 HB.out GE349.out GE351.out)))
              have n3_ := aM (bB (g := gb349) (o := .cells #[.slice none 0 0, .slice none 0 0] 43 (0, 0)) (xB BK349.out) hb)
              have n4_ := aM (bB (g := gb351) (o := .cells #[.slice Ao18 x352000_2.length co18, .slice Ao19 x352001_2.length co19] 43 (0, 0)) (xB BK351.out) hb)
              have n5_ := aM (below_step (xG2 HB.out GE349.out GE351.out) hb)
              clear HO_352000 HO_352001 BK349 BK351 HB HO355
              have HO_352000 := n0_
              have HO_352001 := n1_
              have HO358 := n2_
              have BK349 := n3_
              have BK351 := n4_
              have HB := n5_
              clear n0_ n1_ n2_ n3_ n4_ n5_ hb ho24
              obtain ⟨Ao26, co26, eo26⟩ := Kd.N_slice HO358.out
              (first | subst eo26 | (injection eo26 with f1_ f2_ f3_; have f4_ := f1_.symm; have f5_ := f3_.symm; clear f1_ f2_ f3_; subst f4_; subst f5_))
              refine hK.out _ _ ⟨(bC BK351.out 0).trans rfl, (bC BK351.out 1).trans rfl⟩ (fun hHeld => ?_)
              clear hK K
              refine norm_ (a' := ?_) ?_ ?_
              rotate_left
              ·
               show Act.put _ (some 31) _ = _
               simp only [Act.put, sA, sZ, sU, i64_w, i32_w]
               rfl
              refine two_ (i := 6) (j := 12) (Ni := some 32) (Nj := some 38) #[true, true, true, true, true, true, true, true, true, true, true, true, false, false, false, false, false, false] #[true, true, true, true, true, true, false, true, true, true, true, true, true, false, false, false, false, false] rfl rfl rfl rfl (two_of HT_.out (by kernel_rfl)) (by decide) (by decide) (fun K hK => ?_) (fun K hK => ?_)
              ·
               skip
               refine Kd.N_append_rows_step (Kd.slice 3 (Kd.int .i64)) (w0 := w) w.heap.size (by rfl) (.tmp 27) (.tmp 31) 32 22 (.slice none 0 0) 24 rfl Try.underlying32 info22 rfl (by decide) (by omega) (.slice Ao18 x352000_2.length co18) x352000_2 y356 _ _ _ (fun k_ => (w.heap.size ≤ k_) ∧ some k_ ≠ (.slice Ao19 x352001_2.length co19 : Value).ownBlock ∧ k_ ≠ gb349 ∧ k_ ≠ gb351) (fun k_ => ((fun k_ => (w.heap.size ≤ k_) ∧ some k_ ≠ (.slice Ao19 x352001_2.length co19 : Value).ownBlock ∧ k_ ≠ gb349 ∧ k_ ≠ gb351)) k_ ∧ some k_ ≠ (.slice Ao18 x352000_2.length co18 : Value).ownBlock) rfl rfl ?aO ?aR (fun _ hk => hk) ?aF ?aB ?aS ?aL ?_
               (case aR => exact (by skip; exact Kd.N_F (Kd.N_mono (ok' := (fun k_ => ((fun k_ => (w.heap.size ≤ k_) ∧ some k_ ≠ (.slice Ao19 x352001_2.length co19 : Value).ownBlock ∧ k_ ≠ gb349 ∧ k_ ≠ gb351)) k_ ∧ some k_ ≠ (.slice Ao18 x352000_2.length co18 : Value).ownBlock)) (HO358.out) (fun k_ hk => ⟨⟨hk.1, ⟨hk.2.2.1, ⟨hk.2.2.2.1, hk.2.2.2.2⟩⟩⟩, hk.2.1⟩))))
               (case aB => exact (xG2 HB.out GE349.out GE351.out))
               (case aF => exact (fun k_ hk => ⟨(Nat.le_trans (below_size (xG2 HB.out GE349.out GE351.out)) hk), Kd.fresh' (Kd.R_lt (xR HO_352001.out)) k_ hk, Kd.freshB (g := gb349) (o := .cells #[.slice none 0 0, .slice none 0 0] 43 (0, 0)) (xB BK349.out) k_ hk, Kd.freshB (g := gb351) (o := .cells #[.slice Ao18 x352000_2.length co18, .slice Ao19 x352001_2.length co19] 43 (0, 0)) (xB BK351.out) k_ hk⟩))
               (case aO => exact (by (with_reducible repeat (first | apply Kd.N_alloc | apply Kd.N_drewN | apply Kd.N_drew)); exact Kd.N_mono HO_352000.out (fun _ hk => ⟨hk.1.1.1, ⟨hk.1.1.2.1, ⟨hk.1.1.2.2.1, hk.1.1.2.2.2⟩⟩⟩)))
               (case aS => exact (below_size (xG2 HB.out GE349.out GE351.out)))
               (case aL => have := LMc16.out; omega)
               intro v360 w25 ho hb hg hat
               rw [← Ny359.out] at ho
               have n0_ := aM (Kd.R_over' (xR HO_352001.out) (Kd.N_typed (by (with_reducible repeat (first | apply Kd.N_alloc | apply Kd.N_drewN | apply Kd.N_drew)); exact HO_352000.out)) (by decide) hg)
               have n1_ := aM (blk_grown (g := gb349) (o := .cells #[.slice none 0 0, .slice none 0 0] 43 (0, 0)) (xB BK349.out) hg (Kd.N_ne HO_352000.out BK349.out (by decide)))
               have n2_ := aM (blk_grown (g := gb351) (o := .cells #[.slice Ao18 x352000_2.length co18, .slice Ao19 x352001_2.length co19] 43 (0, 0)) (xB BK351.out) hg (Kd.N_ne HO_352000.out BK351.out (by decide)))
               have n3_ := aM (Kd.N_afterv (ok := (fun k_ => (w.heap.size ≤ k_) ∧ some k_ ≠ (.slice Ao19 x352001_2.length co19 : Value).ownBlock ∧ k_ ≠ gb349 ∧ k_ ≠ gb351)) (by (with_reducible repeat (first | apply Kd.N_alloc | apply Kd.N_drewN | apply Kd.N_drew)); exact Kd.N_mono HO358.out (fun _ hk => ⟨⟨hk.1, ⟨hk.2.2.1, ⟨hk.2.2.2.1, hk.2.2.2.2⟩⟩⟩, hk.2.1⟩)) hg hat)
               have n4_ := aM (hb)
               have n5_ := aM (ho)
               clear HO_352001 BK349 BK351 HO358 HB HO_352000
               have HO_352001 := n0_
               have BK349 := n1_
               have BK351 := n2_
               have HO358 := n3_
               have HB := n4_
               have HO361 := n5_
               clear n0_ n1_ n2_ n3_ n4_ n5_ ho hb hg hat
               refine hK.out _ _ ⟨(bC BK351.out 0).trans rfl, (bC BK351.out 1).trans rfl⟩ (fun hHeld => ?_)
               clear hK K
               refine norm_ (a' := ?_) ?_ ?_
               rotate_left
               ·
                show Act.put _ (some 32) _ = _
                simp only [Act.put, sA, sZ, sU, i64_w, i32_w]
                rfl
               refine pure_ (i := 14) (N := some 40) (v := ?_) (a' := ?_) #[true, true, true, true, true, true, true, true, true, true, true, true, false, false, true, false, false, false] rfl rfl (any_of HT_.out (by kernel_rfl)) (fun _ _ _ h => h) (Or.inl ⟨by rfl, ?_⟩) ?_ ?_
               rotate_left
               ·
                intro w'
                go_simp
                with_reducible rfl
               rotate_left
               ·
                simp only [Act.put, sA, sZ, sU, i64_w, i32_w]
                rfl
               refine one_ (i := 12) (N := some 38) #[true, true, true, true, true, true, true, true, true, true, true, true, true, false, true, false, false, false] rfl rfl (one_of HT_.out (by kernel_rfl)) (by decide) (fun K hK => ?_)
               refine Kd.R_lit_step (Kd.int .i64) _ 3 ?hg (N := 38) ?hd (xs := ([wrap64 ((wrap64 (2 * (rd l1 x21_2))) - 1)] : List Int)) (inner := [.int .i64 (wrap64 ((wrap64 (2 * (rd l1 x21_2))) - 1))]) (ok := fun _ => True) (okp := fun _ => True) ?hr ?hp (fun _ hk => hk) trivial (Below.refl _ _) (Nat.le_refl _) (by simp) ?_; (case hd => rfl); (case hg => rfl); (case hr => first | (go_simp; done) | (go_simp; rfl)); (case hp => exact (Reps.one (show Kd.M (Kd.int .i64) _ _ _ (wrap64 ((wrap64 (2 * (rd l1 x21_2))) - 1)) [.int .i64 (wrap64 ((wrap64 (2 * (rd l1 x21_2))) - 1))] from rfl) (Reps.none _ _)))
               intro v363 w27 ho28 hb hg_ hnew_
               clear hg_ hnew_
               (first | rw [← Ny362.out] at ho28 | (simp only [Int.reduceToNat] at ho28; rw [← Ny362.out] at ho28))
               have n0_ := aM (Kd.R_elder' (xR HO_352001.out) (Kd.R_base ho28) hb)
               have n1_ := aM (Kd.N_elder' (by (with_reducible repeat (first | apply Kd.N_alloc | apply Kd.N_drewN | apply Kd.N_drew)); exact HO358.out) (Kd.R_base ho28) hb)
               have n2_ := aM (Kd.N_elder' (by (with_reducible repeat (first | apply Kd.N_alloc | apply Kd.N_drewN | apply Kd.N_drew)); exact HO361.out) (Kd.R_base ho28) hb)
               have n3_ := aM (Kd.R_lower (Kd.R_new' (Kd.R_newM (M := fun k_ => (w.heap.size ≤ k_)) ho28 (below_size (xG2 HB.out GE349.out GE351.out)) (fun k_ h_ => h_)) (Kd.R_lt (xR HO_352001.out))) (below_size (xG2 HB.out GE349.out GE351.out)))
               have n4_ := aM (bB (g := gb349) (o := .cells #[.slice none 0 0, .slice none 0 0] 43 (0, 0)) (xB BK349.out) hb)
               have n5_ := aM (bB (g := gb351) (o := .cells #[.slice Ao18 x352000_2.length co18, .slice Ao19 x352001_2.length co19] 43 (0, 0)) (xB BK351.out) hb)
               have n6_ := aM (below_step (xG2 HB.out GE349.out GE351.out) hb)
               clear HO_352001 HO358 HO361 BK349 BK351 HB
               have HO_352001 := n0_
               have HO358 := n1_
               have HO361 := n2_
               have HO364 := n3_
               have BK349 := n4_
               have BK351 := n5_
               have HB := n6_
               clear n0_ n1_ n2_ n3_ n4_ n5_ n6_ hb ho28
               refine hK.out _ _ ⟨(bC BK351.out 0).trans rfl, (bC BK351.out 1).trans rfl⟩ (fun hHeld => ?_)
               clear hK K
               refine norm_ (a' := ?_) ?_ ?_
               rotate_left
               ·
                show Act.put _ (some 38) _ = _
                simp only [Act.put, sA, sZ, sU, i64_w, i32_w]
                rfl
               exact norm_ (by simp only [putAll, Act.put, sA, sZ, sU]) (hCont (.slice Ao22 t353.length co22, .slice Ao26 y356.length co26, v360, v363) _ ⟨hHeld, (by (with_reducible repeat (first | apply Kd.N_alloc | apply Kd.N_drewN | apply Kd.N_drew)); exact Kd.N_mono HO358.out (fun _ hk => ⟨hk.1.1.1, ⟨hk.1.2, ⟨hk.2, ⟨hk.1.1.2.1, ⟨hk.1.1.2.2.1, hk.1.1.2.2.2⟩⟩⟩⟩⟩)), (by (with_reducible repeat (first | apply Kd.N_alloc | apply Kd.N_drewN | apply Kd.N_drew)); exact Kd.N_mono HO361.out (fun _ hk => ⟨hk.1.1, ⟨hk.2, ⟨hk.1.2.1, ⟨hk.1.2.2.1, hk.1.2.2.2⟩⟩⟩⟩)), (by (with_reducible repeat (first | apply rA | apply rN | apply rD)); exact rM HO364.out (fun _ hk => ⟨hk.1.1, hk.2⟩)), (by (with_reducible repeat (first | apply rA | apply rN | apply rD)); exact rM HO_352001.out (fun _ hk => ⟨hk.1.1, hk.2⟩)), (xB BK349.out), (xB BK351.out), (xG2 HB.out GE349.out GE351.out)⟩)
              ·
               skip
               refine Kd.R_lit_step (Kd.int .i64) _ 3 ?hg (N := 38) ?hd (xs := ([wrap64 ((wrap64 (2 * (rd l1 x21_2))) - 1)] : List Int)) (inner := [.int .i64 (wrap64 ((wrap64 (2 * (rd l1 x21_2))) - 1))]) (ok := fun _ => True) (okp := fun _ => True) ?hr ?hp (fun _ hk => hk) trivial (Below.refl _ _) (Nat.le_refl _) (by simp) ?_; (case hd => rfl); (case hg => rfl); (case hr => first | (go_simp; done) | (go_simp; rfl)); (case hp => exact (Reps.one (show Kd.M (Kd.int .i64) _ _ _ (wrap64 ((wrap64 (2 * (rd l1 x21_2))) - 1)) [.int .i64 (wrap64 ((wrap64 (2 * (rd l1 x21_2))) - 1))] from rfl) (Reps.none _ _)))
               intro v363 w25 ho26 hb hg_ hnew_
               clear hg_ hnew_
               (first | rw [← Ny362.out] at ho26 | (simp only [Int.reduceToNat] at ho26; rw [← Ny362.out] at ho26))
               have n0_ := aM (Kd.N_elder' (by (with_reducible repeat (first | apply Kd.N_alloc | apply Kd.N_drewN | apply Kd.N_drew)); exact HO_352000.out) (Kd.R_base ho26) hb)
               have n1_ := aM (Kd.R_elder' (xR HO_352001.out) (Kd.R_base ho26) hb)
               have n2_ := aM (Kd.N_elder' (by (with_reducible repeat (first | apply Kd.N_alloc | apply Kd.N_drewN | apply Kd.N_drew)); exact HO358.out) (Kd.R_base ho26) hb)
               have n3_ := aM (Kd.R_lower (Kd.R_new' (Kd.R_newM (M := fun k_ => (w.heap.size ≤ k_)) ho26 (below_size (xG2 HB.out GE349.out GE351.out)) (fun k_ h_ => h_)) (Kd.R_lt (xR HO_352001.out))) (below_size (xG2 HB.out GE349.out GE351.out)))
               have n4_ := aM (bB (g := gb349) (o := .cells #[.slice none 0 0, .slice none 0 0] 43 (0, 0)) (xB BK349.out) hb)
               have n5_ := aM (bB (g := gb351) (o := .cells #[.slice Ao18 x352000_2.length co18, .slice Ao19 x352001_2.length co19] 43 (0, 0)) (xB BK351.out) hb)
               have n6_ := aM (below_step (xG2 HB.out GE349.out GE351.out) hb)
               clear HO_352000 HO_352001 HO358 BK349 BK351 HB
               have HO_352000 := n0_
               have HO_352001 := n1_
               have HO358 := n2_
               have HO364 := n3_
               have BK349 := n4_
               have BK351 := n5_
               have HB := n6_
               clear n0_ n1_ n2_ n3_ n4_ n5_ n6_ hb ho26
               obtain ⟨Ao28, co28, eo28⟩ := Kd.N_slice HO358.out
               (first | subst eo28 | (injection eo28 with f1_ f2_ f3_; have f4_ := f1_.symm; have f5_ := f3_.symm; clear f1_ f2_ f3_; subst f4_; subst f5_))
               refine hK.out _ _ ⟨(bC BK351.out 0).trans rfl, (bC BK351.out 1).trans rfl⟩ (fun hHeld => ?_)
               clear hK K
               refine norm_ (a' := ?_) ?_ ?_
               rotate_left
               ·
                show Act.put _ (some 38) _ = _
                simp only [Act.put, sA, sZ, sU, i64_w, i32_w]
                rfl
               refine one_ (i := 6) (N := some 32) #[true, true, true, true, true, true, true, true, true, true, true, true, true, false, false, false, false, false] rfl rfl (one_of HT_.out (by kernel_rfl)) (by decide) (fun K hK => ?_)
               refine Kd.N_append_rows_step (Kd.slice 3 (Kd.int .i64)) (w0 := w) w.heap.size (by rfl) (.tmp 27) (.tmp 31) 32 22 (.slice none 0 0) 24 rfl Try.underlying32 info22 rfl (by decide) (by omega) (.slice Ao18 x352000_2.length co18) x352000_2 y356 _ _ _ (fun k_ => (w.heap.size ≤ k_) ∧ some k_ ≠ (.slice Ao19 x352001_2.length co19 : Value).ownBlock ∧ some k_ ≠ (v363 : Value).ownBlock ∧ k_ ≠ gb349 ∧ k_ ≠ gb351) (fun k_ => ((fun k_ => (w.heap.size ≤ k_) ∧ some k_ ≠ (.slice Ao19 x352001_2.length co19 : Value).ownBlock ∧ some k_ ≠ (v363 : Value).ownBlock ∧ k_ ≠ gb349 ∧ k_ ≠ gb351)) k_ ∧ some k_ ≠ (.slice Ao18 x352000_2.length co18 : Value).ownBlock) rfl rfl ?aO ?aR (fun _ hk => hk) ?aF ?aB ?aS ?aL ?_
               (case aR => exact (by skip; exact Kd.N_F (Kd.N_mono (ok' := (fun k_ => ((fun k_ => (w.heap.size ≤ k_) ∧ some k_ ≠ (.slice Ao19 x352001_2.length co19 : Value).ownBlock ∧ some k_ ≠ (v363 : Value).ownBlock ∧ k_ ≠ gb349 ∧ k_ ≠ gb351)) k_ ∧ some k_ ≠ (.slice Ao18 x352000_2.length co18 : Value).ownBlock)) (HO358.out) (fun k_ hk => ⟨⟨hk.1.1, ⟨hk.1.2.2.1, ⟨hk.2, ⟨hk.1.2.2.2.1, hk.1.2.2.2.2⟩⟩⟩⟩, hk.1.2.1⟩))))
               (case aB => exact (xG2 HB.out GE349.out GE351.out))
               (case aF => exact (fun k_ hk => ⟨(Nat.le_trans (below_size (xG2 HB.out GE349.out GE351.out)) hk), Kd.fresh' (Kd.R_lt (xR HO_352001.out)) k_ hk, Kd.fresh' (Kd.R_lt (xR HO364.out)) k_ hk, Kd.freshB (g := gb349) (o := .cells #[.slice none 0 0, .slice none 0 0] 43 (0, 0)) (xB BK349.out) k_ hk, Kd.freshB (g := gb351) (o := .cells #[.slice Ao18 x352000_2.length co18, .slice Ao19 x352001_2.length co19] 43 (0, 0)) (xB BK351.out) k_ hk⟩))
               (case aO => exact (by (with_reducible repeat (first | apply Kd.N_alloc | apply Kd.N_drewN | apply Kd.N_drew)); exact Kd.N_mono HO_352000.out (fun _ hk => ⟨hk.1.1.1.1, ⟨hk.1.1.1.2.1, ⟨hk.2, ⟨hk.1.1.1.2.2.1, hk.1.1.1.2.2.2⟩⟩⟩⟩)))
               (case aS => exact (below_size (xG2 HB.out GE349.out GE351.out)))
               (case aL => have := LMc16.out; omega)
               intro v360 w27 ho hb hg hat
               rw [← Ny359.out] at ho
               have n0_ := aM (Kd.R_over' (xR HO_352001.out) (Kd.N_typed (by (with_reducible repeat (first | apply Kd.N_alloc | apply Kd.N_drewN | apply Kd.N_drew)); exact HO_352000.out)) (by decide) hg)
               have n1_ := aM (blk_grown (g := gb349) (o := .cells #[.slice none 0 0, .slice none 0 0] 43 (0, 0)) (xB BK349.out) hg (Kd.N_ne HO_352000.out BK349.out (by decide)))
               have n2_ := aM (blk_grown (g := gb351) (o := .cells #[.slice Ao18 x352000_2.length co18, .slice Ao19 x352001_2.length co19] 43 (0, 0)) (xB BK351.out) hg (Kd.N_ne HO_352000.out BK351.out (by decide)))
               have n3_ := aM (Kd.N_afterv (ok := (fun k_ => (w.heap.size ≤ k_) ∧ some k_ ≠ (.slice Ao19 x352001_2.length co19 : Value).ownBlock ∧ some k_ ≠ (v363 : Value).ownBlock ∧ k_ ≠ gb349 ∧ k_ ≠ gb351)) (by (with_reducible repeat (first | apply Kd.N_alloc | apply Kd.N_drewN | apply Kd.N_drew)); exact Kd.N_mono HO358.out (fun _ hk => ⟨⟨hk.1.1, ⟨hk.1.2.2.1, ⟨hk.2, ⟨hk.1.2.2.2.1, hk.1.2.2.2.2⟩⟩⟩⟩, hk.1.2.1⟩)) hg hat)
               have n4_ := aM (Kd.R_over' (xR HO364.out) (Kd.N_typed (by (with_reducible repeat (first | apply Kd.N_alloc | apply Kd.N_drewN | apply Kd.N_drew)); exact HO_352000.out)) (by decide) hg)
               have n5_ := aM (hb)
               have n6_ := aM (ho)
               clear HO_352001 BK349 BK351 HO358 HO364 HB HO_352000
               have HO_352001 := n0_
               have BK349 := n1_
               have BK351 := n2_
               have HO358 := n3_
               have HO364 := n4_
               have HB := n5_
               have HO361 := n6_
               clear n0_ n1_ n2_ n3_ n4_ n5_ n6_ ho hb hg hat
               refine hK.out _ _ ⟨(bC BK351.out 0).trans rfl, (bC BK351.out 1).trans rfl⟩ (fun hHeld => ?_)
               clear hK K
               refine norm_ (a' := ?_) ?_ ?_
               rotate_left
               ·
                show Act.put _ (some 32) _ = _
                simp only [Act.put, sA, sZ, sU, i64_w, i32_w]
                rfl
               refine pure_ (i := 14) (N := some 40) (v := ?_) (a' := ?_) #[true, true, true, true, true, true, true, true, true, true, true, true, true, false, true, false, false, false] rfl rfl (any_of HT_.out (by kernel_rfl)) (fun _ _ _ h => h) (Or.inl ⟨by rfl, ?_⟩) ?_ ?_
               rotate_left
               ·
                intro w'
                go_simp
                with_reducible rfl
               rotate_left
               ·
                simp only [Act.put, sA, sZ, sU, i64_w, i32_w]
                rfl
               exact norm_ (by simp only [putAll, Act.put, sA, sZ, sU]) (hCont (.slice Ao22 t353.length co22, .slice Ao28 y356.length co28, v360, v363) _ ⟨hHeld, (by (with_reducible repeat (first | apply Kd.N_alloc | apply Kd.N_drewN | apply Kd.N_drew)); exact Kd.N_mono HO358.out (fun _ hk => ⟨hk.1.1, ⟨hk.2, ⟨hk.1.2.2.1, ⟨hk.1.2.1, ⟨hk.1.2.2.2.1, hk.1.2.2.2.2⟩⟩⟩⟩⟩)), (by (with_reducible repeat (first | apply Kd.N_alloc | apply Kd.N_drewN | apply Kd.N_drew)); exact Kd.N_mono HO361.out (fun _ hk => ⟨hk.1, ⟨hk.2.2.1, ⟨hk.2.1, ⟨hk.2.2.2.1, hk.2.2.2.2⟩⟩⟩⟩)), (by (with_reducible repeat (first | apply rA | apply rN | apply rD)); exact rM HO364.out (fun _ hk => ⟨hk.1.1, hk.2⟩)), (by (with_reducible repeat (first | apply rA | apply rN | apply rD)); exact rM HO_352001.out (fun _ hk => ⟨hk.1.1, hk.2⟩)), (xB BK349.out), (xB BK351.out), (xG2 HB.out GE349.out GE351.out)⟩)
             ·
              skip
              refine Kd.R_lit_step (Kd.int .i64) _ 3 ?hg (N := 38) ?hd (xs := ([wrap64 ((wrap64 (2 * (rd l1 x21_2))) - 1)] : List Int)) (inner := [.int .i64 (wrap64 ((wrap64 (2 * (rd l1 x21_2))) - 1))]) (ok := fun _ => True) (okp := fun _ => True) ?hr ?hp (fun _ hk => hk) trivial (Below.refl _ _) (Nat.le_refl _) (by simp) ?_; (case hd => rfl); (case hg => rfl); (case hr => first | (go_simp; done) | (go_simp; rfl)); (case hp => exact (Reps.one (show Kd.M (Kd.int .i64) _ _ _ (wrap64 ((wrap64 (2 * (rd l1 x21_2))) - 1)) [.int .i64 (wrap64 ((wrap64 (2 * (rd l1 x21_2))) - 1))] from rfl) (Reps.none _ _)))
              intro v363 w22 ho23 hb hg_ hnew_
              clear hg_ hnew_
              (first | rw [← Ny362.out] at ho23 | (simp only [Int.reduceToNat] at ho23; rw [← Ny362.out] at ho23))
              have n0_ := aM (Kd.N_elder' (by (with_reducible repeat (first | apply Kd.N_alloc | apply Kd.N_drewN | apply Kd.N_drew)); exact HO_352000.out) (Kd.R_base ho23) hb)
              have n1_ := aM (Kd.R_elder' (xR HO_352001.out) (Kd.R_base ho23) hb)
              have n2_ := aM (Kd.R_elder' (xR HO355.out) (Kd.R_base ho23) hb)
              have n3_ := aM (Kd.R_lower (Kd.R_new' (Kd.R_new' (Kd.R_newM (M := fun k_ => (w.heap.size ≤ k_)) ho23 (below_size (xG2 HB.out GE349.out GE351.out)) (fun k_ h_ => h_)) (Kd.R_lt (xR HO_352001.out))) (Kd.R_lt (xR HO355.out))) (below_size (xG2 HB.out GE349.out GE351.out)))
              have n4_ := aM (bB (g := gb349) (o := .cells #[.slice none 0 0, .slice none 0 0] 43 (0, 0)) (xB BK349.out) hb)
              have n5_ := aM (bB (g := gb351) (o := .cells #[.slice Ao18 x352000_2.length co18, .slice Ao19 x352001_2.length co19] 43 (0, 0)) (xB BK351.out) hb)
              have n6_ := aM (below_step (xG2 HB.out GE349.out GE351.out) hb)
              clear HO_352000 HO_352001 HO355 BK349 BK351 HB
              have HO_352000 := n0_
              have HO_352001 := n1_
              have HO355 := n2_
              have HO364 := n3_
              have BK349 := n4_
              have BK351 := n5_
              have HB := n6_
              clear n0_ n1_ n2_ n3_ n4_ n5_ n6_ hb ho23
              obtain ⟨Ao24, co24, eo24⟩ := Kd.R_slice HO355.out
              (first | subst eo24 | (injection eo24 with f1_ f2_ f3_; have f4_ := f1_.symm; have f5_ := f3_.symm; clear f1_ f2_ f3_; subst f4_; subst f5_))
              refine hK.out _ _ ⟨(bC BK351.out 0).trans rfl, (bC BK351.out 1).trans rfl⟩ (fun hHeld => ?_)
              clear hK K
              refine norm_ (a' := ?_) ?_ ?_
              rotate_left
              ·
               show Act.put _ (some 38) _ = _
               simp only [Act.put, sA, sZ, sU, i64_w, i32_w]
               rfl
              refine one_ (i := 5) (N := some 31) #[true, true, true, true, true, true, false, true, true, true, true, true, true, false, false, false, false, false] rfl rfl (one_of HT_.out (by kernel_rfl)) (by decide) (fun K hK => ?_)
              refine Kd.N_lit_step (Kd.slice 3 (Kd.int .i64)) _ 22 ?hg (N' := 31) ?hd (xs := ([t353] : List (List Int))) (inner := [.slice Ao24 t353.length co24]) (ok := (fun k_ => (w.heap.size ≤ k_) ∧ some k_ ≠ (.slice Ao18 x352000_2.length co18 : Value).ownBlock ∧ some k_ ≠ (.slice Ao19 x352001_2.length co19 : Value).ownBlock ∧ some k_ ≠ (v363 : Value).ownBlock ∧ k_ ≠ gb349 ∧ k_ ≠ gb351)) (okp := (fun k_ => (w.heap.size ≤ k_) ∧ some k_ ≠ (.slice Ao18 x352000_2.length co18 : Value).ownBlock ∧ some k_ ≠ (.slice Ao19 x352001_2.length co19 : Value).ownBlock ∧ some k_ ≠ (v363 : Value).ownBlock ∧ k_ ≠ gb349 ∧ k_ ≠ gb351)) ?hr ?hp (fun _ hk => hk) ((show ∀ k_, w22.heap.size ≤ k_ → (fun k_ => (w.heap.size ≤ k_) ∧ some k_ ≠ (.slice Ao18 x352000_2.length co18 : Value).ownBlock ∧ some k_ ≠ (.slice Ao19 x352001_2.length co19 : Value).ownBlock ∧ some k_ ≠ (v363 : Value).ownBlock ∧ k_ ≠ gb349 ∧ k_ ≠ gb351) k_ from fun k_ hk => ⟨(Nat.le_trans (below_size (xG2 HB.out GE349.out GE351.out)) hk), Kd.fresh' (Kd.N_lt (by (with_reducible repeat (first | apply Kd.N_alloc | apply Kd.N_drewN | apply Kd.N_drew)); exact HO_352000.out)) k_ hk, Kd.fresh' (Kd.R_lt (xR HO_352001.out)) k_ hk, Kd.fresh' (Kd.R_lt (xR HO364.out)) k_ hk, Kd.freshB (g := gb349) (o := .cells #[.slice none 0 0, .slice none 0 0] 43 (0, 0)) (xB BK349.out) k_ hk, Kd.freshB (g := gb351) (o := .cells #[.slice Ao18 x352000_2.length co18, .slice Ao19 x352001_2.length co19] 43 (0, 0)) (xB BK351.out) k_ hk⟩) _ (Nat.le_refl _)) (Below.refl _ _) (Nat.le_refl _) (by simp) ?_; (case hd => rfl); (case hg => rfl); (case hr => first | (go_simp; done) | (go_simp; rfl)); (case hp => exact (Reps.one (show Kd.FK (Kd.slice 3 (Kd.int .i64)) _ _ t353 [.slice Ao24 t353.length co24] from (Kd.FK_slice_mk (Kd.R_reads' (rM (ok' := (fun k_ => (w.heap.size ≤ k_) ∧ some k_ ≠ (.slice Ao18 x352000_2.length co18 : Value).ownBlock ∧ some k_ ≠ (.slice Ao19 x352001_2.length co19 : Value).ownBlock ∧ some k_ ≠ (v363 : Value).ownBlock ∧ k_ ≠ gb349 ∧ k_ ≠ gb351)) (Kd.R_types (Kd.R_types (Kd.R_apart' (HO355.out) (Kd.N_typed HO_352000.out) (by decide)) BK349.out (by decide)) BK351.out (by decide)) (fun k_ hk => ⟨hk.1.1.1.1.1.1, ⟨hk.1.1.2, ⟨hk.1.1.1.1.2, ⟨hk.1.1.1.2, ⟨hk.1.2, hk.2⟩⟩⟩⟩⟩))).2.1 (Kd.R_F (rM (ok' := (fun k_ => (w.heap.size ≤ k_) ∧ some k_ ≠ (.slice Ao18 x352000_2.length co18 : Value).ownBlock ∧ some k_ ≠ (.slice Ao19 x352001_2.length co19 : Value).ownBlock ∧ some k_ ≠ (v363 : Value).ownBlock ∧ k_ ≠ gb349 ∧ k_ ≠ gb351)) (Kd.R_types (Kd.R_types (Kd.R_apart' (HO355.out) (Kd.N_typed HO_352000.out) (by decide)) BK349.out (by decide)) BK351.out (by decide)) (fun k_ hk => ⟨hk.1.1.1.1.1.1, ⟨hk.1.1.2, ⟨hk.1.1.1.1.2, ⟨hk.1.1.1.2, ⟨hk.1.2, hk.2⟩⟩⟩⟩⟩))))) (Reps.none _ _)))
              intro v357 w25 ho26 hb hg_ hnew_
              clear hg_ hnew_
              (first | rw [← Ny356.out] at ho26 | (simp only [Int.reduceToNat] at ho26; rw [← Ny356.out] at ho26))
              have n0_ := aM (Kd.N_elder' (by (with_reducible repeat (first | apply Kd.N_alloc | apply Kd.N_drewN | apply Kd.N_drew)); exact HO_352000.out) (by first | exact Kd.N_base ho26 | exact Kd.S_base ho26 | exact Kd.R_base ho26) hb)
              have n1_ := aM (Kd.R_below (xR HO_352001.out) hb)
              have n2_ := aM (Kd.R_below (xR HO364.out) hb)
              have n3_ := aM (Kd.N_lower ho26 (below_size (xG2 HB.out GE349.out GE351.out)))
              have n4_ := aM (bB (g := gb349) (o := .cells #[.slice none 0 0, .slice none 0 0] 43 (0, 0)) (xB BK349.out) hb)
              have n5_ := aM (bB (g := gb351) (o := .cells #[.slice Ao18 x352000_2.length co18, .slice Ao19 x352001_2.length co19] 43 (0, 0)) (xB BK351.out) hb)
              have n6_ := aM (below_step (xG2 HB.out GE349.out GE351.out) hb)
              clear HO_352000 HO_352001 HO364 BK349 BK351 HB HO355
              have HO_352000 := n0_
              have HO_352001 := n1_
              have HO364 := n2_
              have HO358 := n3_
              have BK349 := n4_
              have BK351 := n5_
              have HB := n6_
              clear n0_ n1_ n2_ n3_ n4_ n5_ n6_ hb ho26
              obtain ⟨Ao28, co28, eo28⟩ := Kd.N_slice HO358.out
              (first | subst eo28 | (injection eo28 with f1_ f2_ f3_; have f4_ := f1_.symm; have f5_ := f3_.symm; clear f1_ f2_ f3_; subst f4_; subst f5_))
              refine hK.out _ _ ⟨(bC BK351.out 0).trans rfl, (bC BK351.out 1).trans rfl⟩ (fun hHeld => ?_)
              clear hK K
              refine norm_ (a' := ?_) ?_ ?_
              rotate_left
              ·
               show Act.put _ (some 31) _ = _
               simp only [Act.put, sA, sZ, sU, i64_w, i32_w]
               rfl
              refine one_ (i := 6) (N := some 32) #[true, true, true, true, true, true, true, true, true, true, true, true, true, false, false, false, false, false] rfl rfl (one_of HT_.out (by kernel_rfl)) (by decide) (fun K hK => ?_)
              refine Kd.N_append_rows_step (Kd.slice 3 (Kd.int .i64)) (w0 := w) w.heap.size (by rfl) (.tmp 27) (.tmp 31) 32 22 (.slice none 0 0) 24 rfl Try.underlying32 info22 rfl (by decide) (by omega) (.slice Ao18 x352000_2.length co18) x352000_2 y356 _ _ _ (fun k_ => (w.heap.size ≤ k_) ∧ some k_ ≠ (.slice Ao19 x352001_2.length co19 : Value).ownBlock ∧ some k_ ≠ (v363 : Value).ownBlock ∧ k_ ≠ gb349 ∧ k_ ≠ gb351) (fun k_ => ((fun k_ => (w.heap.size ≤ k_) ∧ some k_ ≠ (.slice Ao19 x352001_2.length co19 : Value).ownBlock ∧ some k_ ≠ (v363 : Value).ownBlock ∧ k_ ≠ gb349 ∧ k_ ≠ gb351)) k_ ∧ some k_ ≠ (.slice Ao18 x352000_2.length co18 : Value).ownBlock) rfl rfl ?aO ?aR (fun _ hk => hk) ?aF ?aB ?aS ?aL ?_
              (case aR => exact (by skip; exact Kd.N_F (Kd.N_mono (ok' := (fun k_ => ((fun k_ => (w.heap.size ≤ k_) ∧ some k_ ≠ (.slice Ao19 x352001_2.length co19 : Value).ownBlock ∧ some k_ ≠ (v363 : Value).ownBlock ∧ k_ ≠ gb349 ∧ k_ ≠ gb351)) k_ ∧ some k_ ≠ (.slice Ao18 x352000_2.length co18 : Value).ownBlock)) (HO358.out) (fun k_ hk => ⟨⟨hk.1, ⟨hk.2.2.1, ⟨hk.2.2.2.1, ⟨hk.2.2.2.2.1, hk.2.2.2.2.2⟩⟩⟩⟩, hk.2.1⟩))))
              (case aB => exact (xG2 HB.out GE349.out GE351.out))
              (case aF => exact (fun k_ hk => ⟨(Nat.le_trans (below_size (xG2 HB.out GE349.out GE351.out)) hk), Kd.fresh' (Kd.R_lt (xR HO_352001.out)) k_ hk, Kd.fresh' (Kd.R_lt (xR HO364.out)) k_ hk, Kd.freshB (g := gb349) (o := .cells #[.slice none 0 0, .slice none 0 0] 43 (0, 0)) (xB BK349.out) k_ hk, Kd.freshB (g := gb351) (o := .cells #[.slice Ao18 x352000_2.length co18, .slice Ao19 x352001_2.length co19] 43 (0, 0)) (xB BK351.out) k_ hk⟩))
              (case aO => exact (by (with_reducible repeat (first | apply Kd.N_alloc | apply Kd.N_drewN | apply Kd.N_drew)); exact Kd.N_mono HO_352000.out (fun _ hk => ⟨hk.1.1.1.1, ⟨hk.1.1.1.2.1, ⟨hk.1.2, ⟨hk.1.1.1.2.2.1, hk.1.1.1.2.2.2⟩⟩⟩⟩)))
              (case aS => exact (below_size (xG2 HB.out GE349.out GE351.out)))
              (case aL => have := LMc16.out; omega)
              intro v360 w27 ho hb hg hat
              rw [← Ny359.out] at ho
              have n0_ := aM (Kd.R_over' (xR HO_352001.out) (Kd.N_typed (by (with_reducible repeat (first | apply Kd.N_alloc | apply Kd.N_drewN | apply Kd.N_drew)); exact HO_352000.out)) (by decide) hg)
              have n1_ := aM (blk_grown (g := gb349) (o := .cells #[.slice none 0 0, .slice none 0 0] 43 (0, 0)) (xB BK349.out) hg (Kd.N_ne HO_352000.out BK349.out (by decide)))
              have n2_ := aM (blk_grown (g := gb351) (o := .cells #[.slice Ao18 x352000_2.length co18, .slice Ao19 x352001_2.length co19] 43 (0, 0)) (xB BK351.out) hg (Kd.N_ne HO_352000.out BK351.out (by decide)))
              have n3_ := aM (Kd.R_over' (xR HO364.out) (Kd.N_typed (by (with_reducible repeat (first | apply Kd.N_alloc | apply Kd.N_drewN | apply Kd.N_drew)); exact HO_352000.out)) (by decide) hg)
              have n4_ := aM (Kd.N_afterv (ok := (fun k_ => (w.heap.size ≤ k_) ∧ some k_ ≠ (.slice Ao19 x352001_2.length co19 : Value).ownBlock ∧ some k_ ≠ (v363 : Value).ownBlock ∧ k_ ≠ gb349 ∧ k_ ≠ gb351)) (by (with_reducible repeat (first | apply Kd.N_alloc | apply Kd.N_drewN | apply Kd.N_drew)); exact Kd.N_mono HO358.out (fun _ hk => ⟨⟨hk.1, ⟨hk.2.2.1, ⟨hk.2.2.2.1, ⟨hk.2.2.2.2.1, hk.2.2.2.2.2⟩⟩⟩⟩, hk.2.1⟩)) hg hat)
              have n5_ := aM (hb)
              have n6_ := aM (ho)
              clear HO_352001 BK349 BK351 HO364 HO358 HB HO_352000
              have HO_352001 := n0_
              have BK349 := n1_
              have BK351 := n2_
              have HO364 := n3_
              have HO358 := n4_
              have HB := n5_
              have HO361 := n6_
              clear n0_ n1_ n2_ n3_ n4_ n5_ n6_ ho hb hg hat
              refine hK.out _ _ ⟨(bC BK351.out 0).trans rfl, (bC BK351.out 1).trans rfl⟩ (fun hHeld => ?_)
              clear hK K
              refine norm_ (a' := ?_) ?_ ?_
              rotate_left
              ·
               show Act.put _ (some 32) _ = _
               simp only [Act.put, sA, sZ, sU, i64_w, i32_w]
               rfl
              refine pure_ (i := 14) (N := some 40) (v := ?_) (a' := ?_) #[true, true, true, true, true, true, true, true, true, true, true, true, true, false, true, false, false, false] rfl rfl (any_of HT_.out (by kernel_rfl)) (fun _ _ _ h => h) (Or.inl ⟨by rfl, ?_⟩) ?_ ?_
              rotate_left
              ·
               intro w'
               go_simp
               with_reducible rfl
              rotate_left
              ·
               simp only [Act.put, sA, sZ, sU, i64_w, i32_w]
               rfl
              exact norm_ (by simp only [putAll, Act.put, sA, sZ, sU]) (hCont (.slice Ao24 t353.length co24, .slice Ao28 y356.length co28, v360, v363) _ ⟨hHeld, (by (with_reducible repeat (first | apply Kd.N_alloc | apply Kd.N_drewN | apply Kd.N_drew)); exact Kd.N_mono HO358.out (fun _ hk => ⟨hk.1.1, ⟨hk.2, ⟨hk.1.2.2.1, ⟨hk.1.2.1, ⟨hk.1.2.2.2.1, hk.1.2.2.2.2⟩⟩⟩⟩⟩)), (by (with_reducible repeat (first | apply Kd.N_alloc | apply Kd.N_drewN | apply Kd.N_drew)); exact Kd.N_mono HO361.out (fun _ hk => ⟨hk.1, ⟨hk.2.2.1, ⟨hk.2.1, ⟨hk.2.2.2.1, hk.2.2.2.2⟩⟩⟩⟩)), (by (with_reducible repeat (first | apply rA | apply rN | apply rD)); exact rM HO364.out (fun _ hk => ⟨hk.1.1.1, hk.1.2⟩)), (by (with_reducible repeat (first | apply rA | apply rN | apply rD)); exact rM HO_352001.out (fun _ hk => ⟨hk.1.1, hk.2⟩)), (xB BK349.out), (xB BK351.out), (xG2 HB.out GE349.out GE351.out)⟩)
            ·
             skip
             refine Kd.R_lit_step (Kd.int .i64) _ 3 ?hg (N := 38) ?hd (xs := ([wrap64 ((wrap64 (2 * (rd l1 x21_2))) - 1)] : List Int)) (inner := [.int .i64 (wrap64 ((wrap64 (2 * (rd l1 x21_2))) - 1))]) (ok := fun _ => True) (okp := fun _ => True) ?hr ?hp (fun _ hk => hk) trivial (Below.refl _ _) (Nat.le_refl _) (by simp) ?_; (case hd => rfl); (case hg => rfl); (case hr => first | (go_simp; done) | (go_simp; rfl)); (case hp => exact (Reps.one (show Kd.M (Kd.int .i64) _ _ _ (wrap64 ((wrap64 (2 * (rd l1 x21_2))) - 1)) [.int .i64 (wrap64 ((wrap64 (2 * (rd l1 x21_2))) - 1))] from rfl) (Reps.none _ _)))
             intro v363 w21 ho22 hb hg_ hnew_
             clear hg_ hnew_
             (first | rw [← Ny362.out] at ho22 | (simp only [Int.reduceToNat] at ho22; rw [← Ny362.out] at ho22))
             have n0_ := aM (Kd.N_elder' (by (with_reducible repeat (first | apply Kd.N_alloc | apply Kd.N_drewN | apply Kd.N_drew)); exact HO_352000.out) (Kd.R_base ho22) hb)
             have n1_ := aM (Kd.R_elder' (xR HO_352001.out) (Kd.R_base ho22) hb)
             have n2_ := aM (Kd.R_lower (Kd.R_new' (Kd.R_newM (M := fun k_ => (w.heap.size ≤ k_)) ho22 (below_size (xG2 HB.out GE349.out GE351.out)) (fun k_ h_ => h_)) (Kd.R_lt (xR HO_352001.out))) (below_size (xG2 HB.out GE349.out GE351.out)))
             have n3_ := aM (bB (g := gb349) (o := .cells #[.slice none 0 0, .slice none 0 0] 43 (0, 0)) (xB BK349.out) hb)
             have n4_ := aM (bB (g := gb351) (o := .cells #[.slice Ao18 x352000_2.length co18, .slice Ao19 x352001_2.length co19] 43 (0, 0)) (xB BK351.out) hb)
             have n5_ := aM (below_step (xG2 HB.out GE349.out GE351.out) hb)
             clear HO_352000 HO_352001 BK349 BK351 HB
             have HO_352000 := n0_
             have HO_352001 := n1_
             have HO364 := n2_
             have BK349 := n3_
             have BK351 := n4_
             have HB := n5_
             clear n0_ n1_ n2_ n3_ n4_ n5_ hb ho22
             refine hK.out _ _ ⟨(bC BK351.out 0).trans rfl, (bC BK351.out 1).trans rfl⟩ (fun hHeld => ?_)
             clear hK K
             refine norm_ (a' := ?_) ?_ ?_
             rotate_left
             ·
              show Act.put _ (some 38) _ = _
              simp only [Act.put, sA, sZ, sU, i64_w, i32_w]
              rfl
             refine one_ (i := 4) (N := some 30) #[true, true, true, true, true, false, false, true, true, true, true, true, true, false, false, false, false, false] rfl rfl (one_of HT_.out (by kernel_rfl)) (by decide) (fun K hK => ?_)
             refine goes_ Try.func56 (by kernel_rfl) rfl #[.int .i64 a0, .int .i64 x21_2] (by rfl) rfl rfl xL ?_
             with_reducible refine (impl_bitPoint.calls k2 a0 x21_2 t353 _ A15.out).mono ?_
             rintro e w23 ⟨v354, rfl, ho0, hb⟩
             refine ⟨_, rfl, ?_⟩
             have n0_ := aM (Kd.N_elder' (by (with_reducible repeat (first | apply Kd.N_alloc | apply Kd.N_drewN | apply Kd.N_drew)); exact HO_352000.out) (Kd.R_base ho0) hb)
             have n1_ := aM (Kd.R_elder' (xR HO_352001.out) (Kd.R_base ho0) hb)
             have n2_ := aM (Kd.R_elder' (xR HO364.out) (Kd.R_base ho0) hb)
             have n3_ := aM (Kd.R_lower (Kd.R_new' (Kd.R_new' (Kd.R_newM (M := fun k_ => (w.heap.size ≤ k_)) ho0 (below_size (xG2 HB.out GE349.out GE351.out)) (fun k_ h_ => h_)) (Kd.R_lt (xR HO_352001.out))) (Kd.R_lt (xR HO364.out))) (below_size (xG2 HB.out GE349.out GE351.out)))
             have n4_ := aM (bB (g := gb349) (o := .cells #[.slice none 0 0, .slice none 0 0] 43 (0, 0)) (xB BK349.out) hb)
             have n5_ := aM (bB (g := gb351) (o := .cells #[.slice Ao18 x352000_2.length co18, .slice Ao19 x352001_2.length co19] 43 (0, 0)) (xB BK351.out) hb)
             have n6_ := aM (below_step (xG2 HB.out GE349.out GE351.out) hb)
             clear HO_352000 HO_352001 HO364 BK349 BK351 HB
             have HO_352000 := n0_
             have HO_352001 := n1_
             have HO364 := n2_
             have HO355 := n3_
             have BK349 := n4_
             have BK351 := n5_
             have HB := n6_
             clear n0_ n1_ n2_ n3_ n4_ n5_ n6_
             (try clear hb)
             (try clear hb2)
             (try clear hk)
             (try clear hi)
             (try clear ho0)
             obtain ⟨Ao24, co24, eo24⟩ := Kd.R_slice HO355.out
             (first | subst eo24 | (injection eo24 with f1_ f2_ f3_; have f4_ := f1_.symm; have f5_ := f3_.symm; clear f1_ f2_ f3_; subst f4_; subst f5_))
             refine hK.out _ _ ⟨(bC BK351.out 0).trans rfl, (bC BK351.out 1).trans rfl⟩ (fun hHeld => ?_)
             clear hK K
             refine norm_ (a' := ?_) ?_ ?_
             rotate_left
             ·
              show Act.put _ (some 30) _ = _
              simp only [Act.put, sA, sZ, sU, i64_w, i32_w]
              rfl
             refine one_ (i := 5) (N := some 31) #[true, true, true, true, true, true, false, true, true, true, true, true, true, false, false, false, false, false] rfl rfl (one_of HT_.out (by kernel_rfl)) (by decide) (fun K hK => ?_)
             refine Kd.N_lit_step (Kd.slice 3 (Kd.int .i64)) _ 22 ?hg (N' := 31) ?hd (xs := ([t353] : List (List Int))) (inner := [.slice Ao24 t353.length co24]) (ok := (fun k_ => (w.heap.size ≤ k_) ∧ some k_ ≠ (.slice Ao18 x352000_2.length co18 : Value).ownBlock ∧ some k_ ≠ (.slice Ao19 x352001_2.length co19 : Value).ownBlock ∧ some k_ ≠ (v363 : Value).ownBlock ∧ k_ ≠ gb349 ∧ k_ ≠ gb351)) (okp := (fun k_ => (w.heap.size ≤ k_) ∧ some k_ ≠ (.slice Ao18 x352000_2.length co18 : Value).ownBlock ∧ some k_ ≠ (.slice Ao19 x352001_2.length co19 : Value).ownBlock ∧ some k_ ≠ (v363 : Value).ownBlock ∧ k_ ≠ gb349 ∧ k_ ≠ gb351)) ?hr ?hp (fun _ hk => hk) ((show ∀ k_, w23.heap.size ≤ k_ → (fun k_ => (w.heap.size ≤ k_) ∧ some k_ ≠ (.slice Ao18 x352000_2.length co18 : Value).ownBlock ∧ some k_ ≠ (.slice Ao19 x352001_2.length co19 : Value).ownBlock ∧ some k_ ≠ (v363 : Value).ownBlock ∧ k_ ≠ gb349 ∧ k_ ≠ gb351) k_ from fun k_ hk => ⟨(Nat.le_trans (below_size (xG2 HB.out GE349.out GE351.out)) hk), Kd.fresh' (Kd.N_lt (by (with_reducible repeat (first | apply Kd.N_alloc | apply Kd.N_drewN | apply Kd.N_drew)); exact HO_352000.out)) k_ hk, Kd.fresh' (Kd.R_lt (xR HO_352001.out)) k_ hk, Kd.fresh' (Kd.R_lt (xR HO364.out)) k_ hk, Kd.freshB (g := gb349) (o := .cells #[.slice none 0 0, .slice none 0 0] 43 (0, 0)) (xB BK349.out) k_ hk, Kd.freshB (g := gb351) (o := .cells #[.slice Ao18 x352000_2.length co18, .slice Ao19 x352001_2.length co19] 43 (0, 0)) (xB BK351.out) k_ hk⟩) _ (Nat.le_refl _)) (Below.refl _ _) (Nat.le_refl _) (by simp) ?_; (case hd => rfl); (case hg => rfl); (case hr => first | (go_simp; done) | (go_simp; rfl)); (case hp => exact (Reps.one (show Kd.FK (Kd.slice 3 (Kd.int .i64)) _ _ t353 [.slice Ao24 t353.length co24] from (Kd.FK_slice_mk (Kd.R_reads' (rM (ok' := (fun k_ => (w.heap.size ≤ k_) ∧ some k_ ≠ (.slice Ao18 x352000_2.length co18 : Value).ownBlock ∧ some k_ ≠ (.slice Ao19 x352001_2.length co19 : Value).ownBlock ∧ some k_ ≠ (v363 : Value).ownBlock ∧ k_ ≠ gb349 ∧ k_ ≠ gb351)) (Kd.R_types (Kd.R_types (Kd.R_apart' (HO355.out) (Kd.N_typed HO_352000.out) (by decide)) BK349.out (by decide)) BK351.out (by decide)) (fun k_ hk => ⟨hk.1.1.1.1.1.1, ⟨hk.1.1.2, ⟨hk.1.1.1.1.2, ⟨hk.1.1.1.2, ⟨hk.1.2, hk.2⟩⟩⟩⟩⟩))).2.1 (Kd.R_F (rM (ok' := (fun k_ => (w.heap.size ≤ k_) ∧ some k_ ≠ (.slice Ao18 x352000_2.length co18 : Value).ownBlock ∧ some k_ ≠ (.slice Ao19 x352001_2.length co19 : Value).ownBlock ∧ some k_ ≠ (v363 : Value).ownBlock ∧ k_ ≠ gb349 ∧ k_ ≠ gb351)) (Kd.R_types (Kd.R_types (Kd.R_apart' (HO355.out) (Kd.N_typed HO_352000.out) (by decide)) BK349.out (by decide)) BK351.out (by decide)) (fun k_ hk => ⟨hk.1.1.1.1.1.1, ⟨hk.1.1.2, ⟨hk.1.1.1.1.2, ⟨hk.1.1.1.2, ⟨hk.1.2, hk.2⟩⟩⟩⟩⟩))))) (Reps.none _ _)))
             intro v357 w25 ho26 hb hg_ hnew_
             clear hg_ hnew_
             (first | rw [← Ny356.out] at ho26 | (simp only [Int.reduceToNat] at ho26; rw [← Ny356.out] at ho26))
             have n0_ := aM (Kd.N_elder' (by (with_reducible repeat (first | apply Kd.N_alloc | apply Kd.N_drewN | apply Kd.N_drew)); exact HO_352000.out) (by first | exact Kd.N_base ho26 | exact Kd.S_base ho26 | exact Kd.R_base ho26) hb)
             have n1_ := aM (Kd.R_below (xR HO_352001.out) hb)
             have n2_ := aM (Kd.R_below (xR HO364.out) hb)
             have n3_ := aM (Kd.N_lower ho26 (below_size (xG2 HB.out GE349.out GE351.out)))
             have n4_ := aM (bB (g := gb349) (o := .cells #[.slice none 0 0, .slice none 0 0] 43 (0, 0)) (xB BK349.out) hb)
             have n5_ := aM (bB (g := gb351) (o := .cells #[.slice Ao18 x352000_2.length co18, .slice Ao19 x352001_2.length co19] 43 (0, 0)) (xB BK351.out) hb)
             have n6_ := aM (below_step (xG2 HB.out GE349.out GE351.out) hb)
             clear HO_352000 HO_352001 HO364 BK349 BK351 HB HO355
             have HO_352000 := n0_
             have HO_352001 := n1_
             have HO364 := n2_
             have HO358 := n3_
             have BK349 := n4_
             have BK351 := n5_
             have HB := n6_
             clear n0_ n1_ n2_ n3_ n4_ n5_ n6_ hb ho26
             obtain ⟨Ao28, co28, eo28⟩ := Kd.N_slice HO358.out
             (first | subst eo28 | (injection eo28 with f1_ f2_ f3_; have f4_ := f1_.symm; have f5_ := f3_.symm; clear f1_ f2_ f3_; subst f4_; subst f5_))
             refine hK.out _ _ ⟨(bC BK351.out 0).trans rfl, (bC BK351.out 1).trans rfl⟩ (fun hHeld => ?_)
             clear hK K
             refine norm_ (a' := ?_) ?_ ?_
             rotate_left
             ·
              show Act.put _ (some 31) _ = _
              simp only [Act.put, sA, sZ, sU, i64_w, i32_w]
              rfl
             refine one_ (i := 6) (N := some 32) #[true, true, true, true, true, true, true, true, true, true, true, true, true, false, false, false, false, false] rfl rfl (one_of HT_.out (by kernel_rfl)) (by decide) (fun K hK => ?_)
             refine Kd.N_append_rows_step (Kd.slice 3 (Kd.int .i64)) (w0 := w) w.heap.size (by rfl) (.tmp 27) (.tmp 31) 32 22 (.slice none 0 0) 24 rfl Try.underlying32 info22 rfl (by decide) (by omega) (.slice Ao18 x352000_2.length co18) x352000_2 y356 _ _ _ (fun k_ => (w.heap.size ≤ k_) ∧ some k_ ≠ (.slice Ao19 x352001_2.length co19 : Value).ownBlock ∧ some k_ ≠ (v363 : Value).ownBlock ∧ k_ ≠ gb349 ∧ k_ ≠ gb351) (fun k_ => ((fun k_ => (w.heap.size ≤ k_) ∧ some k_ ≠ (.slice Ao19 x352001_2.length co19 : Value).ownBlock ∧ some k_ ≠ (v363 : Value).ownBlock ∧ k_ ≠ gb349 ∧ k_ ≠ gb351)) k_ ∧ some k_ ≠ (.slice Ao18 x352000_2.length co18 : Value).ownBlock) rfl rfl ?aO ?aR (fun _ hk => hk) ?aF ?aB ?aS ?aL ?_
             (case aR => exact (by skip; exact Kd.N_F (Kd.N_mono (ok' := (fun k_ => ((fun k_ => (w.heap.size ≤ k_) ∧ some k_ ≠ (.slice Ao19 x352001_2.length co19 : Value).ownBlock ∧ some k_ ≠ (v363 : Value).ownBlock ∧ k_ ≠ gb349 ∧ k_ ≠ gb351)) k_ ∧ some k_ ≠ (.slice Ao18 x352000_2.length co18 : Value).ownBlock)) (HO358.out) (fun k_ hk => ⟨⟨hk.1, ⟨hk.2.2.1, ⟨hk.2.2.2.1, ⟨hk.2.2.2.2.1, hk.2.2.2.2.2⟩⟩⟩⟩, hk.2.1⟩))))
             (case aB => exact (xG2 HB.out GE349.out GE351.out))
             (case aF => exact (fun k_ hk => ⟨(Nat.le_trans (below_size (xG2 HB.out GE349.out GE351.out)) hk), Kd.fresh' (Kd.R_lt (xR HO_352001.out)) k_ hk, Kd.fresh' (Kd.R_lt (xR HO364.out)) k_ hk, Kd.freshB (g := gb349) (o := .cells #[.slice none 0 0, .slice none 0 0] 43 (0, 0)) (xB BK349.out) k_ hk, Kd.freshB (g := gb351) (o := .cells #[.slice Ao18 x352000_2.length co18, .slice Ao19 x352001_2.length co19] 43 (0, 0)) (xB BK351.out) k_ hk⟩))
             (case aO => exact (by (with_reducible repeat (first | apply Kd.N_alloc | apply Kd.N_drewN | apply Kd.N_drew)); exact Kd.N_mono HO_352000.out (fun _ hk => ⟨hk.1.1.1.1, ⟨hk.1.1.1.2.1, ⟨hk.1.1.2, ⟨hk.1.1.1.2.2.1, hk.1.1.1.2.2.2⟩⟩⟩⟩)))
             (case aS => exact (below_size (xG2 HB.out GE349.out GE351.out)))
             (case aL => have := LMc16.out; omega)
             intro v360 w27 ho hb hg hat
             rw [← Ny359.out] at ho
             have n0_ := aM (Kd.R_over' (xR HO_352001.out) (Kd.N_typed (by (with_reducible repeat (first | apply Kd.N_alloc | apply Kd.N_drewN | apply Kd.N_drew)); exact HO_352000.out)) (by decide) hg)
             have n1_ := aM (blk_grown (g := gb349) (o := .cells #[.slice none 0 0, .slice none 0 0] 43 (0, 0)) (xB BK349.out) hg (Kd.N_ne HO_352000.out BK349.out (by decide)))
             have n2_ := aM (blk_grown (g := gb351) (o := .cells #[.slice Ao18 x352000_2.length co18, .slice Ao19 x352001_2.length co19] 43 (0, 0)) (xB BK351.out) hg (Kd.N_ne HO_352000.out BK351.out (by decide)))
             have n3_ := aM (Kd.R_over' (xR HO364.out) (Kd.N_typed (by (with_reducible repeat (first | apply Kd.N_alloc | apply Kd.N_drewN | apply Kd.N_drew)); exact HO_352000.out)) (by decide) hg)
             have n4_ := aM (Kd.N_afterv (ok := (fun k_ => (w.heap.size ≤ k_) ∧ some k_ ≠ (.slice Ao19 x352001_2.length co19 : Value).ownBlock ∧ some k_ ≠ (v363 : Value).ownBlock ∧ k_ ≠ gb349 ∧ k_ ≠ gb351)) (by (with_reducible repeat (first | apply Kd.N_alloc | apply Kd.N_drewN | apply Kd.N_drew)); exact Kd.N_mono HO358.out (fun _ hk => ⟨⟨hk.1, ⟨hk.2.2.1, ⟨hk.2.2.2.1, ⟨hk.2.2.2.2.1, hk.2.2.2.2.2⟩⟩⟩⟩, hk.2.1⟩)) hg hat)
             have n5_ := aM (hb)
             have n6_ := aM (ho)
             clear HO_352001 BK349 BK351 HO364 HO358 HB HO_352000
             have HO_352001 := n0_
             have BK349 := n1_
             have BK351 := n2_
             have HO364 := n3_
             have HO358 := n4_
             have HB := n5_
             have HO361 := n6_
             clear n0_ n1_ n2_ n3_ n4_ n5_ n6_ ho hb hg hat
             refine hK.out _ _ ⟨(bC BK351.out 0).trans rfl, (bC BK351.out 1).trans rfl⟩ (fun hHeld => ?_)
             clear hK K
             refine norm_ (a' := ?_) ?_ ?_
             rotate_left
             ·
              show Act.put _ (some 32) _ = _
              simp only [Act.put, sA, sZ, sU, i64_w, i32_w]
              rfl
             refine pure_ (i := 14) (N := some 40) (v := ?_) (a' := ?_) #[true, true, true, true, true, true, true, true, true, true, true, true, true, false, true, false, false, false] rfl rfl (any_of HT_.out (by kernel_rfl)) (fun _ _ _ h => h) (Or.inl ⟨by rfl, ?_⟩) ?_ ?_
             rotate_left
             ·
              intro w'
              go_simp
              with_reducible rfl
             rotate_left
             ·
              simp only [Act.put, sA, sZ, sU, i64_w, i32_w]
              rfl
             exact norm_ (by simp only [putAll, Act.put, sA, sZ, sU]) (hCont (.slice Ao24 t353.length co24, .slice Ao28 y356.length co28, v360, v363) _ ⟨hHeld, (by (with_reducible repeat (first | apply Kd.N_alloc | apply Kd.N_drewN | apply Kd.N_drew)); exact Kd.N_mono HO358.out (fun _ hk => ⟨hk.1.1, ⟨hk.2, ⟨hk.1.2.2.1, ⟨hk.1.2.1, ⟨hk.1.2.2.2.1, hk.1.2.2.2.2⟩⟩⟩⟩⟩)), (by (with_reducible repeat (first | apply Kd.N_alloc | apply Kd.N_drewN | apply Kd.N_drew)); exact Kd.N_mono HO361.out (fun _ hk => ⟨hk.1, ⟨hk.2.2.1, ⟨hk.2.1, ⟨hk.2.2.2.1, hk.2.2.2.2⟩⟩⟩⟩)), (by (with_reducible repeat (first | apply rA | apply rN | apply rD)); exact rM HO364.out (fun _ hk => ⟨hk.1.1.1, hk.1.2⟩)), (by (with_reducible repeat (first | apply rA | apply rN | apply rD)); exact rM HO_352001.out (fun _ hk => ⟨hk.1.1, hk.1.2⟩)), (xB BK349.out), (xB BK351.out), (xG2 HB.out GE349.out GE351.out)⟩)
           rintro ⟨v354, v357, v360, v363⟩ w29 ⟨hS_, h0_, h1_, h2_, h3_, h4_, h5_, h6_⟩
           have n0_ : Aside0 (Kd.N (Kd.slice 3 (Kd.int .i64)) 22 w29 w.heap.size (fun k_ => (w.heap.size ≤ k_) ∧ some k_ ≠ (v360 : Value).ownBlock ∧ some k_ ≠ (v363 : Value).ownBlock ∧ some k_ ≠ (.slice Ao19 x352001_2.length co19 : Value).ownBlock ∧ k_ ≠ gb349 ∧ k_ ≠ gb351) v357 y356) := ⟨h0_⟩
           have n1_ : Aside0 (Kd.N (Kd.slice 3 (Kd.int .i64)) 22 w29 w.heap.size (fun k_ => (w.heap.size ≤ k_) ∧ some k_ ≠ (v363 : Value).ownBlock ∧ some k_ ≠ (.slice Ao19 x352001_2.length co19 : Value).ownBlock ∧ k_ ≠ gb349 ∧ k_ ≠ gb351) v360 y359) := ⟨h1_⟩
           have n2_ : Aside0 (Kd.R (Kd.int .i64) 3 w29 w.heap.size (fun k_ => (w.heap.size ≤ k_) ∧ some k_ ≠ (.slice Ao19 x352001_2.length co19 : Value).ownBlock) v363 y362) := ⟨h2_⟩
           have n3_ : Aside0 (Kd.R (Kd.int .i64) 3 w29 w.heap.size (fun k_ => (w.heap.size ≤ k_) ∧ some k_ ≠ (v363 : Value).ownBlock) (.slice Ao19 x352001_2.length co19) x352001_2) := ⟨h3_⟩
           have n4_ : Aside0 (w29.heap[gb349]? = some (.cells #[.slice none 0 0, .slice none 0 0] 43 (0, 0))) := ⟨h4_⟩
           have n5_ : Aside0 (w29.heap[gb351]? = some (.cells #[.slice Ao18 x352000_2.length co18, .slice Ao19 x352001_2.length co19] 43 (0, 0))) := ⟨h5_⟩
           have n6_ : Aside0 (Below w.heap.size w w29) := ⟨h6_⟩
           clear HO_352000 HO_352001 BK349 BK351 HB h0_ h1_ h2_ h3_ h4_ h5_ h6_
           have HO358 := n0_
           have HO361 := n1_
           have HO364 := n2_
           have HO_352001 := n3_
           have BK349 := n4_
           have BK351 := n5_
           have HB := n6_
           clear n0_ n1_ n2_ n3_ n4_ n5_ n6_
           have hHeld : w29.cell? ⟨gb351, 0, none⟩ = some (.slice Ao18 x352000_2.length co18) ∧ w29.cell? ⟨gb351, 1, none⟩ = some (.slice Ao19 x352001_2.length co19) := hS_
           obtain ⟨Ao31, co31, eo31⟩ := Kd.R_slice HO364.out
           (first | subst eo31 | (injection eo31 with f1_ f2_ f3_; have f4_ := f1_.symm; have f5_ := f3_.symm; clear f1_ f2_ f3_; subst f4_; subst f5_))
           refine norm_ (a' := ?_) ?_ ?_
           rotate_left
           ·
            simp only [putAll, Act.put, sA, sZ, sU]
            rfl
           refine one_ (i := 13) (N := some 39) #[true, true, true, true, true, true, true, true, true, true, true, true, true, true, true, false, false, false] rfl rfl (one_of HT_.out (by kernel_rfl)) (by decide) (fun K hK => ?_)
           refine Kd.R_append_rows_step (Kd.int .i64) (w0 := w) w.heap.size (by rfl) (.tmp 34) (.tmp 38) 22 3 (.int .i64 0) 8 rfl Try.underlying22 info3 rfl (by decide) (by omega) (.slice Ao19 x352001_2.length co19) x352001_2 y362 _ _ _ (fun k_ => (w.heap.size ≤ k_) ∧ some k_ ≠ (.slice Ao31 y362.length co31 : Value).ownBlock) (fun _ => False) rfl rfl ?aO ?aR (fun _ _ h => h) (fun _ h => h.elim) ?aF ?aB ?aS ?aL ?_
           (case aR => exact xC (Kd.R_reads' HO364.out).2.2)
           (case aB => exact (xG2 HB.out GE349.out GE351.out))
           (case aF => exact (fun k_ hk => ⟨(Nat.le_trans (below_size (xG2 HB.out GE349.out GE351.out)) hk), Kd.fresh' (Kd.R_lt (xR HO364.out)) k_ hk⟩))
           (case aO => exact (xR HO_352001.out))
           (case aS => exact (below_size (xG2 HB.out GE349.out GE351.out)))
           (case aL => have := LMc17.out; omega)
           intro v366 w30 ho hb hg hat
           rw [← Ny365.out] at ho
           have n0_ := aM (blk_grown (g := gb349) (o := .cells #[.slice none 0 0, .slice none 0 0] 43 (0, 0)) (xB BK349.out) hg (Kd.R_ne HO_352001.out BK349.out (by decide)))
           have n1_ := aM (blk_grown (g := gb351) (o := .cells #[.slice Ao18 x352000_2.length co18, .slice Ao19 x352001_2.length co19] 43 (0, 0)) (xB BK351.out) hg (Kd.R_ne HO_352001.out BK351.out (by decide)))
           have n2_ := aM (Kd.N_afterv (ok := (fun k_ => (w.heap.size ≤ k_) ∧ some k_ ≠ (v360 : Value).ownBlock ∧ some k_ ≠ (.slice Ao31 y362.length co31 : Value).ownBlock ∧ k_ ≠ gb349 ∧ k_ ≠ gb351)) (by (with_reducible repeat (first | apply Kd.N_alloc | apply Kd.N_drewN | apply Kd.N_drew)); exact Kd.N_mono HO358.out (fun _ hk => ⟨⟨hk.1, ⟨hk.2.1, ⟨hk.2.2.1, ⟨hk.2.2.2.2.1, hk.2.2.2.2.2⟩⟩⟩⟩, hk.2.2.2.1⟩)) hg hat)
           have n3_ := aM (Kd.N_afterv (ok := (fun k_ => (w.heap.size ≤ k_) ∧ some k_ ≠ (.slice Ao31 y362.length co31 : Value).ownBlock ∧ k_ ≠ gb349 ∧ k_ ≠ gb351)) (by (with_reducible repeat (first | apply Kd.N_alloc | apply Kd.N_drewN | apply Kd.N_drew)); exact Kd.N_mono HO361.out (fun _ hk => ⟨⟨hk.1, ⟨hk.2.1, ⟨hk.2.2.2.1, hk.2.2.2.2⟩⟩⟩, hk.2.2.1⟩)) hg hat)
           have n4_ := aM (Kd.R_after (ok := (fun k_ => (w.heap.size ≤ k_))) (xR HO364.out) hg hat)
           have n5_ := aM (hb)
           have n6_ := aM (ho)
           clear BK349 BK351 HO358 HO361 HO364 HB HO_352001
           have BK349 := n0_
           have BK351 := n1_
           have HO358 := n2_
           have HO361 := n3_
           have HO364 := n4_
           have HB := n5_
           have HO367 := n6_
           clear n0_ n1_ n2_ n3_ n4_ n5_ n6_ ho hb hg hat
           obtain ⟨Ao32, co32, eo32⟩ := Kd.N_slice HO361.out
           (first | subst eo32 | (injection eo32 with f1_ f2_ f3_; have f4_ := f1_.symm; have f5_ := f3_.symm; clear f1_ f2_ f3_; subst f4_; subst f5_))
           obtain ⟨Ao34, co34, eo34⟩ := Kd.R_slice HO367.out
           (first | subst eo34 | (injection eo34 with f1_ f2_ f3_; have f4_ := f1_.symm; have f5_ := f3_.symm; clear f1_ f2_ f3_; subst f4_; subst f5_))
           refine hK.out _ _ ⟨(bC BK351.out 0).trans rfl, (bC BK351.out 1).trans rfl⟩ (fun hHeld => ?_)
           clear hK K
           refine norm_ (a' := ?_) ?_ ?_
           rotate_left
           ·
            show Act.put _ (some 39) _ = _
            simp only [Act.put, sA, sZ, sU, i64_w, i32_w]
            rfl
           refine last_ (i := 15) (N := none) #[true, true, true, true, true, true, true, true, true, true, true, true, true, true, true, true, false, false] rfl rfl (one_of HT_.out (by kernel_rfl)) (by decide) (fun K hK => ?_)
           have hs33 : w30.cell? ⟨gb351, 0, none⟩ = some (.slice Ao18 x352000_2.length co18) := (bC BK351.out 0).trans rfl
           have hfs33 := bF BK351.out 0
           have hns33_0 := NB349_351.out
           have hms33_0 := NB351_349.out
           refine skip_ (w1 := ?_) (by rfl) rfl ?_ ?_
           rotate_left
           ·
            go_simp
            rfl
           refine hK.out _ _ ?_
           clear hK K
           refine pure_ (i := 16) (N := some 41) (v := ?_) (a' := ?_) #[true, true, true, true, true, true, true, true, true, true, true, true, true, true, true, true, true, false] rfl rfl (any_of HT_.out (by kernel_rfl)) (fun _ _ _ h => h) (Or.inl ⟨by rfl, ?_⟩) ?_ ?_
           rotate_left
           ·
            intro w'
            go_simp
            with_reducible rfl
           rotate_left
           ·
            simp only [Act.put, sA, sZ, sU, i64_w, i32_w]
            rfl
           refine last_ (i := 17) (N := none) #[true, true, true, true, true, true, true, true, true, true, true, true, true, true, true, true, true, true] rfl rfl (one_of HT_.out (by kernel_rfl)) (by decide) (fun K hK => ?_)
           have hs35 : w30.cell? ⟨gb351, 1, none⟩ = some (.slice Ao19 x352001_2.length co19) := (bC BK351.out 1).trans rfl
           have hfs35 := bF BK351.out 1
           have hns35_0 := NB349_351.out
           have hms35_0 := NB351_349.out
           refine skip_ (w1 := ?_) (by rfl) rfl ?_ ?_
           rotate_left
           ·
            go_simp
            rfl
           refine hK.out _ _ ?_
           clear hK K
           refine done_ (done_of HT_.out (by kernel_rfl)) ?_
           try go_wp2
           go_roundg k2
           case measure => have := HJ2.out; have := HK2.out; omega
           case rel => exact ⟨(wrap64 (x21_2 + 1)), (y359), (y365), (.slice Ao32 y359.length co32), (.slice Ao34 y365.length co34), (by first | rfl | (simp; done) | (simp [*]; done)), H', ⟨by have := HJ2.out; have := HK2.out; omega⟩, ⟨by (with_reducible repeat (first | apply Kd.N_alloc | apply Kd.N_drewN | apply Kd.N_drew)); exact Kd.N_mono (Kd.N_far (p := ⟨gb351, 1, none⟩) (Kd.N_far (p := ⟨gb351, 0, none⟩) (Kd.N_mono HO361.out (fun k_ hk => (⟨hk, hk.1.2.2.2⟩ : _ ∧ k_ ≠ gb351))) (fun _ hk => hk.2) (.slice Ao32 y359.length co32)) (fun _ hk => hk.2) (.slice Ao34 y365.length co34)) (fun _ hk => ⟨hk.1.1.1, ⟨hk.1.2, ⟨hk.1.1.2.2.1, hk.1.1.2.2.2⟩⟩⟩)⟩, ⟨by (with_reducible repeat (first | apply rA | apply rN | apply rD)); exact rM (Kd.R_far (p := ⟨gb351, 1, none⟩) (Kd.R_far (p := ⟨gb351, 0, none⟩) (Kd.R_types HO367.out BK351.out (by decide)) (fun _ hk => hk.2) (.slice Ao32 y359.length co32)) (fun _ hk => hk.2) (.slice Ao34 y365.length co34)) (fun _ hk => hk.1.1)⟩, ⟨by (with_reducible repeat (first | refine bN ?_ _ | refine bD ?_ | refine bA ?_ _)); refine blk_far ?_ NB349_351.out _; (with_reducible repeat (first | refine bN ?_ _ | refine bD ?_ | refine bA ?_ _)); refine blk_far ?_ NB349_351.out _; (with_reducible repeat (first | refine bN ?_ _ | refine bD ?_ | refine bA ?_ _)); exact BK349.out⟩, ⟨by (with_reducible repeat (first | refine bN ?_ _ | refine bD ?_ | refine bA ?_ _)); refine blk_put (cs := #[.slice Ao32 y359.length co32, .slice Ao19 x352001_2.length co19]) ?_ 1 _ rfl; (with_reducible repeat (first | refine bN ?_ _ | refine bD ?_ | refine bA ?_ _)); refine blk_put (cs := #[.slice Ao18 x352000_2.length co18, .slice Ao19 x352001_2.length co19]) ?_ 0 _ rfl; (with_reducible repeat (first | refine bN ?_ _ | refine bD ?_ | refine bA ?_ _)); exact BK351.out⟩, ⟨xG2 HB.out GE349.out GE351.out⟩⟩
          ·
           rw [if_neg c17] at H
           exact absurd H (by simp)
         ·
          rw [if_neg c16] at H
          exact absurd H (by simp)
        ·
         rw [if_neg c14] at H
         exact absurd H (by simp)
       ·
        rw [if_neg c13] at H
        exact absurd H (by simp)
      ·
       rw [if_neg c12] at H
       have c12b0 : decide (x21_2 < (l1.length : Int)) = false := decide_eq_false c12
       clear c12
       simp only [Option.some.injEq, Prod.mk.injEq] at H
       obtain ⟨rfl, rfl, rfl⟩ := H
       have hnb36 := NB351_349.out
       have hnc36 := NB349_351.out
       have hcz37_0 : wr.cell? ⟨gb351, 0, none⟩ = some (u352000) := (bC BK351.out 0).trans rfl
       have hcz37_1 : wr.cell? ⟨gb351, 1, none⟩ = some (u352001) := (bC BK351.out 1).trans rfl
       have hfz37_0 := bF BK351.out 0
       have hfz37_1 := bF BK351.out 1
       obtain ⟨Ao38, co38, eo38⟩ := Kd.N_slice HO_352000.out
       subst eo38
       have hcz39_0 : wr.cell? ⟨gb349, 0, none⟩ = some (.slice none 0 0) := (bC BK349.out 0).trans rfl
       have hcz39_1 : wr.cell? ⟨gb349, 1, none⟩ = some (.slice none 0 0) := (bC BK349.out 1).trans rfl
       have hfz39_0 := bF BK349.out 0
       have hfz39_1 := bF BK349.out 1
       obtain ⟨Ao40, co40, eo40⟩ := Kd.R_slice HO_352001.out
       subst eo40
       go_wp2
       refine bodyPost_ret (results_ct rfl _ _ gb349 43 #[.slice Ao38 x352000_2.length co38, .slice Ao40 x352001_2.length co40] (0, 0) _ rfl (by (with_reducible repeat (first | refine bN ?_ _ | refine bD ?_ | refine bA ?_ _)); refine blk_put (cs := #[.slice Ao38 x352000_2.length co38, .slice none 0 0]) ?_ 1 _ rfl; (with_reducible repeat (first | refine bN ?_ _ | refine bD ?_ | refine bA ?_ _)); refine blk_put (cs := #[.slice none 0 0, .slice none 0 0]) ?_ 0 _ rfl; (with_reducible repeat (first | refine bN ?_ _ | refine bD ?_ | refine bA ?_ _)); exact BK349.out) Try.underlying43 rfl (by kernel_rfl)) rfl ?_
       exact ⟨_, _, by first | rfl | (simp [errW_none, errW_some] <;> rfl) | (simp [*, errW_none, errW_some] <;> rfl), by (with_reducible repeat (first | apply Kd.N_alloc | apply Kd.N_drewN | apply Kd.N_drew)); exact Kd.N_mono (Kd.N_far (p := ⟨gb349, 1, none⟩) (Kd.N_far (p := ⟨gb349, 0, none⟩) (Kd.N_mono HO_352000.out (fun k_ hk => (⟨hk, hk.2.2.1⟩ : _ ∧ k_ ≠ gb349))) (fun _ hk => hk.2) (.slice Ao38 x352000_2.length co38)) (fun _ hk => hk.2) (.slice Ao40 x352001_2.length co40)) (fun _ hk => ⟨hk.1.1, hk.1.2.1⟩), by (with_reducible repeat (first | apply rA | apply rN | apply rD)); exact rM (Kd.R_far (p := ⟨gb349, 1, none⟩) (Kd.R_far (p := ⟨gb349, 0, none⟩) (Kd.R_types HO_352001.out BK349.out (by decide)) (fun _ hk => hk.2) (.slice Ao38 x352000_2.length co38)) (fun _ hk => hk.2) (.slice Ao40 x352001_2.length co40)) (fun _ hk => hk.1), xG2 HB.out GE349.out GE351.out⟩
end Go.Proofs.Ytgidnmpppbkamaa.PFnExactIsWeighted
