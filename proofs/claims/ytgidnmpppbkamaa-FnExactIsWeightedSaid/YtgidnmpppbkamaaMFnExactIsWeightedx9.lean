-- Laid for this claim by a program of the session's own (wip/tool/myprint.py).
import Derived.Test.YtgidnmpppbkamaaMFnExactIsWeightedx0
import Derived.Test.YtgidnmpppbkamaaMFnExactIsWeightedx2
import Derived.Test.YtgidnmpppbkamaaMFnExactIsWeightedx3
import Derived.Test.YtgidnmpppbkamaaMFnExactIsWeightedx6
import Derived.Test.YtgidnmpppbkamaaMFnExactIsWeightedx7
import Derived.Test.YtgidnmpppbkamaaMFnExactIsWeightedx8
namespace Go.Proofs.Ytgidnmpppbkamaa.PFnExactIsWeighted
open Go.RowKit Go.Proofs.YtgidnmpppbkamaaW.PrintWords Go.Proofs.YtgidnmpppbkamaaW.PrintLast Go.Proofs.YtgidnmpppbkamaaW.PrintMore
attribute [local go_sem] max2_int min2_int max_two min_two max_three min_three max_four min_four
set_option linter.unusedVariables false
set_option linter.unusedSimpArgs false
mutual
def spec_l4Find.l0 : Nat → Int → List (List Int) → List Int → Option (List Int × List Int)
 | 0, _, _, _ => none
 | k + 1, x4, x250000, x250001 => if 0 < (x250000.length : Int) then (if x4 ≤ (wrap64 (((rd_L1 x250000 0).length : Int) + 2)) then ((spec_l4Choose.f k (x250000.length : Int) x4 (([] : List Int))).bind fun t266 => (spec_l4Find.l1 k x4 t266 0 x250000 x250001)) else (some ((([] : List Int)), (([] : List Int))))) else (none)
def spec_l4Find.l1 : Nat → Int → List (List Int) → Int → List (List Int) → List Int → Option (List Int × List Int)
 | 0, _, _, _, _, _ => none
 | k + 1, x4, x5, x6, x250000, x250001 => if x6 < (x5.length : Int) then (if 0 ≤ x6 then ((spec_l2Part.f k x250000 x250001 (rd_L1 x5 x6)).bind fun bt270 => ((spec_l4Equations.f k bt270.1).bind fun t277 => ((spec_l4Relation.f k t277 x4).bind fun bt280 => (if bt280.2 = true then ((spec_l4Signs.f k bt280.1 bt270.2).bind fun bt284 => (if bt284.2 = true then (some (rd_L1 x5 x6, bt284.1)) else (spec_l4Find.l1 k x4 x5 (wrap64 (x6 + 1)) x250000 x250001))) else (spec_l4Find.l1 k x4 x5 (wrap64 (x6 + 1)) x250000 x250001))))) else (none)) else (spec_l4Find.l0 k (wrap64 (x4 + 1)) x250000 x250001)
end
def spec_l4Find.f (k : Nat) (l0_0 : List (List Int)) (l0_1 : List Int) : Option (List Int × List Int) := if (l0_0.length : Int) = 0 then (some ((([] : List Int)), (([] : List Int)))) else (spec_l4Find.l0 k 2 l0_0 l0_1)
def spec_l4Find.T10 : Bool × List (List Nat × List Nat) := (true, [([], []), ([], []), ([], []), ([1, 2], [1, 2]), ([3], [3]), ([0, 4], [0, 4]), ([], []), ([6, 5, 5, 0, 1, 2, 3, 4, 5, 6], [5, 6])])
def spec_l4Find.B10 : List Nat := [0, 0, 0, 6, 14, 31, 0, 127]
theorem spec_l4Find.tab10 : rtab .any (opsOf Try.f52 10) = spec_l4Find.T10 := by kernel_rfl
theorem spec_l4Find.bits10 : waitsOk spec_l4Find.T10.2 spec_l4Find.B10 = true := by kernel_rfl
set_option maxHeartbeats 8000000 in
set_option maxRecDepth 100000 in
theorem spec_l4Find.calls (k : Nat) (A0_0 : Option Addr) (c0_0 : Nat) (l0_0 : List (List Int)) (A0_1 : Option Addr) (c0_1 : Nat) (l0_1 : List Int) (r1 : List Int) (r2 : List Int) (w : World) (hr0_0 : Kd.C (Kd.slice 3 (Kd.int .i64)) w A0_0 l0_0.length l0_0) (hc0_0 : l0_0.length ≤ c0_0) (hr0_1 : Kd.C (Kd.int .i64) w A0_1 l0_1.length l0_1) (hc0_1 : l0_1.length ≤ c0_1) (h : spec_l4Find.f k l0_0 l0_1 = some (r1, r2)) :
  Calls Try.prog 52 #[.agg #[.slice A0_0 l0_0.length c0_0, .slice A0_1 l0_1.length c0_1]] w fun e w' => ∃ v0_ v1_ : Value, e = .returned (.tuple #[v0_, v1_]) ∧ Kd.V (Kd.int .i64) 3 w' w.heap.size (fun k_ => (w.heap.size ≤ k_) ∧ some k_ ≠ (v1_ : Value).ownBlock) v0_ r1 ∧ Kd.R (Kd.int .i64) 3 w' w.heap.size (fun k_ => (w.heap.size ≤ k_)) v1_ r2 ∧ Below w.heap.size w w' := by
 have hu43 := Try.underlying43
 have HR0_0 := aM hr0_0
 have HC0_0 := aM hc0_0
 clear hr0_0 hc0_0
 have HR0_1 := aM hr0_1
 have HC0_1 := aM hc0_1
 clear hr0_1 hc0_1
 have HB := aM (Below.refl w.heap.size w)
 have H : (if (l0_0.length : Int) = 0 then (some ((([] : List Int)), (([] : List Int)))) else (spec_l4Find.l0 k 2 l0_0 l0_1)) = some (r1, r2) := h
 clear h
 by_cases c2 : (l0_0.length : Int) = 0
 ·
  rw [if_pos c2] at H
  have c2b0 : ((l0_0.length : Int) == 0) = true := beq_iff_eq.mpr c2
  have c2b1 : ((l0_0.length : Int) != 0) = false := bne_eq_false_iff_eq.mpr c2
  clear c2
  obtain ⟨y250, hy250⟩ : ∃ y_ : List Int, y_ = (([] : List Int)) := ⟨_, rfl⟩
  replace H : (some (y250, (([] : List Int)))) = some (r1, r2) := by first | (rw [hy250]; with_reducible exact H) | (have H2_ := (Option.bind_some _ _).symm.trans H; rw [hy250]; with_reducible exact H2_) | (have H2_ := (Option.bind_some _ _).symm.trans H; with_reducible exact H2_) | with_reducible exact H | (rw [hy250]; exact H) | exact H
  have Ny250 := aM hy250
  clear hy250
  obtain ⟨y253, hy253⟩ : ∃ y_ : List Int, y_ = (([] : List Int)) := ⟨_, rfl⟩
  replace H : (some (y250, y253)) = some (r1, r2) := by first | (rw [hy253]; with_reducible exact H) | (have H2_ := (Option.bind_some _ _).symm.trans H; rw [hy253]; with_reducible exact H2_) | (have H2_ := (Option.bind_some _ _).symm.trans H; with_reducible exact H2_) | with_reducible exact H | (rw [hy253]; exact H) | exact H
  have Ny253 := aM hy253
  clear hy253
  simp only [Option.some.injEq, Prod.mk.injEq] at H
  obtain ⟨rfl, rfl⟩ := H
  go_enter Try.func52, Try.ntmps52
  go_wp2_with (first | ((with_reducible refine gate_dst (N := 1) rfl ?_); refine box_event ?hg (N := 1) ?hd (cs := #[.slice A0_0 l0_0.length c0_0, .slice A0_1 l0_1.length c0_1]) (t := 43) ?hr ?_; (case hd => rfl); (case hg => rfl); (case hr => first | (go_simp; done) | (go_simp; rfl)); intro gb249 hg w3 hbox hb; have BK249 := aM (hbox); have GW249 := aM ((by rw [hg]; exact (below_size (xH HB.out)) : w.heap.size ≤ gb249)); have GE249 := aM ((by rw [hg]; exact (below_size (xH HB.out)) : w.heap.size ≤ gb249)); replace HB := aM (below_step (xH HB.out) hb); clear hb hbox hg; have hcz4_0 : w3.cell? ⟨gb249, 0, none⟩ = some (.slice A0_0 l0_0.length c0_0) := (bC BK249.out 0).trans rfl; have hcz4_1 : w3.cell? ⟨gb249, 1, none⟩ = some (.slice A0_1 l0_1.length c0_1) := (bC BK249.out 1).trans rfl; have hfz4_0 := bF BK249.out 0; have hfz4_1 := bF BK249.out 1) | ((with_reducible refine gate_dst (N := 16) rfl ?_); refine Kd.R_lit (Kd.int .i64) _ 3 ?hg (N := 16) ?hd (xs := ([] : List Int)) (inner := []) (ok := fun _ => True) (okp := fun _ => True) ?hr ?hp (fun _ hk => hk) trivial (Below.refl _ _) (Nat.le_refl _) (by simp) ?_; (case hd => rfl); (case hg => rfl); (case hr => first | (go_simp; done) | (go_simp; rfl)); (case hp => exact (Reps.none _ _)); intro v251 w5 ho6 hb hg_ hnew_; clear hg_ hnew_; (first | rw [← Ny250.out] at ho6 | (simp only [Int.reduceToNat] at ho6; rw [← Ny250.out] at ho6)); have HO252 := aM (Kd.R_lower (Kd.R_newM (M := fun k_ => (w.heap.size ≤ k_)) ho6 (below_size (xG1 HB.out GE249.out)) (fun k_ h_ => h_)) (below_size (xG1 HB.out GE249.out))); replace BK249 := aM (bB (g := gb249) (o := .cells #[.slice A0_0 l0_0.length c0_0, .slice A0_1 l0_1.length c0_1] 43 (0, 0)) (xB BK249.out) hb); replace HB := aM (below_step (xG1 HB.out GE249.out) hb); clear hb ho6) | ((with_reducible refine gate_dst (N := 17) rfl ?_); refine Kd.R_lit (Kd.int .i64) _ 3 ?hg (N := 17) ?hd (xs := ([] : List Int)) (inner := []) (ok := fun _ => True) (okp := fun _ => True) ?hr ?hp (fun _ hk => hk) trivial (Below.refl _ _) (Nat.le_refl _) (by simp) ?_; (case hd => rfl); (case hg => rfl); (case hr => first | (go_simp; done) | (go_simp; rfl)); (case hp => exact (Reps.none _ _)); intro v254 w7 ho8 hb hg_ hnew_; clear hg_ hnew_; (first | rw [← Ny253.out] at ho8 | (simp only [Int.reduceToNat] at ho8; rw [← Ny253.out] at ho8)); have HO255 := aM (Kd.R_lower (Kd.R_new' (Kd.R_newM (M := fun k_ => (w.heap.size ≤ k_)) ho8 (below_size (xG1 HB.out GE249.out)) (fun k_ h_ => h_)) (Kd.R_lt (xR HO252.out))) (below_size (xG1 HB.out GE249.out))); replace HO252 := aM (Kd.R_elder' (xR HO252.out) (Kd.R_base ho8) hb); replace BK249 := aM (bB (g := gb249) (o := .cells #[.slice A0_0 l0_0.length c0_0, .slice A0_1 l0_1.length c0_1] 43 (0, 0)) (xB BK249.out) hb); replace HB := aM (below_step (xG1 HB.out GE249.out) hb); clear hb ho8))
  go_ret2
  exact ⟨_, _, by first | rfl | (simp [errW_none, errW_some] <;> rfl) | (simp [*, errW_none, errW_some] <;> rfl), Kd.R_V (by (with_reducible repeat (first | apply rA | apply rN | apply rD)); exact rM HO252.out (fun _ hk => ⟨hk.1.1, hk.2⟩)), by (with_reducible repeat (first | apply rA | apply rN | apply rD)); exact rM HO255.out (fun _ hk => hk.1.1), xG1 HB.out GE249.out⟩
 ·
  rw [if_neg c2] at H
  have c2b0 : ((l0_0.length : Int) == 0) = false := beq_eq_false_iff_ne.mpr c2
  have c2b1 : ((l0_0.length : Int) != 0) = true := bne_iff_ne.mpr c2
  have c2b2 : ¬ (l0_0 = []) := fun h_ => c2 (by rw [h_]; rfl)
  have H' := aM H
  clear H
  go_enter Try.func52, Try.ntmps52
  go_wp2_with (first | ((with_reducible refine gate_dst (N := 1) rfl ?_); refine box_event ?hg (N := 1) ?hd (cs := #[.slice A0_0 l0_0.length c0_0, .slice A0_1 l0_1.length c0_1]) (t := 43) ?hr ?_; (case hd => rfl); (case hg => rfl); (case hr => first | (go_simp; done) | (go_simp; rfl)); intro gb249 hg w9 hbox hb; have BK249 := aM (hbox); have GW249 := aM ((by rw [hg]; exact (below_size (xH HB.out)) : w.heap.size ≤ gb249)); have GE249 := aM ((by rw [hg]; exact (below_size (xH HB.out)) : w.heap.size ≤ gb249)); replace HB := aM (below_step (xH HB.out) hb); clear hb hbox hg; have hcz10_0 : w9.cell? ⟨gb249, 0, none⟩ = some (.slice A0_0 l0_0.length c0_0) := (bC BK249.out 0).trans rfl; have hcz10_1 : w9.cell? ⟨gb249, 1, none⟩ = some (.slice A0_1 l0_1.length c0_1) := (bC BK249.out 1).trans rfl; have hfz10_0 := bF BK249.out 0; have hfz10_1 := bF BK249.out 1))
  go_loopg [4] k (fun kq v4 w' => ∃ (x4_1 : Int), v4 = .int .i64 x4_1 ∧ Aside0 (spec_l4Find.l0 kq x4_1 l0_0 l0_1 = some (r1, r2)) ∧ Aside0 (kq ≤ k) ∧ Aside0 (w'.heap[gb249]? = some (.cells #[(.slice A0_0 l0_0.length c0_0), (.slice A0_1 l0_1.length c0_1)] 43 (0, 0))) ∧ Aside0 (Below w.heap.size w w'))
  case atStart => exact ⟨(2), (by first | rfl | (simp; done) | (simp [*]; done)), H', ⟨Nat.le_refl _⟩, ⟨xB BK249.out⟩, ⟨xG1 HB.out GE249.out⟩⟩
  case round =>
   clear H'
   try clear c2; try clear c2b0; try clear c2b1; try clear c2b2; try clear hcz10_0; try clear hcz10_1; try clear hcz4_0; try clear hcz4_1; try clear hfz10_0; try clear hfz10_1; try clear hfz4_0; try clear hfz4_1
   obtain ⟨x4_1, rfl, HA, HK1, BK249, HB⟩ := hrel
   cases gk with
   | zero => exact absurd HA.out (by simp [spec_l4Find.l0])
   | succ k1 =>
    have H := HA.out
    clear HA
    simp only [spec_l4Find.l0] at H
    by_cases c11 : 0 < (l0_0.length : Int)
    ·
     rw [if_pos c11] at H
     have c11b0 : decide (0 < (l0_0.length : Int)) = true := decide_eq_true c11
     have c11b1 : decide (0 < l0_0.length) = true := decide_eq_true (by omega)
     clear c11
     by_cases c12 : x4_1 ≤ (wrap64 (((rd_L1 l0_0 0).length : Int) + 2))
     ·
      rw [if_pos c12] at H
      have c12b0 : decide (x4_1 ≤ (wrap64 (((rd_L1 l0_0 0).length : Int) + 2))) = true := decide_eq_true c12
      clear c12
      obtain ⟨y263, hy263⟩ : ∃ y_ : List Int, y_ = (([] : List Int)) := ⟨_, rfl⟩
      replace H : ((spec_l4Choose.f k1 (l0_0.length : Int) x4_1 y263).bind fun t266 => (spec_l4Find.l1 k1 x4_1 t266 0 l0_0 l0_1)) = some (r1, r2) := by first | (rw [hy263]; with_reducible exact H) | (have H2_ := (Option.bind_some _ _).symm.trans H; rw [hy263]; with_reducible exact H2_) | (have H2_ := (Option.bind_some _ _).symm.trans H; with_reducible exact H2_) | with_reducible exact H | (rw [hy263]; exact H) | exact H
      have Ny263 := aM hy263
      clear hy263
      replace H := oB.mp H
      obtain ⟨t266, A130, H⟩ := H
      replace H : (spec_l4Find.l1 k1 x4_1 t266 0 l0_0 l0_1) = some (r1, r2) := H
      have A13 := aM A130
      clear A130
      have H' := aM H
      clear H
      have hcz14_0 : wr.cell? ⟨gb249, 0, none⟩ = some (.slice A0_0 l0_0.length c0_0) := (bC BK249.out 0).trans rfl
      have hcz14_1 : wr.cell? ⟨gb249, 1, none⟩ = some (.slice A0_1 l0_1.length c0_1) := (bC BK249.out 1).trans rfl
      have hfz14_0 := bF BK249.out 0
      have hfz14_1 := bF BK249.out 1
      have p256 : 0 ≤ (0 : Int) := (by omega)
      have q256 : 0 < (l0_0.length : Int) := of_decide_eq_true (by first | (with_reducible assumption) | assumption)
      obtain ⟨ad256, A256_0, c256_0, e256, hx256_0, hl256_0, hi256_0⟩ := at_L1 HR0_0.out 0 p256 q256
      cases e256
      have qi256 : (0 < l0_0.length) = True := eq_true (by omega)
      (try rw [show ((0 : Int)).toNat = 0 from rfl] at hx256_0)
      (try rw [Addr.add_zero'] at hx256_0)
      replace hx256_0 := (HB.out.cell (World.block_lt_of_cell? w _ hx256_0)).trans hx256_0
      have HR256_0 := aM hi256_0
      have HC256_0 := aM hl256_0
      clear hi256_0 hl256_0
      replace p256 := eq_true p256
      replace q256 := eq_true q256
      go_wp2_with (first | ((with_reducible refine gate_dst (N := 32) rfl ?_); refine Kd.R_lit (Kd.int .i64) _ 3 ?hg (N := 32) ?hd (xs := ([] : List Int)) (inner := []) (ok := fun _ => True) (okp := fun _ => True) ?hr ?hp (fun _ hk => hk) trivial (Below.refl _ _) (Nat.le_refl _) (by simp) ?_; (case hd => rfl); (case hg => rfl); (case hr => first | (go_simp; done) | (go_simp; rfl)); (case hp => exact (Reps.none _ _)); intro v264 w15 ho16 hb hg_ hnew_; clear hg_ hnew_; (first | rw [← Ny263.out] at ho16 | (simp only [Int.reduceToNat] at ho16; rw [← Ny263.out] at ho16)); have HO265 := aM (Kd.R_lower (Kd.R_newM (M := fun k_ => (w.heap.size ≤ k_)) ho16 (below_size (xG1 HB.out GE249.out)) (fun k_ h_ => h_)) (below_size (xG1 HB.out GE249.out))); replace BK249 := aM (bB (g := gb249) (o := .cells #[.slice (some ad256) l0_0.length c0_0, .slice A0_1 l0_1.length c0_1] 43 (0, 0)) (xB BK249.out) hb); replace HB := aM (below_step (xG1 HB.out GE249.out) hb); clear hb ho16; obtain ⟨Ao17, co17, eo17⟩ := Kd.R_slice HO265.out; subst eo17) | ((with_reducible refine gate_callee (f := 71) rfl ?_); refine goesL_ (some 33) rfl rfl Try.func71 (by kernel_rfl) rfl #[.int .i64 (l0_0.length : Int), .int .i64 x4_1, .slice Ao17 y263.length co17] rfl xL ?_; (with_reducible refine (spec_l4Choose.calls k1 (l0_0.length : Int) x4_1 (fun k_ => some k_ = (.slice Ao17 y263.length co17 : Value).ownBlock) _ _ y263 t266 _ ?side1 A13.out).mono ?_); (case side1 => exact Kd.R_V (Kd.R_tight rfl (Kd.R_types (HO265.out) BK249.out (by decide)))); rintro e w18 ⟨v267, rfl, ho0, hb⟩; refine ⟨_, rfl, ?_⟩; have HO268 := aM (Kd.N_lower (Kd.N_mono (ok' := fun k_ => (w.heap.size ≤ k_) ∧ k_ ≠ gb249) ho0 (fun k_ hk_ => ⟨Or.elim hk_ (fun hs_ => ((Kd.R_types (HO265.out) BK249.out (by decide)).1 k_ hs_.symm).1.1) (fun hn_ => (Nat.le_trans (below_size (xG1 HB.out GE249.out)) hn_)), Or.elim hk_ (fun hs_ => ((Kd.R_types (HO265.out) BK249.out (by decide)).1 k_ hs_.symm).2) (fun hn_ => (Kd.freshB (g := gb249) (o := .cells #[.slice (some ad256) l0_0.length c0_0, .slice A0_1 l0_1.length c0_1] 43 (0, 0)) (xB BK249.out) k_ hn_))⟩)) (below_size (xG1 HB.out GE249.out))); replace HO265 := aM (Kd.R_below (xR HO265.out) hb); replace BK249 := aM (bB (g := gb249) (o := .cells #[.slice (some ad256) l0_0.length c0_0, .slice A0_1 l0_1.length c0_1] 43 (0, 0)) (xB BK249.out) hb); replace HB := aM (below_step (xG1 HB.out GE249.out) hb); (try clear hb; try clear hb2; try clear hk; try clear hi; try clear ho0)))
      go_loopg [6] k1 (fun kq v6 w' => ∃ (x6_2 : Int), v6 = .int .i64 x6_2 ∧ Aside0 (spec_l4Find.l1 kq x4_1 t266 x6_2 l0_0 l0_1 = some (r1, r2)) ∧ Aside0 (kq ≤ k1) ∧ Aside0 (Kd.N (Kd.slice 3 (Kd.int .i64)) 22 w' w.heap.size (fun k_ => (w.heap.size ≤ k_) ∧ k_ ≠ gb249) v267 t266) ∧ Aside0 (w'.heap[gb249]? = some (.cells #[(.slice (some ad256) l0_0.length c0_0), (.slice A0_1 l0_1.length c0_1)] 43 (0, 0))) ∧ Aside0 (Below w.heap.size w w'))
      case atStart => exact ⟨(0), (by first | rfl | (simp; done) | (simp [*]; done)), H', ⟨Nat.le_refl _⟩, ⟨by (with_reducible repeat (first | apply Kd.N_alloc | apply Kd.N_drewN | apply Kd.N_drew)); exact HO268.out⟩, ⟨xB BK249.out⟩, ⟨xG1 HB.out GE249.out⟩⟩
      case round =>
       clear H'
       try clear c11; try clear c11b0; try clear c11b1; try clear c12; try clear c12b0; try clear hcz14_0; try clear hcz14_1; try clear hfz14_0; try clear hfz14_1; try clear hx256_0; try clear p256; try clear q256
       obtain ⟨x6_2, rfl, HA, HK2, HO_5, BK249, HB⟩ := hrel
       cases gk with
       | zero => exact absurd HA.out (by simp [spec_l4Find.l1])
       | succ k2 =>
        have H := HA.out
        clear HA
        simp only [spec_l4Find.l1] at H
        by_cases c19 : x6_2 < (t266.length : Int)
        ·
         rw [if_pos c19] at H
         have c19b0 : decide (x6_2 < (t266.length : Int)) = true := decide_eq_true c19
         clear c19
         by_cases c20 : 0 ≤ x6_2
         ·
          rw [if_pos c20] at H
          have c20b0 : decide (0 ≤ x6_2) = true := decide_eq_true c20
          clear c20
          replace H := oB.mp H
          obtain ⟨⟨t270, t273⟩, A210, H⟩ := H
          replace H : ((spec_l4Equations.f k2 t270).bind fun t277 => ((spec_l4Relation.f k2 t277 x4_1).bind fun bt280 => (if bt280.2 = true then ((spec_l4Signs.f k2 bt280.1 t273).bind fun bt284 => (if bt284.2 = true then (some (rd_L1 t266 x6_2, bt284.1)) else (spec_l4Find.l1 k2 x4_1 t266 (wrap64 (x6_2 + 1)) l0_0 l0_1))) else (spec_l4Find.l1 k2 x4_1 t266 (wrap64 (x6_2 + 1)) l0_0 l0_1)))) = some (r1, r2) := H
          have A21 := aM A210
          clear A210
          replace H := oB.mp H
          obtain ⟨t277, A220, H⟩ := H
          replace H : ((spec_l4Relation.f k2 t277 x4_1).bind fun bt280 => (if bt280.2 = true then ((spec_l4Signs.f k2 bt280.1 t273).bind fun bt284 => (if bt284.2 = true then (some (rd_L1 t266 x6_2, bt284.1)) else (spec_l4Find.l1 k2 x4_1 t266 (wrap64 (x6_2 + 1)) l0_0 l0_1))) else (spec_l4Find.l1 k2 x4_1 t266 (wrap64 (x6_2 + 1)) l0_0 l0_1))) = some (r1, r2) := H
          have A22 := aM A220
          clear A220
          replace H := oB.mp H
          obtain ⟨⟨t280, t281⟩, A230, H⟩ := H
          replace H : (if t281 = true then ((spec_l4Signs.f k2 t280 t273).bind fun bt284 => (if bt284.2 = true then (some (rd_L1 t266 x6_2, bt284.1)) else (spec_l4Find.l1 k2 x4_1 t266 (wrap64 (x6_2 + 1)) l0_0 l0_1))) else (spec_l4Find.l1 k2 x4_1 t266 (wrap64 (x6_2 + 1)) l0_0 l0_1)) = some (r1, r2) := H
          have A23 := aM A230
          clear A230
          by_cases c24 : t281 = true
          ·
           subst c24
           have H1 : ((spec_l4Signs.f k2 t280 t273).bind fun bt284 => (if bt284.2 = true then (some (rd_L1 t266 x6_2, bt284.1)) else (spec_l4Find.l1 k2 x4_1 t266 (wrap64 (x6_2 + 1)) l0_0 l0_1))) = some (r1, r2) := by rw [if_pos rfl] at H; exact H
           clear H
           have H := H1
           clear H1
           replace H := oB.mp H
           obtain ⟨⟨t284, t285⟩, A250, H⟩ := H
           replace H : (if t285 = true then (some (rd_L1 t266 x6_2, t284)) else (spec_l4Find.l1 k2 x4_1 t266 (wrap64 (x6_2 + 1)) l0_0 l0_1)) = some (r1, r2) := H
           have A25 := aM A250
           clear A250
           by_cases c26 : t285 = true
           ·
            subst c26
            have H1 : (some (rd_L1 t266 x6_2, t284)) = some (r1, r2) := by rw [if_pos rfl] at H; exact H
            clear H
            have H := H1
            clear H1
            simp only [Option.some.injEq, Prod.mk.injEq] at H
            obtain ⟨rfl, rfl⟩ := H
            obtain ⟨Ao27, co27, eo27⟩ := Kd.N_slice HO_5.out
            subst eo27
            try go_wp2
            have n0_ := aM (Kd.N_drew HO_5.out)
            have n1_ := aM (bD BK249.out)
            have n2_ := aM (eD HB.out)
            clear HO_5 BK249 HB
            have HO_5 := n0_
            have BK249 := n1_
            have HB := n2_
            clear n0_ n1_ n2_
            have p269 : 0 ≤ (x6_2 : Int) := of_decide_eq_true (by first | (with_reducible assumption) | assumption)
            have q269 : x6_2 < (t266.length : Int) := of_decide_eq_true (by first | (with_reducible assumption) | assumption)
            obtain ⟨ad269, A269_0, c269_0, e269, hx269_0, hl269_0, hi269_0⟩ := at_L1 (Kd.N_reads' HO_5.out).2.2 x6_2 p269 q269
            cases e269
            obtain ⟨ce269, hce269, hMe269, hcc269⟩ := Kd.N_get HO_5.out [] x6_2 p269 (by first | exact q269 | exact of_decide_eq_true (by first | (with_reducible assumption) | assumption) | (have e_ := (Kd.N_reads' HO_5.out).1; omega))
            obtain ⟨ua269_0, uc269_0, rfl, ul269_0, ge269_0⟩ := Kd.FK_slice_open hMe269
            have hv269_0 := hcc269 0 _ rfl
            rw [Nat.add_zero, show ((Kd.slice 3 (Kd.int .i64))).sz = 1 from rfl, Nat.mul_one] at hv269_0
            replace hv269_0 := Option.some.inj (hv269_0.symm.trans hx269_0)
            injection hv269_0 with hva_ hvn_ hvc_
            rw [hva_] at ge269_0
            rw [hvc_] at ul269_0
            have HL269_0 := aM (show Kd.V (Kd.int .i64) 3 _ w.heap.size _ _ (rd_L1 t266 x6_2) from Kd.V_mk ul269_0 ge269_0)
            clear hva_ hvn_ hvc_ ge269_0 ul269_0 hcc269 hce269
            have HR269_0 := aM hi269_0
            have HC269_0 := aM hl269_0
            clear hi269_0 hl269_0
            replace p269 := eq_true p269
            replace q269 := eq_true q269
            refine start_ (n := 8) (S := fun w' => w'.cell? ⟨gb249, 0, none⟩ = some (.slice (some ad256) l0_0.length c0_0) ∧ w'.cell? ⟨gb249, 1, none⟩ = some (.slice A0_1 l0_1.length c0_1) ∧ w'.cell? (ad269.add (x6_2).toNat) = some (.slice A269_0 (rd_L1 t266 x6_2).length c269_0)) (ds := []) #[false, false, false, false, false, false, false, false] (by kernel_rfl) rfl rfl ⟨(bC BK249.out 0).trans rfl, (bC BK249.out 1).trans rfl, hx269_0⟩ (fun hHeld => ?_); refine with_tabW spec_l4Find.tab10 spec_l4Find.bits10 (fun HT_ HW_ => ?_)
            generalize wr.drew = w28 at HO_5 BK249 HB HL269_0 HR269_0 hx269_0 hHeld ⊢
            refine pure_ (i := 1) (N := some 41) (v := ?_) (a' := ?_) #[false, true, false, false, false, false, false, false] rfl rfl (any_of HT_.out (by kernel_rfl)) (fun _ _ _ h => h) (Or.inl ⟨by rfl, ?_⟩) ?_ ?_
            rotate_left
            ·
             intro w'
             go_simp
             with_reducible rfl
            rotate_left
            ·
             simp only [Act.put, sA, sZ, sU, i64_w, i32_w]
             rfl
            refine pure_ (i := 2) (N := some 42) (v := ?_) (a' := ?_) #[false, true, true, false, false, false, false, false] rfl rfl (any_of HT_.out (by kernel_rfl)) (fun _ _ _ h => h) (Or.inl ⟨by rfl, ?_⟩) ?_ ?_
            rotate_left
            ·
             intro w'
             go_simp
             with_reducible rfl
            rotate_left
            ·
             simp only [Act.put, sA, sZ, sU, i64_w, i32_w]
             rfl
            refine pure_ (i := 3) (N := some 43) (v := ?_) (a' := ?_) #[false, true, true, true, false, false, false, false] rfl rfl (any_of HT_.out (by kernel_rfl)) (fun _ _ _ h => h) (Or.inl ⟨by rfl, ?_⟩) ?_ ?_
            rotate_left
            ·
             intro w'
             go_simp
             with_reducible rfl
            rotate_left
            ·
             simp only [Act.put, sA, sZ, sU, i64_w, i32_w]
             rfl
            refine take_ (i := 0) (N := some 40) (v := ?_) (a' := ?_) #[true, true, true, true, false, false, false, false] rfl rfl (take_ofW HT_.out HW_.out (by kernel_rfl)) (fun _ _ _ h => h) (Or.inl ⟨by rfl, ?_⟩) hHeld ?_ ?_
            rotate_left
            ·
             rintro w' ⟨s0, s1, s2⟩
             first | (go_simp; with_reducible rfl) | (simp only [add_plain] at s0 s1 s2; go_simp; with_reducible rfl)
            rotate_left
            ·
             simp only [Act.put, sA, sZ, sU, i64_w, i32_w]
             rfl
            refine take_ (i := 4) (N := some 44) (v := ?_) (a' := ?_) #[true, true, true, true, true, false, false, false] rfl rfl (take_ofW HT_.out HW_.out (by kernel_rfl)) (fun _ _ _ h => h) (Or.inl ⟨by rfl, ?_⟩) hHeld ?_ ?_
            rotate_left
            ·
             rintro w' ⟨s0, s1, s2⟩
             first | (go_simp; with_reducible rfl) | (simp only [add_plain] at s0 s1 s2; go_simp; with_reducible rfl)
            rotate_left
            ·
             simp only [Act.put, sA, sZ, sU, i64_w, i32_w]
             rfl
            refine join_ (σ := Value × Value × Nat) 1 #[true, true, true, true, true, true, true, false] (fun s_ => [(45, .agg #[s_.1, s_.2.1]), (7, .pointer (some ⟨s_.2.2, 0, none⟩))]) (fun s_ w' => (w'.cell? ⟨gb249, 0, none⟩ = some (.slice (some ad256) l0_0.length c0_0) ∧ w'.cell? ⟨gb249, 1, none⟩ = some (.slice A0_1 l0_1.length c0_1) ∧ w'.cell? (ad269.add (x6_2).toNat) = some (.slice A269_0 (rd_L1 t266 x6_2).length c269_0)) ∧ (Kd.V (Kd.int .i64) 3 w' w.heap.size (fun k_ => (w.heap.size ≤ k_) ∧ some k_ ≠ (s_.1 : Value).ownBlock ∧ some k_ ≠ (s_.2.1 : Value).ownBlock ∧ some k_ ≠ (.slice (some ad269) t266.length co27 : Value).ownBlock ∧ k_ ≠ gb249 ∧ k_ ≠ s_.2.2) (.slice A269_0 (rd_L1 t266 x6_2).length c269_0) (rd_L1 t266 x6_2)) ∧ (Kd.N (Kd.slice 3 (Kd.int .i64)) 22 w' w.heap.size (fun k_ => (w.heap.size ≤ k_) ∧ some k_ ≠ (s_.2.1 : Value).ownBlock ∧ some k_ ≠ (.slice (some ad269) t266.length co27 : Value).ownBlock ∧ k_ ≠ gb249 ∧ k_ ≠ s_.2.2) s_.1 t270) ∧ (Kd.R (Kd.int .i64) 3 w' w.heap.size (fun k_ => (w.heap.size ≤ k_)) s_.2.1 t273) ∧ (Kd.N (Kd.slice 3 (Kd.int .i64)) 22 w' w.heap.size (fun k_ => (w.heap.size ≤ k_) ∧ some k_ ≠ (s_.1 : Value).ownBlock ∧ some k_ ≠ (s_.2.1 : Value).ownBlock ∧ k_ ≠ gb249 ∧ k_ ≠ s_.2.2) (.slice (some ad269) t266.length co27) t266) ∧ (w'.heap[gb249]? = some (.cells #[.slice (some ad256) l0_0.length c0_0, .slice A0_1 l0_1.length c0_1] 43 (0, 0))) ∧ (w'.heap[s_.2.2]? = some (.cells #[.slice none 0 0, .slice none 0 0] 43 (0, 0))) ∧ (w.heap.size ≤ s_.2.2) ∧ (w.heap.size ≤ s_.2.2) ∧ (gb249 ≠ s_.2.2) ∧ (s_.2.2 ≠ gb249) ∧ (Below w.heap.size w w')) ?_ ?_
            rotate_left
            ·
             intro hCont
             refine two_ (i := 5) (j := 6) (Ni := some 45) (Nj := some 7) #[true, true, true, true, true, true, false, false] #[true, true, true, true, true, false, true, false] rfl rfl rfl rfl (two_of HT_.out (by kernel_rfl)) (by decide) (by decide) (fun K hK => ?_) (fun K hK => ?_)
             ·
              skip
              refine goes_ Try.func72 (by kernel_rfl) rfl #[.agg #[.slice (some ad256) l0_0.length c0_0, .slice A0_1 l0_1.length c0_1], .slice A269_0 (rd_L1 t266 x6_2).length c269_0] (by rfl) rfl rfl xL ?_
              with_reducible refine (spec_l2Part.calls k2 _ _ l0_0 _ _ l0_1 _ _ (rd_L1 t266 x6_2) t270 t273 _ ?side1 ?side2 ?side3 ?side4 ?side5 ?side6 A21.out).mono ?_
              (case side1 => repeat (first | exact (Kd.C_below HR0_0.out HB.out) | (with_reducible refine Kd.C_alloc ?_ _) | (with_reducible refine Kd.C_drewN ?_ _) | (with_reducible refine Kd.C_drew ?_)))
              (case side2 => exact HC0_0.out)
              (case side3 => repeat (first | exact (Kd.C_below HR0_1.out HB.out) | (with_reducible refine Kd.C_alloc ?_ _) | (with_reducible refine Kd.C_drewN ?_ _) | (with_reducible refine Kd.C_drew ?_)))
              (case side4 => exact HC0_1.out)
              (case side5 => repeat (first | exact (by repeat (first | (with_reducible exact HR269_0.out) | (with_reducible refine Kd.C_alloc ?_ _) | (with_reducible refine Kd.C_drewN ?_ _) | (with_reducible refine Kd.C_drew ?_) | exact HR269_0.out)) | (with_reducible refine Kd.C_alloc ?_ _) | (with_reducible refine Kd.C_drewN ?_ _) | (with_reducible refine Kd.C_drew ?_)))
              (case side6 => exact HC269_0.out)
              rintro e w29 ⟨v271, v274, rfl, ho0, ho1, hb⟩
              have HS2_ := (hb.cell (World.block_lt_of_cell? _ _ (hHeld.2.2))).trans (hHeld.2.2)
              refine ⟨_, rfl, ?_⟩
              have n0_ := aM (Kd.N_mono (Kd.N_told (Kd.N_told (Kd.N_old (by (with_reducible repeat (first | apply Kd.N_alloc | apply Kd.N_drewN | apply Kd.N_drew)); exact HO_5.out) hb) (by first | exact Kd.N_base ho0 | exact Kd.S_base ho0 | exact Kd.R_base ho0)) (Kd.R_base ho1)) (fun _ h_ => h_.1))
              have n1_ := aM (Kd.V_mono (Kd.V_told (Kd.V_told (Kd.V_old (xV HL269_0.out) hb) (by first | exact Kd.N_base ho0 | exact Kd.S_base ho0 | exact Kd.R_base ho0)) (Kd.R_base ho1)) (fun _ h_ => h_.1))
              have n2_ := aM (Kd.N_lower (Kd.N_mono (ok' := fun k_ => (w.heap.size ≤ k_) ∧ some k_ ≠ (v274 : Value).ownBlock ∧ some k_ ≠ (.slice (some ad269) t266.length co27 : Value).ownBlock ∧ k_ ≠ gb249) (Kd.S_N (Kd.S_bound ho0)) (fun k_ hk_ => ⟨(Nat.le_trans (below_size (xG1 HB.out GE249.out)) hk_.2.1), hk_.1, (Kd.fresh' (Kd.N_lt (by (with_reducible repeat (first | apply Kd.N_alloc | apply Kd.N_drewN | apply Kd.N_drew)); exact HO_5.out)) k_ hk_.2.1), (Kd.freshB (g := gb249) (o := .cells #[.slice (some ad256) l0_0.length c0_0, .slice A0_1 l0_1.length c0_1] 43 (0, 0)) (xB BK249.out) k_ hk_.2.1)⟩)) (below_size (xG1 HB.out GE249.out)))
              have n3_ := aM (Kd.R_lower (Kd.R_newM (M := fun k_ => (w.heap.size ≤ k_)) ho1 (below_size (xG1 HB.out GE249.out)) (fun k_ h_ => h_)) (below_size (xG1 HB.out GE249.out)))
              have n4_ := aM (bB (g := gb249) (o := .cells #[.slice (some ad256) l0_0.length c0_0, .slice A0_1 l0_1.length c0_1] 43 (0, 0)) (xB BK249.out) hb)
              have n5_ := aM (Kd.C_below (by repeat (first | (with_reducible exact HR269_0.out) | (with_reducible refine Kd.C_alloc ?_ _) | (with_reducible refine Kd.C_drewN ?_ _) | (with_reducible refine Kd.C_drew ?_) | exact HR269_0.out)) hb)
              have n6_ := aM (below_step (xG1 HB.out GE249.out) hb)
              clear HO_5 HL269_0 BK249 HR269_0 HB
              have HO_5 := n0_
              have HL269_0 := n1_
              have HO272 := n2_
              have HO275 := n3_
              have BK249 := n4_
              have HR269_0 := n5_
              have HB := n6_
              clear n0_ n1_ n2_ n3_ n4_ n5_ n6_
              (try clear hb)
              (try clear hb2)
              (try clear hk)
              (try clear hi)
              (try clear ho0)
              (try clear ho1)
              refine hK.out _ _ ⟨(bC BK249.out 0).trans rfl, (bC BK249.out 1).trans rfl, HS2_⟩ (fun hHeld => ?_)
              clear hK K
              refine norm_ (a' := ?_) ?_ ?_
              rotate_left
              ·
               show Act.put _ (some 45) _ = _
               simp only [Act.put, sA, sZ, sU, i64_w, i32_w]
               rfl
              refine one_ (i := 6) (N := some 7) #[true, true, true, true, true, true, true, false] rfl rfl (one_of HT_.out (by kernel_rfl)) (by decide) (fun K hK => ?_)
              refine box_step ?hg (N := 7) ?hd (cs := #[.slice none 0 0, .slice none 0 0]) (t := 43) ?hr ?_; (case hd => rfl); (case hg => rfl); (case hr => first | (go_simp; done) | (go_simp; rfl))
              intro gb276 hg w30 hbox hb
              have HS2_ := (hb.cell (World.block_lt_of_cell? _ _ (hHeld.2.2))).trans (hHeld.2.2)
              have n0_ := aM (Kd.N_below (Kd.N_elderB (by (with_reducible repeat (first | apply Kd.N_alloc | apply Kd.N_drewN | apply Kd.N_drew)); exact HO_5.out) gb276 (Nat.le_of_eq hg.symm)) hb)
              have n1_ := aM (Kd.V_below (Kd.V_elderB (xV HL269_0.out) gb276 (Nat.le_of_eq hg.symm)) hb)
              have n2_ := aM (Kd.N_below (Kd.N_elderB (by (with_reducible repeat (first | apply Kd.N_alloc | apply Kd.N_drewN | apply Kd.N_drew)); exact HO272.out) gb276 (Nat.le_of_eq hg.symm)) hb)
              have n3_ := aM (Kd.R_below (xR HO275.out) hb)
              have n4_ := aM (bB (g := gb249) (o := .cells #[.slice (some ad256) l0_0.length c0_0, .slice A0_1 l0_1.length c0_1] 43 (0, 0)) (xB BK249.out) hb)
              have n5_ := aM (Kd.C_below (by repeat (first | (with_reducible exact HR269_0.out) | (with_reducible refine Kd.C_alloc ?_ _) | (with_reducible refine Kd.C_drewN ?_ _) | (with_reducible refine Kd.C_drew ?_) | exact HR269_0.out)) hb)
              have n6_ := aM (below_step (xG1 HB.out GE249.out) hb)
              have n7_ := aM (hbox)
              have n8_ := aM ((by rw [hg]; exact (below_size (xG1 HB.out GE249.out)) : w.heap.size ≤ gb276))
              have n9_ := aM ((by rw [hg]; exact (below_size (xG1 HB.out GE249.out)) : w.heap.size ≤ gb276))
              have n10_ := aM ((by rw [hg]; exact Nat.ne_of_lt (blk_lt (g := gb249) (o := .cells #[.slice (some ad256) l0_0.length c0_0, .slice A0_1 l0_1.length c0_1] 43 (0, 0)) (xB BK249.out)) : gb249 ≠ gb276))
              have n11_ := aM ((by rw [hg]; exact Nat.ne_of_gt (blk_lt (g := gb249) (o := .cells #[.slice (some ad256) l0_0.length c0_0, .slice A0_1 l0_1.length c0_1] 43 (0, 0)) (xB BK249.out)) : gb276 ≠ gb249))
              clear HO_5 HL269_0 HO272 HO275 BK249 HR269_0 HB
              have HO_5 := n0_
              have HL269_0 := n1_
              have HO272 := n2_
              have HO275 := n3_
              have BK249 := n4_
              have HR269_0 := n5_
              have HB := n6_
              have BK276 := n7_
              have GW276 := n8_
              have GE276 := n9_
              have NB249_276 := n10_
              have NB276_249 := n11_
              clear n0_ n1_ n2_ n3_ n4_ n5_ n6_ n7_ n8_ n9_ n10_ n11_ hb hbox hg
              refine hK.out _ _ ⟨(bC BK249.out 0).trans rfl, (bC BK249.out 1).trans rfl, HS2_⟩ (fun hHeld => ?_)
              clear hK K
              refine norm_ (a' := ?_) ?_ ?_
              rotate_left
              ·
               show Act.put _ (some 7) _ = _
               simp only [Act.put, sA, sZ, sU, i64_w, i32_w]
               rfl
              exact norm_ (by simp only [putAll, Act.put, sA, sZ, sU]) (hCont (v271, v274, gb276) _ ⟨hHeld, (by (with_reducible repeat (first | apply Kd.V_alloc | apply Kd.V_drewN | apply Kd.V_drew)); exact Kd.V_mono HL269_0.out (fun _ hk => ⟨hk.1.1.1.1.1, ⟨hk.1.1.2, ⟨hk.1.2, ⟨hk.1.1.1.2, ⟨hk.1.1.1.1.2, hk.2⟩⟩⟩⟩⟩)), (by (with_reducible repeat (first | apply Kd.N_alloc | apply Kd.N_drewN | apply Kd.N_drew)); exact Kd.N_mono HO272.out (fun _ hk => ⟨hk.1.1, ⟨hk.1.2.1, ⟨hk.1.2.2.1, ⟨hk.1.2.2.2, hk.2⟩⟩⟩⟩)), (by (with_reducible repeat (first | apply rA | apply rN | apply rD)); exact rM HO275.out (fun _ hk => hk.1)), (by (with_reducible repeat (first | apply Kd.N_alloc | apply Kd.N_drewN | apply Kd.N_drew)); exact Kd.N_mono HO_5.out (fun _ hk => ⟨hk.1.1.1.1, ⟨hk.1.1.2, ⟨hk.1.2, ⟨hk.1.1.1.2, hk.2⟩⟩⟩⟩)), (xB BK249.out), (xB BK276.out), GW276.out, GE276.out, NB249_276.out, NB276_249.out, (xG2 HB.out GE249.out GE276.out)⟩)
             ·
              skip
              refine box_step ?hg (N := 7) ?hd (cs := #[.slice none 0 0, .slice none 0 0]) (t := 43) ?hr ?_; (case hd => rfl); (case hg => rfl); (case hr => first | (go_simp; done) | (go_simp; rfl))
              intro gb276 hg w29 hbox hb
              have HS2_ := (hb.cell (World.block_lt_of_cell? _ _ (hHeld.2.2))).trans (hHeld.2.2)
              have n0_ := aM (Kd.N_below (Kd.N_elderB (by (with_reducible repeat (first | apply Kd.N_alloc | apply Kd.N_drewN | apply Kd.N_drew)); exact HO_5.out) gb276 (Nat.le_of_eq hg.symm)) hb)
              have n1_ := aM (Kd.V_below (Kd.V_elderB (xV HL269_0.out) gb276 (Nat.le_of_eq hg.symm)) hb)
              have n2_ := aM (bB (g := gb249) (o := .cells #[.slice (some ad256) l0_0.length c0_0, .slice A0_1 l0_1.length c0_1] 43 (0, 0)) (xB BK249.out) hb)
              have n3_ := aM (Kd.C_below (by repeat (first | (with_reducible exact HR269_0.out) | (with_reducible refine Kd.C_alloc ?_ _) | (with_reducible refine Kd.C_drewN ?_ _) | (with_reducible refine Kd.C_drew ?_) | exact HR269_0.out)) hb)
              have n4_ := aM (below_step (xG1 HB.out GE249.out) hb)
              have n5_ := aM (hbox)
              have n6_ := aM ((by rw [hg]; exact (below_size (xG1 HB.out GE249.out)) : w.heap.size ≤ gb276))
              have n7_ := aM ((by rw [hg]; exact (below_size (xG1 HB.out GE249.out)) : w.heap.size ≤ gb276))
              have n8_ := aM ((by rw [hg]; exact Nat.ne_of_lt (blk_lt (g := gb249) (o := .cells #[.slice (some ad256) l0_0.length c0_0, .slice A0_1 l0_1.length c0_1] 43 (0, 0)) (xB BK249.out)) : gb249 ≠ gb276))
              have n9_ := aM ((by rw [hg]; exact Nat.ne_of_gt (blk_lt (g := gb249) (o := .cells #[.slice (some ad256) l0_0.length c0_0, .slice A0_1 l0_1.length c0_1] 43 (0, 0)) (xB BK249.out)) : gb276 ≠ gb249))
              clear HO_5 HL269_0 BK249 HR269_0 HB
              have HO_5 := n0_
              have HL269_0 := n1_
              have BK249 := n2_
              have HR269_0 := n3_
              have HB := n4_
              have BK276 := n5_
              have GW276 := n6_
              have GE276 := n7_
              have NB249_276 := n8_
              have NB276_249 := n9_
              clear n0_ n1_ n2_ n3_ n4_ n5_ n6_ n7_ n8_ n9_ hb hbox hg
              refine hK.out _ _ ⟨(bC BK249.out 0).trans rfl, (bC BK249.out 1).trans rfl, HS2_⟩ (fun hHeld => ?_)
              clear hK K
              refine norm_ (a' := ?_) ?_ ?_
              rotate_left
              ·
               show Act.put _ (some 7) _ = _
               simp only [Act.put, sA, sZ, sU, i64_w, i32_w]
               rfl
              refine one_ (i := 5) (N := some 45) #[true, true, true, true, true, true, true, false] rfl rfl (one_of HT_.out (by kernel_rfl)) (by decide) (fun K hK => ?_)
              refine goes_ Try.func72 (by kernel_rfl) rfl #[.agg #[.slice (some ad256) l0_0.length c0_0, .slice A0_1 l0_1.length c0_1], .slice A269_0 (rd_L1 t266 x6_2).length c269_0] (by rfl) rfl rfl xL ?_
              with_reducible refine (spec_l2Part.calls k2 _ _ l0_0 _ _ l0_1 _ _ (rd_L1 t266 x6_2) t270 t273 _ ?side1 ?side2 ?side3 ?side4 ?side5 ?side6 A21.out).mono ?_
              (case side1 => repeat (first | exact (Kd.C_below HR0_0.out HB.out) | (with_reducible refine Kd.C_alloc ?_ _) | (with_reducible refine Kd.C_drewN ?_ _) | (with_reducible refine Kd.C_drew ?_)))
              (case side2 => exact HC0_0.out)
              (case side3 => repeat (first | exact (Kd.C_below HR0_1.out HB.out) | (with_reducible refine Kd.C_alloc ?_ _) | (with_reducible refine Kd.C_drewN ?_ _) | (with_reducible refine Kd.C_drew ?_)))
              (case side4 => exact HC0_1.out)
              (case side5 => repeat (first | exact (by repeat (first | (with_reducible exact HR269_0.out) | (with_reducible refine Kd.C_alloc ?_ _) | (with_reducible refine Kd.C_drewN ?_ _) | (with_reducible refine Kd.C_drew ?_) | exact HR269_0.out)) | (with_reducible refine Kd.C_alloc ?_ _) | (with_reducible refine Kd.C_drewN ?_ _) | (with_reducible refine Kd.C_drew ?_)))
              (case side6 => exact HC269_0.out)
              rintro e w30 ⟨v271, v274, rfl, ho0, ho1, hb⟩
              have HS2_ := (hb.cell (World.block_lt_of_cell? _ _ (hHeld.2.2))).trans (hHeld.2.2)
              refine ⟨_, rfl, ?_⟩
              have n0_ := aM (Kd.N_mono (Kd.N_told (Kd.N_told (Kd.N_old (by (with_reducible repeat (first | apply Kd.N_alloc | apply Kd.N_drewN | apply Kd.N_drew)); exact HO_5.out) hb) (by first | exact Kd.N_base ho0 | exact Kd.S_base ho0 | exact Kd.R_base ho0)) (Kd.R_base ho1)) (fun _ h_ => h_.1))
              have n1_ := aM (Kd.V_mono (Kd.V_told (Kd.V_told (Kd.V_old (xV HL269_0.out) hb) (by first | exact Kd.N_base ho0 | exact Kd.S_base ho0 | exact Kd.R_base ho0)) (Kd.R_base ho1)) (fun _ h_ => h_.1))
              have n2_ := aM (Kd.N_lower (Kd.N_mono (ok' := fun k_ => (w.heap.size ≤ k_) ∧ some k_ ≠ (v274 : Value).ownBlock ∧ some k_ ≠ (.slice (some ad269) t266.length co27 : Value).ownBlock ∧ k_ ≠ gb249 ∧ k_ ≠ gb276) (Kd.S_N (Kd.S_bound ho0)) (fun k_ hk_ => ⟨(Nat.le_trans (below_size (xG2 HB.out GE249.out GE276.out)) hk_.2.1), hk_.1, (Kd.fresh' (Kd.N_lt (by (with_reducible repeat (first | apply Kd.N_alloc | apply Kd.N_drewN | apply Kd.N_drew)); exact HO_5.out)) k_ hk_.2.1), (Kd.freshB (g := gb249) (o := .cells #[.slice (some ad256) l0_0.length c0_0, .slice A0_1 l0_1.length c0_1] 43 (0, 0)) (xB BK249.out) k_ hk_.2.1), (Kd.freshB (g := gb276) (o := .cells #[.slice none 0 0, .slice none 0 0] 43 (0, 0)) (xB BK276.out) k_ hk_.2.1)⟩)) (below_size (xG2 HB.out GE249.out GE276.out)))
              have n3_ := aM (Kd.R_lower (Kd.R_newM (M := fun k_ => (w.heap.size ≤ k_)) ho1 (below_size (xG2 HB.out GE249.out GE276.out)) (fun k_ h_ => h_)) (below_size (xG2 HB.out GE249.out GE276.out)))
              have n4_ := aM (bB (g := gb249) (o := .cells #[.slice (some ad256) l0_0.length c0_0, .slice A0_1 l0_1.length c0_1] 43 (0, 0)) (xB BK249.out) hb)
              have n5_ := aM (Kd.C_below (by repeat (first | (with_reducible exact HR269_0.out) | (with_reducible refine Kd.C_alloc ?_ _) | (with_reducible refine Kd.C_drewN ?_ _) | (with_reducible refine Kd.C_drew ?_) | exact HR269_0.out)) hb)
              have n6_ := aM (bB (g := gb276) (o := .cells #[.slice none 0 0, .slice none 0 0] 43 (0, 0)) (xB BK276.out) hb)
              have n7_ := aM (below_step (xG2 HB.out GE249.out GE276.out) hb)
              clear HO_5 HL269_0 BK249 HR269_0 BK276 HB
              have HO_5 := n0_
              have HL269_0 := n1_
              have HO272 := n2_
              have HO275 := n3_
              have BK249 := n4_
              have HR269_0 := n5_
              have BK276 := n6_
              have HB := n7_
              clear n0_ n1_ n2_ n3_ n4_ n5_ n6_ n7_
              (try clear hb)
              (try clear hb2)
              (try clear hk)
              (try clear hi)
              (try clear ho0)
              (try clear ho1)
              refine hK.out _ _ ⟨(bC BK249.out 0).trans rfl, (bC BK249.out 1).trans rfl, HS2_⟩ (fun hHeld => ?_)
              clear hK K
              refine norm_ (a' := ?_) ?_ ?_
              rotate_left
              ·
               show Act.put _ (some 45) _ = _
               simp only [Act.put, sA, sZ, sU, i64_w, i32_w]
               rfl
              exact norm_ (by simp only [putAll, Act.put, sA, sZ, sU]) (hCont (v271, v274, gb276) _ ⟨hHeld, (by (with_reducible repeat (first | apply Kd.V_alloc | apply Kd.V_drewN | apply Kd.V_drew)); exact Kd.V_mono HL269_0.out (fun _ hk => ⟨hk.1.1.1.1.1, ⟨hk.1.2, ⟨hk.2, ⟨hk.1.1.1.2, ⟨hk.1.1.1.1.2, hk.1.1.2⟩⟩⟩⟩⟩)), (by (with_reducible repeat (first | apply Kd.N_alloc | apply Kd.N_drewN | apply Kd.N_drew)); exact HO272.out), (by (with_reducible repeat (first | apply rA | apply rN | apply rD)); exact rM HO275.out (fun _ hk => hk.1)), (by (with_reducible repeat (first | apply Kd.N_alloc | apply Kd.N_drewN | apply Kd.N_drew)); exact Kd.N_mono HO_5.out (fun _ hk => ⟨hk.1.1.1.1, ⟨hk.1.2, ⟨hk.2, ⟨hk.1.1.1.2, hk.1.1.2⟩⟩⟩⟩)), (xB BK249.out), (xB BK276.out), GW276.out, GE276.out, NB249_276.out, NB276_249.out, (xG2 HB.out GE249.out GE276.out)⟩)
            rintro ⟨v271, v274, gb276⟩ w31 ⟨hS_, h0_, h1_, h2_, h3_, h4_, h5_, h6_, h7_, h8_, h9_, h10_⟩
            have n0_ : Aside0 (Kd.V (Kd.int .i64) 3 w31 w.heap.size (fun k_ => (w.heap.size ≤ k_) ∧ some k_ ≠ (v271 : Value).ownBlock ∧ some k_ ≠ (v274 : Value).ownBlock ∧ some k_ ≠ (.slice (some ad269) t266.length co27 : Value).ownBlock ∧ k_ ≠ gb249 ∧ k_ ≠ gb276) (.slice A269_0 (rd_L1 t266 x6_2).length c269_0) (rd_L1 t266 x6_2)) := ⟨h0_⟩
            have n1_ : Aside0 (Kd.N (Kd.slice 3 (Kd.int .i64)) 22 w31 w.heap.size (fun k_ => (w.heap.size ≤ k_) ∧ some k_ ≠ (v274 : Value).ownBlock ∧ some k_ ≠ (.slice (some ad269) t266.length co27 : Value).ownBlock ∧ k_ ≠ gb249 ∧ k_ ≠ gb276) v271 t270) := ⟨h1_⟩
            have n2_ : Aside0 (Kd.R (Kd.int .i64) 3 w31 w.heap.size (fun k_ => (w.heap.size ≤ k_)) v274 t273) := ⟨h2_⟩
            have n3_ : Aside0 (Kd.N (Kd.slice 3 (Kd.int .i64)) 22 w31 w.heap.size (fun k_ => (w.heap.size ≤ k_) ∧ some k_ ≠ (v271 : Value).ownBlock ∧ some k_ ≠ (v274 : Value).ownBlock ∧ k_ ≠ gb249 ∧ k_ ≠ gb276) (.slice (some ad269) t266.length co27) t266) := ⟨h3_⟩
            have n4_ : Aside0 (w31.heap[gb249]? = some (.cells #[.slice (some ad256) l0_0.length c0_0, .slice A0_1 l0_1.length c0_1] 43 (0, 0))) := ⟨h4_⟩
            have n5_ : Aside0 (w31.heap[gb276]? = some (.cells #[.slice none 0 0, .slice none 0 0] 43 (0, 0))) := ⟨h5_⟩
            have n6_ : Aside0 (w.heap.size ≤ gb276) := ⟨h6_⟩
            have n7_ : Aside0 (w.heap.size ≤ gb276) := ⟨h7_⟩
            have n8_ : Aside0 (gb249 ≠ gb276) := ⟨h8_⟩
            have n9_ : Aside0 (gb276 ≠ gb249) := ⟨h9_⟩
            have n10_ : Aside0 (Below w.heap.size w w31) := ⟨h10_⟩
            clear HO_5 BK249 HB h0_ h1_ h2_ h3_ h4_ h5_ h6_ h7_ h8_ h9_ h10_
            have HL269_0 := n0_
            have HO272 := n1_
            have HO275 := n2_
            have HO_5 := n3_
            have BK249 := n4_
            have BK276 := n5_
            have GW276 := n6_
            have GE276 := n7_
            have NB249_276 := n8_
            have NB276_249 := n9_
            have HB := n10_
            clear n0_ n1_ n2_ n3_ n4_ n5_ n6_ n7_ n8_ n9_ n10_
            have hHeld : w31.cell? ⟨gb249, 0, none⟩ = some (.slice (some ad256) l0_0.length c0_0) ∧ w31.cell? ⟨gb249, 1, none⟩ = some (.slice A0_1 l0_1.length c0_1) ∧ w31.cell? (ad269.add (x6_2).toNat) = some (.slice A269_0 (rd_L1 t266 x6_2).length c269_0) := hS_
            obtain ⟨Ao32, co32, eo32⟩ := Kd.N_slice HO272.out
            (first | subst eo32 | (injection eo32 with f1_ f2_ f3_; have f4_ := f1_.symm; have f5_ := f3_.symm; clear f1_ f2_ f3_; subst f4_; subst f5_))
            obtain ⟨Ao34, co34, eo34⟩ := Kd.R_slice HO275.out
            (first | subst eo34 | (injection eo34 with f1_ f2_ f3_; have f4_ := f1_.symm; have f5_ := f3_.symm; clear f1_ f2_ f3_; subst f4_; subst f5_))
            refine norm_ (a' := ?_) ?_ ?_
            rotate_left
            ·
             simp only [putAll, Act.put, sA, sZ, sU]
             rfl
            refine one_ (i := 7) (N := none) #[true, true, true, true, true, true, true, true] rfl rfl (one_of HT_.out (by kernel_rfl)) (by decide) (fun K hK => ?_)
            have hs33 : w31.cell? ⟨gb276, 0, none⟩ = some (.slice none 0 0) := (bC BK276.out 0).trans rfl
            have hfs33 := bF BK276.out 0
            have hns33_0 := NB249_276.out
            have hms33_0 := NB276_249.out
            have hs35 : w31.cell? ⟨gb276, 1, none⟩ = some (.slice none 0 0) := (bC BK276.out 1).trans rfl
            have hfs35 := bF BK276.out 1
            have hns35_0 := NB249_276.out
            have hms35_0 := NB276_249.out
            refine skip_ (w1 := ?_) (by rfl) rfl ?_ ?_
            rotate_left
            ·
             go_simp
             rfl
            refine hK.out _ _ ⟨((cell_far (p := ⟨gb276, _, none⟩) NB249_276.out _).trans (((cell_far (p := ⟨gb276, _, none⟩) NB249_276.out _).trans (hHeld.1)))), ((cell_far (p := ⟨gb276, _, none⟩) NB249_276.out _).trans (((cell_far (p := ⟨gb276, _, none⟩) NB249_276.out _).trans (hHeld.2.1)))), ((cell_far (p := ⟨gb276, _, none⟩) (by first | exact Kd.own_blk (Kd.N_away HO_5.out (fun _ hk => hk.2.2.2.2)) | (rw [add_block]; exact Kd.own_blk (Kd.N_away HO_5.out (fun _ hk => hk.2.2.2.2))) | (show (Addr.add _ _).block ≠ _; rw [add_block]; exact Kd.own_blk (Kd.N_away HO_5.out (fun _ hk => hk.2.2.2.2))) | (dsimp only; exact Kd.own_blk (Kd.N_away HO_5.out (fun _ hk => hk.2.2.2.2)))) _).trans (((cell_far (p := ⟨gb276, _, none⟩) (by first | exact Kd.own_blk (Kd.N_away HO_5.out (fun _ hk => hk.2.2.2.2)) | (rw [add_block]; exact Kd.own_blk (Kd.N_away HO_5.out (fun _ hk => hk.2.2.2.2))) | (show (Addr.add _ _).block ≠ _; rw [add_block]; exact Kd.own_blk (Kd.N_away HO_5.out (fun _ hk => hk.2.2.2.2))) | (dsimp only; exact Kd.own_blk (Kd.N_away HO_5.out (fun _ hk => hk.2.2.2.2)))) _).trans (hHeld.2.2))))⟩ (fun hHeld => ?_)
            clear hK K
            refine done_ (done_of HT_.out (by kernel_rfl)) ?_
            have hnb36 := NB276_249.out
            have hnc36 := NB249_276.out
            have hcz37_0 : w31.cell? ⟨gb276, 0, none⟩ = some (.slice none 0 0) := (bC BK276.out 0).trans rfl
            have hcz37_1 : w31.cell? ⟨gb276, 1, none⟩ = some (.slice none 0 0) := (bC BK276.out 1).trans rfl
            have hfz37_0 := bF BK276.out 0
            have hfz37_1 := bF BK276.out 1
            try go_wp2_with (first | ((with_reducible refine gate_callee (f := 74) rfl ?_); refine goesL_ (some 49) rfl rfl Try.func74 (by kernel_rfl) rfl #[.slice Ao32 t270.length co32] rfl xL ?_; (with_reducible refine (spec_l4Equations.calls k2 _ _ t270 t277 _ ?side1 ?side2 A22.out).mono ?_); (case side1 => refine (Kd.N_reads' (e := 22) (base := w.heap.size) (ok := fun k_ => ((w.heap.size ≤ k_) ∧ (some k_ ≠ (.slice Ao34 t273.length co34 : Value).ownBlock ∧ (some k_ ≠ (.slice (some ad269) t266.length co27 : Value).ownBlock ∧ (k_ ≠ gb249 ∧ k_ ≠ gb276))))) (n := t270.length) (c := co32) ?_).2.2; exact (by (with_reducible repeat (first | apply Kd.N_alloc | apply Kd.N_drewN | apply Kd.N_drew)); exact (Kd.N_mono (Kd.N_far (p := ⟨gb276, 1, none⟩) (Kd.N_far (p := ⟨gb276, 0, none⟩) (Kd.N_mono HO272.out (fun k_ hk => (⟨hk, hk.2.2.2.2⟩ : _ ∧ k_ ≠ gb276))) (fun _ hk => hk.2) (.slice Ao32 t270.length co32)) (fun _ hk => hk.2) (.slice Ao34 t273.length co34)) (fun _ h_ => h_.1)))); (case side2 => exact (Kd.N_reads' HO272.out).2.1); rintro e w38 ⟨v278, rfl, ho0, hb⟩; refine ⟨_, rfl, ?_⟩; replace HL269_0 := aM (Kd.V_elder' (by (with_reducible repeat (first | apply Kd.V_alloc | apply Kd.V_drewN | apply Kd.V_drew)); exact (Kd.V_mono (Kd.V_far (p := ⟨gb276, 1, none⟩) (Kd.V_far (p := ⟨gb276, 0, none⟩) (Kd.V_mono HL269_0.out (fun k_ hk => (⟨hk, hk.2.2.2.2.2⟩ : _ ∧ k_ ≠ gb276))) (fun _ hk => hk.2) (.slice Ao32 t270.length co32)) (fun _ hk => hk.2) (.slice Ao34 t273.length co34)) (fun _ h_ => h_.1))) (by first | exact Kd.N_base ho0 | exact Kd.S_base ho0 | exact Kd.R_base ho0) hb); have HO279 := aM (Kd.N_lower (Kd.N_mono (ok' := fun k_ => (w.heap.size ≤ k_) ∧ some k_ ≠ (.slice (some ad269) t266.length co27 : Value).ownBlock ∧ some k_ ≠ (.slice Ao32 t270.length co32 : Value).ownBlock ∧ some k_ ≠ (.slice Ao34 t273.length co34 : Value).ownBlock ∧ k_ ≠ gb249 ∧ k_ ≠ gb276) (Kd.S_N (Kd.S_bound ho0)) (fun k_ hk_ => ⟨(Nat.le_trans (below_size (xG2 HB.out GE249.out GE276.out)) hk_.2.1), (Kd.fresh' (Kd.N_lt (by (with_reducible repeat (first | apply Kd.N_alloc | apply Kd.N_drewN | apply Kd.N_drew)); exact (Kd.N_mono (Kd.N_far (p := ⟨gb276, 1, none⟩) (Kd.N_far (p := ⟨gb276, 0, none⟩) (Kd.N_mono HO_5.out (fun k_ hk => (⟨hk, hk.2.2.2.2⟩ : _ ∧ k_ ≠ gb276))) (fun _ hk => hk.2) (.slice Ao32 t270.length co32)) (fun _ hk => hk.2) (.slice Ao34 t273.length co34)) (fun _ h_ => h_.1)))) k_ hk_.2.1), (Kd.fresh' (Kd.N_lt (by (with_reducible repeat (first | apply Kd.N_alloc | apply Kd.N_drewN | apply Kd.N_drew)); exact (Kd.N_mono (Kd.N_far (p := ⟨gb276, 1, none⟩) (Kd.N_far (p := ⟨gb276, 0, none⟩) (Kd.N_mono HO272.out (fun k_ hk => (⟨hk, hk.2.2.2.2⟩ : _ ∧ k_ ≠ gb276))) (fun _ hk => hk.2) (.slice Ao32 t270.length co32)) (fun _ hk => hk.2) (.slice Ao34 t273.length co34)) (fun _ h_ => h_.1)))) k_ hk_.2.1), (Kd.fresh' (Kd.R_lt (by (with_reducible repeat (first | apply rA | apply rN | apply rD)); exact (rM (Kd.R_far (p := ⟨gb276, 1, none⟩) (Kd.R_far (p := ⟨gb276, 0, none⟩) (Kd.R_types HO275.out BK276.out (by decide)) (fun _ hk => hk.2) (.slice Ao32 t270.length co32)) (fun _ hk => hk.2) (.slice Ao34 t273.length co34)) (fun _ h_ => h_.1)))) k_ hk_.2.1), (Kd.freshB (g := gb249) (o := .cells #[.slice (some ad256) l0_0.length c0_0, .slice A0_1 l0_1.length c0_1] 43 (0, 0)) (by (with_reducible repeat (first | refine bN ?_ _ | refine bD ?_ | refine bA ?_ _)); refine blk_far ?_ NB249_276.out _; (with_reducible repeat (first | refine bN ?_ _ | refine bD ?_ | refine bA ?_ _)); refine blk_far ?_ NB249_276.out _; (with_reducible repeat (first | refine bN ?_ _ | refine bD ?_ | refine bA ?_ _)); exact BK249.out) k_ hk_.2.1), (Kd.freshB (g := gb276) (o := .cells #[.slice Ao32 t270.length co32, .slice Ao34 t273.length co34] 43 (0, 0)) (by (with_reducible repeat (first | refine bN ?_ _ | refine bD ?_ | refine bA ?_ _)); refine blk_put (cs := #[.slice Ao32 t270.length co32, .slice none 0 0]) ?_ 1 _ rfl; (with_reducible repeat (first | refine bN ?_ _ | refine bD ?_ | refine bA ?_ _)); refine blk_put (cs := #[.slice none 0 0, .slice none 0 0]) ?_ 0 _ rfl; (with_reducible repeat (first | refine bN ?_ _ | refine bD ?_ | refine bA ?_ _)); exact BK276.out) k_ hk_.2.1)⟩)) (below_size (xG2 HB.out GE249.out GE276.out))); replace HO_5 := aM (Kd.N_elder' (by (with_reducible repeat (first | apply Kd.N_alloc | apply Kd.N_drewN | apply Kd.N_drew)); exact (Kd.N_mono (Kd.N_far (p := ⟨gb276, 1, none⟩) (Kd.N_far (p := ⟨gb276, 0, none⟩) (Kd.N_mono HO_5.out (fun k_ hk => (⟨hk, hk.2.2.2.2⟩ : _ ∧ k_ ≠ gb276))) (fun _ hk => hk.2) (.slice Ao32 t270.length co32)) (fun _ hk => hk.2) (.slice Ao34 t273.length co34)) (fun _ h_ => h_.1))) (by first | exact Kd.N_base ho0 | exact Kd.S_base ho0 | exact Kd.R_base ho0) hb); replace HO272 := aM (Kd.N_elder' (by (with_reducible repeat (first | apply Kd.N_alloc | apply Kd.N_drewN | apply Kd.N_drew)); exact (Kd.N_mono (Kd.N_far (p := ⟨gb276, 1, none⟩) (Kd.N_far (p := ⟨gb276, 0, none⟩) (Kd.N_mono HO272.out (fun k_ hk => (⟨hk, hk.2.2.2.2⟩ : _ ∧ k_ ≠ gb276))) (fun _ hk => hk.2) (.slice Ao32 t270.length co32)) (fun _ hk => hk.2) (.slice Ao34 t273.length co34)) (fun _ h_ => h_.1))) (by first | exact Kd.N_base ho0 | exact Kd.S_base ho0 | exact Kd.R_base ho0) hb); replace HO275 := aM (Kd.R_below (by (with_reducible repeat (first | apply rA | apply rN | apply rD)); exact (rM (Kd.R_far (p := ⟨gb276, 1, none⟩) (Kd.R_far (p := ⟨gb276, 0, none⟩) (Kd.R_types HO275.out BK276.out (by decide)) (fun _ hk => hk.2) (.slice Ao32 t270.length co32)) (fun _ hk => hk.2) (.slice Ao34 t273.length co34)) (fun _ h_ => h_.1))) hb); replace BK249 := aM (bB (g := gb249) (o := .cells #[.slice (some ad256) l0_0.length c0_0, .slice A0_1 l0_1.length c0_1] 43 (0, 0)) (by (with_reducible repeat (first | refine bN ?_ _ | refine bD ?_ | refine bA ?_ _)); refine blk_far ?_ NB249_276.out _; (with_reducible repeat (first | refine bN ?_ _ | refine bD ?_ | refine bA ?_ _)); refine blk_far ?_ NB249_276.out _; (with_reducible repeat (first | refine bN ?_ _ | refine bD ?_ | refine bA ?_ _)); exact BK249.out) hb); replace BK276 := aM (bB (g := gb276) (o := .cells #[.slice Ao32 t270.length co32, .slice Ao34 t273.length co34] 43 (0, 0)) (by (with_reducible repeat (first | refine bN ?_ _ | refine bD ?_ | refine bA ?_ _)); refine blk_put (cs := #[.slice Ao32 t270.length co32, .slice none 0 0]) ?_ 1 _ rfl; (with_reducible repeat (first | refine bN ?_ _ | refine bD ?_ | refine bA ?_ _)); refine blk_put (cs := #[.slice none 0 0, .slice none 0 0]) ?_ 0 _ rfl; (with_reducible repeat (first | refine bN ?_ _ | refine bD ?_ | refine bA ?_ _)); exact BK276.out) hb); replace HB := aM (below_step (xG2 HB.out GE249.out GE276.out) hb); (try clear hb; try clear hb2; try clear hk; try clear hi; try clear ho0); obtain ⟨Ao39, co39, eo39⟩ := Kd.N_slice HO279.out; subst eo39) | ((with_reducible refine gate_callee (f := 73) rfl ?_); refine goesL_ (some 51) rfl rfl Try.func73 (by kernel_rfl) rfl #[.slice Ao39 t277.length co39, .int .i64 x4_1] rfl xL ?_; (with_reducible refine (spec_l4Relation.calls k2 _ _ t277 x4_1 t280 true _ ?side1 ?side2 A23.out).mono ?_); (case side1 => repeat (first | exact (Kd.N_reads' HO279.out).2.2 | (with_reducible refine Kd.C_alloc ?_ _) | (with_reducible refine Kd.C_drewN ?_ _) | (with_reducible refine Kd.C_drew ?_))); (case side2 => exact (Kd.N_reads' HO279.out).2.1); rintro e w40 ⟨v282, rfl, ho0, hb⟩; refine ⟨_, rfl, ?_⟩; replace HO_5 := aM (Kd.N_elder' (by (with_reducible repeat (first | apply Kd.N_alloc | apply Kd.N_drewN | apply Kd.N_drew)); exact HO_5.out) (Kd.R_base ho0) hb); replace HL269_0 := aM (Kd.V_elder' (xV HL269_0.out) (Kd.R_base ho0) hb); replace HO272 := aM (Kd.N_elder' (by (with_reducible repeat (first | apply Kd.N_alloc | apply Kd.N_drewN | apply Kd.N_drew)); exact HO272.out) (Kd.R_base ho0) hb); replace HO279 := aM (Kd.N_elder' (by (with_reducible repeat (first | apply Kd.N_alloc | apply Kd.N_drewN | apply Kd.N_drew)); exact HO279.out) (Kd.R_base ho0) hb); have HO283 := aM (Kd.R_lower (Kd.R_new' (Kd.R_newM (M := fun k_ => (w.heap.size ≤ k_)) ho0 (below_size (xG2 HB.out GE249.out GE276.out)) (fun k_ h_ => h_)) (Kd.R_lt (xR HO275.out))) (below_size (xG2 HB.out GE249.out GE276.out))); replace HO275 := aM (Kd.R_elder' (xR HO275.out) (Kd.R_base ho0) hb); replace BK249 := aM (bB (g := gb249) (o := .cells #[.slice (some ad256) l0_0.length c0_0, .slice A0_1 l0_1.length c0_1] 43 (0, 0)) (xB BK249.out) hb); replace BK276 := aM (bB (g := gb276) (o := .cells #[.slice Ao32 t270.length co32, .slice Ao34 t273.length co34] 43 (0, 0)) (xB BK276.out) hb); replace HB := aM (below_step (xG2 HB.out GE249.out GE276.out) hb); (try clear hb; try clear hb2; try clear hk; try clear hi; try clear ho0); have hcz41_0 : w40.cell? ⟨gb276, 0, none⟩ = some (.slice Ao32 t270.length co32) := (bC BK276.out 0).trans rfl; have hcz41_1 : w40.cell? ⟨gb276, 1, none⟩ = some (.slice Ao34 t273.length co34) := (bC BK276.out 1).trans rfl; have hfz41_0 := bF BK276.out 0; have hfz41_1 := bF BK276.out 1; obtain ⟨Ao42, co42, eo42⟩ := Kd.R_slice HO283.out; subst eo42) | ((with_reducible refine gate_callee (f := 75) rfl ?_); refine goesL_ (some 60) rfl rfl Try.func75 (by kernel_rfl) rfl #[.slice Ao42 t280.length co42, .slice Ao34 t273.length co34] rfl xL ?_; (with_reducible refine (spec_l4Signs.calls k2 _ _ t280 _ _ t273 t284 true _ ?side1 ?side2 ?side3 ?side4 A25.out).mono ?_); (case side1 => exact xC (Kd.R_reads' HO283.out).2.2); (case side2 => exact (Kd.R_reads' HO283.out).2.1); (case side3 => exact xC (Kd.R_reads' HO275.out).2.2); (case side4 => exact (Kd.R_reads' HO275.out).2.1); rintro e w43 ⟨v286, rfl, ho0, hb⟩; refine ⟨_, rfl, ?_⟩; replace HO_5 := aM (Kd.N_elder' (by (with_reducible repeat (first | apply Kd.N_alloc | apply Kd.N_drewN | apply Kd.N_drew)); exact HO_5.out) (Kd.R_base ho0) hb); replace HL269_0 := aM (Kd.V_elder' (xV HL269_0.out) (Kd.R_base ho0) hb); replace HO272 := aM (Kd.N_elder' (by (with_reducible repeat (first | apply Kd.N_alloc | apply Kd.N_drewN | apply Kd.N_drew)); exact HO272.out) (Kd.R_base ho0) hb); replace HO279 := aM (Kd.N_elder' (by (with_reducible repeat (first | apply Kd.N_alloc | apply Kd.N_drewN | apply Kd.N_drew)); exact HO279.out) (Kd.R_base ho0) hb); have HO287 := aM (Kd.R_lower (Kd.R_new' (Kd.R_new' (Kd.R_newM (M := fun k_ => (w.heap.size ≤ k_)) ho0 (below_size (xG2 HB.out GE249.out GE276.out)) (fun k_ h_ => h_)) (Kd.R_lt (xR HO275.out))) (Kd.R_lt (xR HO283.out))) (below_size (xG2 HB.out GE249.out GE276.out))); replace HO275 := aM (Kd.R_elder' (xR HO275.out) (Kd.R_base ho0) hb); replace HO283 := aM (Kd.R_elder' (xR HO283.out) (Kd.R_base ho0) hb); replace BK249 := aM (bB (g := gb249) (o := .cells #[.slice (some ad256) l0_0.length c0_0, .slice A0_1 l0_1.length c0_1] 43 (0, 0)) (xB BK249.out) hb); replace BK276 := aM (bB (g := gb276) (o := .cells #[.slice Ao32 t270.length co32, .slice Ao34 t273.length co34] 43 (0, 0)) (xB BK276.out) hb); replace HB := aM (below_step (xG2 HB.out GE249.out GE276.out) hb); (try clear hb; try clear hb2; try clear hk; try clear hi; try clear ho0); have p288 : 0 ≤ (x6_2 : Int) := of_decide_eq_true (by first | (with_reducible assumption) | assumption); have q288 : x6_2 < (t266.length : Int) := of_decide_eq_true (by first | (with_reducible assumption) | assumption); obtain ⟨ad288, A288_0, c288_0, e288, hx288_0, hl288_0, hi288_0⟩ := at_L1 (Kd.N_reads' HO_5.out).2.2 x6_2 p288 q288; obtain rfl : ad269 = ad288 := (by injection e288); obtain ⟨ce288, hce288, hMe288, hcc288⟩ := Kd.N_get HO_5.out [] x6_2 p288 (by first | exact q288 | exact of_decide_eq_true (by first | (with_reducible assumption) | assumption) | (have e_ := (Kd.N_reads' HO_5.out).1; omega)); obtain ⟨ua288_0, uc288_0, rfl, ul288_0, ge288_0⟩ := Kd.FK_slice_open hMe288; have hv288_0 := hcc288 0 _ rfl; rw [Nat.add_zero, show ((Kd.slice 3 (Kd.int .i64))).sz = 1 from rfl, Nat.mul_one] at hv288_0; replace hv288_0 := Option.some.inj (hv288_0.symm.trans hx288_0); injection hv288_0 with hva_ hvn_ hvc_; rw [hva_] at ge288_0; rw [hvc_] at ul288_0; have HL288_0 := aM (show Kd.V (Kd.int .i64) 3 _ w.heap.size _ _ (rd_L1 t266 x6_2) from Kd.V_mk ul288_0 ge288_0); clear hva_ hvn_ hvc_ ge288_0 ul288_0; clear hcc288 hce288; have HR288_0 := aM hi288_0; have HC288_0 := aM hl288_0; clear hi288_0 hl288_0; replace p288 := eq_true p288; replace q288 := eq_true q288))
            go_ret2
            exact ⟨_, _, by first | rfl | (simp [errW_none, errW_some] <;> rfl) | (simp [*, errW_none, errW_some] <;> rfl), by (with_reducible repeat (first | apply Kd.V_alloc | apply Kd.V_drewN | apply Kd.V_drew)); exact Kd.V_mono HL288_0.out (fun _ hk => ⟨hk.1.1.1.1.1, hk.1.2⟩), by (with_reducible repeat (first | apply rA | apply rN | apply rD)); exact rM HO287.out (fun _ hk => hk.1.1.1), xG2 HB.out GE249.out GE276.out⟩
           ·
            replace c26 := Bool.eq_false_iff.mpr c26
            subst c26
            have H1 : (spec_l4Find.l1 k2 x4_1 t266 (wrap64 (x6_2 + 1)) l0_0 l0_1) = some (r1, r2) := by rw [if_neg (show ¬ (false = true) by decide)] at H; exact H
            clear H
            have H := H1
            clear H1
            have H' := aM H
            clear H
            obtain ⟨Ao44, co44, eo44⟩ := Kd.N_slice HO_5.out
            subst eo44
            try go_wp2
            have n0_ := aM (Kd.N_drew HO_5.out)
            have n1_ := aM (bD BK249.out)
            have n2_ := aM (eD HB.out)
            clear HO_5 BK249 HB
            have HO_5 := n0_
            have BK249 := n1_
            have HB := n2_
            clear n0_ n1_ n2_
            have p269 : 0 ≤ (x6_2 : Int) := of_decide_eq_true (by first | (with_reducible assumption) | assumption)
            have q269 : x6_2 < (t266.length : Int) := of_decide_eq_true (by first | (with_reducible assumption) | assumption)
            obtain ⟨ad269, A269_0, c269_0, e269, hx269_0, hl269_0, hi269_0⟩ := at_L1 (Kd.N_reads' HO_5.out).2.2 x6_2 p269 q269
            cases e269
            obtain ⟨ce269, hce269, hMe269, hcc269⟩ := Kd.N_get HO_5.out [] x6_2 p269 (by first | exact q269 | exact of_decide_eq_true (by first | (with_reducible assumption) | assumption) | (have e_ := (Kd.N_reads' HO_5.out).1; omega))
            obtain ⟨ua269_0, uc269_0, rfl, ul269_0, ge269_0⟩ := Kd.FK_slice_open hMe269
            have hv269_0 := hcc269 0 _ rfl
            rw [Nat.add_zero, show ((Kd.slice 3 (Kd.int .i64))).sz = 1 from rfl, Nat.mul_one] at hv269_0
            replace hv269_0 := Option.some.inj (hv269_0.symm.trans hx269_0)
            injection hv269_0 with hva_ hvn_ hvc_
            rw [hva_] at ge269_0
            rw [hvc_] at ul269_0
            have HL269_0 := aM (show Kd.V (Kd.int .i64) 3 _ w.heap.size _ _ (rd_L1 t266 x6_2) from Kd.V_mk ul269_0 ge269_0)
            clear hva_ hvn_ hvc_ ge269_0 ul269_0 hcc269 hce269
            have HR269_0 := aM hi269_0
            have HC269_0 := aM hl269_0
            clear hi269_0 hl269_0
            replace p269 := eq_true p269
            replace q269 := eq_true q269
            refine start_ (n := 8) (S := fun w' => w'.cell? ⟨gb249, 0, none⟩ = some (.slice (some ad256) l0_0.length c0_0) ∧ w'.cell? ⟨gb249, 1, none⟩ = some (.slice A0_1 l0_1.length c0_1) ∧ w'.cell? (ad269.add (x6_2).toNat) = some (.slice A269_0 (rd_L1 t266 x6_2).length c269_0)) (ds := []) #[false, false, false, false, false, false, false, false] (by kernel_rfl) rfl rfl ⟨(bC BK249.out 0).trans rfl, (bC BK249.out 1).trans rfl, hx269_0⟩ (fun hHeld => ?_); refine with_tabW spec_l4Find.tab10 spec_l4Find.bits10 (fun HT_ HW_ => ?_)
            generalize wr.drew = w45 at HO_5 BK249 HB HL269_0 HR269_0 hx269_0 hHeld ⊢
            refine pure_ (i := 1) (N := some 41) (v := ?_) (a' := ?_) #[false, true, false, false, false, false, false, false] rfl rfl (any_of HT_.out (by kernel_rfl)) (fun _ _ _ h => h) (Or.inl ⟨by rfl, ?_⟩) ?_ ?_
            rotate_left
            ·
             intro w'
             go_simp
             with_reducible rfl
            rotate_left
            ·
             simp only [Act.put, sA, sZ, sU, i64_w, i32_w]
             rfl
            refine pure_ (i := 2) (N := some 42) (v := ?_) (a' := ?_) #[false, true, true, false, false, false, false, false] rfl rfl (any_of HT_.out (by kernel_rfl)) (fun _ _ _ h => h) (Or.inl ⟨by rfl, ?_⟩) ?_ ?_
            rotate_left
            ·
             intro w'
             go_simp
             with_reducible rfl
            rotate_left
            ·
             simp only [Act.put, sA, sZ, sU, i64_w, i32_w]
             rfl
            refine pure_ (i := 3) (N := some 43) (v := ?_) (a' := ?_) #[false, true, true, true, false, false, false, false] rfl rfl (any_of HT_.out (by kernel_rfl)) (fun _ _ _ h => h) (Or.inl ⟨by rfl, ?_⟩) ?_ ?_
            rotate_left
            ·
             intro w'
             go_simp
             with_reducible rfl
            rotate_left
            ·
             simp only [Act.put, sA, sZ, sU, i64_w, i32_w]
             rfl
            refine take_ (i := 0) (N := some 40) (v := ?_) (a' := ?_) #[true, true, true, true, false, false, false, false] rfl rfl (take_ofW HT_.out HW_.out (by kernel_rfl)) (fun _ _ _ h => h) (Or.inl ⟨by rfl, ?_⟩) hHeld ?_ ?_
            rotate_left
            ·
             rintro w' ⟨s0, s1, s2⟩
             first | (go_simp; with_reducible rfl) | (simp only [add_plain] at s0 s1 s2; go_simp; with_reducible rfl)
            rotate_left
            ·
             simp only [Act.put, sA, sZ, sU, i64_w, i32_w]
             rfl
            refine take_ (i := 4) (N := some 44) (v := ?_) (a' := ?_) #[true, true, true, true, true, false, false, false] rfl rfl (take_ofW HT_.out HW_.out (by kernel_rfl)) (fun _ _ _ h => h) (Or.inl ⟨by rfl, ?_⟩) hHeld ?_ ?_
            rotate_left
            ·
             rintro w' ⟨s0, s1, s2⟩
             first | (go_simp; with_reducible rfl) | (simp only [add_plain] at s0 s1 s2; go_simp; with_reducible rfl)
            rotate_left
            ·
             simp only [Act.put, sA, sZ, sU, i64_w, i32_w]
             rfl
            refine join_ (σ := Value × Value × Nat) 1 #[true, true, true, true, true, true, true, false] (fun s_ => [(45, .agg #[s_.1, s_.2.1]), (7, .pointer (some ⟨s_.2.2, 0, none⟩))]) (fun s_ w' => (w'.cell? ⟨gb249, 0, none⟩ = some (.slice (some ad256) l0_0.length c0_0) ∧ w'.cell? ⟨gb249, 1, none⟩ = some (.slice A0_1 l0_1.length c0_1) ∧ w'.cell? (ad269.add (x6_2).toNat) = some (.slice A269_0 (rd_L1 t266 x6_2).length c269_0)) ∧ (Kd.V (Kd.int .i64) 3 w' w.heap.size (fun k_ => (w.heap.size ≤ k_) ∧ some k_ ≠ (s_.1 : Value).ownBlock ∧ some k_ ≠ (s_.2.1 : Value).ownBlock ∧ some k_ ≠ (.slice (some ad269) t266.length co44 : Value).ownBlock ∧ k_ ≠ gb249 ∧ k_ ≠ s_.2.2) (.slice A269_0 (rd_L1 t266 x6_2).length c269_0) (rd_L1 t266 x6_2)) ∧ (Kd.N (Kd.slice 3 (Kd.int .i64)) 22 w' w.heap.size (fun k_ => (w.heap.size ≤ k_) ∧ some k_ ≠ (s_.2.1 : Value).ownBlock ∧ some k_ ≠ (.slice (some ad269) t266.length co44 : Value).ownBlock ∧ k_ ≠ gb249 ∧ k_ ≠ s_.2.2) s_.1 t270) ∧ (Kd.R (Kd.int .i64) 3 w' w.heap.size (fun k_ => (w.heap.size ≤ k_)) s_.2.1 t273) ∧ (Kd.N (Kd.slice 3 (Kd.int .i64)) 22 w' w.heap.size (fun k_ => (w.heap.size ≤ k_) ∧ some k_ ≠ (s_.1 : Value).ownBlock ∧ some k_ ≠ (s_.2.1 : Value).ownBlock ∧ k_ ≠ gb249 ∧ k_ ≠ s_.2.2) (.slice (some ad269) t266.length co44) t266) ∧ (w'.heap[gb249]? = some (.cells #[.slice (some ad256) l0_0.length c0_0, .slice A0_1 l0_1.length c0_1] 43 (0, 0))) ∧ (w'.heap[s_.2.2]? = some (.cells #[.slice none 0 0, .slice none 0 0] 43 (0, 0))) ∧ (w.heap.size ≤ s_.2.2) ∧ (w.heap.size ≤ s_.2.2) ∧ (gb249 ≠ s_.2.2) ∧ (s_.2.2 ≠ gb249) ∧ (Below w.heap.size w w')) ?_ ?_
            rotate_left
            ·
             intro hCont
             refine two_ (i := 5) (j := 6) (Ni := some 45) (Nj := some 7) #[true, true, true, true, true, true, false, false] #[true, true, true, true, true, false, true, false] rfl rfl rfl rfl (two_of HT_.out (by kernel_rfl)) (by decide) (by decide) (fun K hK => ?_) (fun K hK => ?_)
             ·
              skip
              refine goes_ Try.func72 (by kernel_rfl) rfl #[.agg #[.slice (some ad256) l0_0.length c0_0, .slice A0_1 l0_1.length c0_1], .slice A269_0 (rd_L1 t266 x6_2).length c269_0] (by rfl) rfl rfl xL ?_
              with_reducible refine (spec_l2Part.calls k2 _ _ l0_0 _ _ l0_1 _ _ (rd_L1 t266 x6_2) t270 t273 _ ?side1 ?side2 ?side3 ?side4 ?side5 ?side6 A21.out).mono ?_
              (case side1 => repeat (first | exact (Kd.C_below HR0_0.out HB.out) | (with_reducible refine Kd.C_alloc ?_ _) | (with_reducible refine Kd.C_drewN ?_ _) | (with_reducible refine Kd.C_drew ?_)))
              (case side2 => exact HC0_0.out)
              (case side3 => repeat (first | exact (Kd.C_below HR0_1.out HB.out) | (with_reducible refine Kd.C_alloc ?_ _) | (with_reducible refine Kd.C_drewN ?_ _) | (with_reducible refine Kd.C_drew ?_)))
              (case side4 => exact HC0_1.out)
              (case side5 => repeat (first | exact (by repeat (first | (with_reducible exact HR269_0.out) | (with_reducible refine Kd.C_alloc ?_ _) | (with_reducible refine Kd.C_drewN ?_ _) | (with_reducible refine Kd.C_drew ?_) | exact HR269_0.out)) | (with_reducible refine Kd.C_alloc ?_ _) | (with_reducible refine Kd.C_drewN ?_ _) | (with_reducible refine Kd.C_drew ?_)))
              (case side6 => exact HC269_0.out)
              rintro e w46 ⟨v271, v274, rfl, ho0, ho1, hb⟩
              have HS2_ := (hb.cell (World.block_lt_of_cell? _ _ (hHeld.2.2))).trans (hHeld.2.2)
              refine ⟨_, rfl, ?_⟩
              have n0_ := aM (Kd.N_mono (Kd.N_told (Kd.N_told (Kd.N_old (by (with_reducible repeat (first | apply Kd.N_alloc | apply Kd.N_drewN | apply Kd.N_drew)); exact HO_5.out) hb) (by first | exact Kd.N_base ho0 | exact Kd.S_base ho0 | exact Kd.R_base ho0)) (Kd.R_base ho1)) (fun _ h_ => h_.1))
              have n1_ := aM (Kd.V_mono (Kd.V_told (Kd.V_told (Kd.V_old (xV HL269_0.out) hb) (by first | exact Kd.N_base ho0 | exact Kd.S_base ho0 | exact Kd.R_base ho0)) (Kd.R_base ho1)) (fun _ h_ => h_.1))
              have n2_ := aM (Kd.N_lower (Kd.N_mono (ok' := fun k_ => (w.heap.size ≤ k_) ∧ some k_ ≠ (v274 : Value).ownBlock ∧ some k_ ≠ (.slice (some ad269) t266.length co44 : Value).ownBlock ∧ k_ ≠ gb249) (Kd.S_N (Kd.S_bound ho0)) (fun k_ hk_ => ⟨(Nat.le_trans (below_size (xG1 HB.out GE249.out)) hk_.2.1), hk_.1, (Kd.fresh' (Kd.N_lt (by (with_reducible repeat (first | apply Kd.N_alloc | apply Kd.N_drewN | apply Kd.N_drew)); exact HO_5.out)) k_ hk_.2.1), (Kd.freshB (g := gb249) (o := .cells #[.slice (some ad256) l0_0.length c0_0, .slice A0_1 l0_1.length c0_1] 43 (0, 0)) (xB BK249.out) k_ hk_.2.1)⟩)) (below_size (xG1 HB.out GE249.out)))
              have n3_ := aM (Kd.R_lower (Kd.R_newM (M := fun k_ => (w.heap.size ≤ k_)) ho1 (below_size (xG1 HB.out GE249.out)) (fun k_ h_ => h_)) (below_size (xG1 HB.out GE249.out)))
              have n4_ := aM (bB (g := gb249) (o := .cells #[.slice (some ad256) l0_0.length c0_0, .slice A0_1 l0_1.length c0_1] 43 (0, 0)) (xB BK249.out) hb)
              have n5_ := aM (Kd.C_below (by repeat (first | (with_reducible exact HR269_0.out) | (with_reducible refine Kd.C_alloc ?_ _) | (with_reducible refine Kd.C_drewN ?_ _) | (with_reducible refine Kd.C_drew ?_) | exact HR269_0.out)) hb)
              have n6_ := aM (below_step (xG1 HB.out GE249.out) hb)
              clear HO_5 HL269_0 BK249 HR269_0 HB
              have HO_5 := n0_
              have HL269_0 := n1_
              have HO272 := n2_
              have HO275 := n3_
              have BK249 := n4_
              have HR269_0 := n5_
              have HB := n6_
              clear n0_ n1_ n2_ n3_ n4_ n5_ n6_
              (try clear hb)
              (try clear hb2)
              (try clear hk)
              (try clear hi)
              (try clear ho0)
              (try clear ho1)
              refine hK.out _ _ ⟨(bC BK249.out 0).trans rfl, (bC BK249.out 1).trans rfl, HS2_⟩ (fun hHeld => ?_)
              clear hK K
              refine norm_ (a' := ?_) ?_ ?_
              rotate_left
              ·
               show Act.put _ (some 45) _ = _
               simp only [Act.put, sA, sZ, sU, i64_w, i32_w]
               rfl
              refine one_ (i := 6) (N := some 7) #[true, true, true, true, true, true, true, false] rfl rfl (one_of HT_.out (by kernel_rfl)) (by decide) (fun K hK => ?_)
              refine box_step ?hg (N := 7) ?hd (cs := #[.slice none 0 0, .slice none 0 0]) (t := 43) ?hr ?_; (case hd => rfl); (case hg => rfl); (case hr => first | (go_simp; done) | (go_simp; rfl))
              intro gb276 hg w47 hbox hb
              have HS2_ := (hb.cell (World.block_lt_of_cell? _ _ (hHeld.2.2))).trans (hHeld.2.2)
              have n0_ := aM (Kd.N_below (Kd.N_elderB (by (with_reducible repeat (first | apply Kd.N_alloc | apply Kd.N_drewN | apply Kd.N_drew)); exact HO_5.out) gb276 (Nat.le_of_eq hg.symm)) hb)
              have n1_ := aM (Kd.V_below (Kd.V_elderB (xV HL269_0.out) gb276 (Nat.le_of_eq hg.symm)) hb)
              have n2_ := aM (Kd.N_below (Kd.N_elderB (by (with_reducible repeat (first | apply Kd.N_alloc | apply Kd.N_drewN | apply Kd.N_drew)); exact HO272.out) gb276 (Nat.le_of_eq hg.symm)) hb)
              have n3_ := aM (Kd.R_below (xR HO275.out) hb)
              have n4_ := aM (bB (g := gb249) (o := .cells #[.slice (some ad256) l0_0.length c0_0, .slice A0_1 l0_1.length c0_1] 43 (0, 0)) (xB BK249.out) hb)
              have n5_ := aM (Kd.C_below (by repeat (first | (with_reducible exact HR269_0.out) | (with_reducible refine Kd.C_alloc ?_ _) | (with_reducible refine Kd.C_drewN ?_ _) | (with_reducible refine Kd.C_drew ?_) | exact HR269_0.out)) hb)
              have n6_ := aM (below_step (xG1 HB.out GE249.out) hb)
              have n7_ := aM (hbox)
              have n8_ := aM ((by rw [hg]; exact (below_size (xG1 HB.out GE249.out)) : w.heap.size ≤ gb276))
              have n9_ := aM ((by rw [hg]; exact (below_size (xG1 HB.out GE249.out)) : w.heap.size ≤ gb276))
              have n10_ := aM ((by rw [hg]; exact Nat.ne_of_lt (blk_lt (g := gb249) (o := .cells #[.slice (some ad256) l0_0.length c0_0, .slice A0_1 l0_1.length c0_1] 43 (0, 0)) (xB BK249.out)) : gb249 ≠ gb276))
              have n11_ := aM ((by rw [hg]; exact Nat.ne_of_gt (blk_lt (g := gb249) (o := .cells #[.slice (some ad256) l0_0.length c0_0, .slice A0_1 l0_1.length c0_1] 43 (0, 0)) (xB BK249.out)) : gb276 ≠ gb249))
              clear HO_5 HL269_0 HO272 HO275 BK249 HR269_0 HB
              have HO_5 := n0_
              have HL269_0 := n1_
              have HO272 := n2_
              have HO275 := n3_
              have BK249 := n4_
              have HR269_0 := n5_
              have HB := n6_
              have BK276 := n7_
              have GW276 := n8_
              have GE276 := n9_
              have NB249_276 := n10_
              have NB276_249 := n11_
              clear n0_ n1_ n2_ n3_ n4_ n5_ n6_ n7_ n8_ n9_ n10_ n11_ hb hbox hg
              refine hK.out _ _ ⟨(bC BK249.out 0).trans rfl, (bC BK249.out 1).trans rfl, HS2_⟩ (fun hHeld => ?_)
              clear hK K
              refine norm_ (a' := ?_) ?_ ?_
              rotate_left
              ·
               show Act.put _ (some 7) _ = _
               simp only [Act.put, sA, sZ, sU, i64_w, i32_w]
               rfl
              exact norm_ (by simp only [putAll, Act.put, sA, sZ, sU]) (hCont (v271, v274, gb276) _ ⟨hHeld, (by (with_reducible repeat (first | apply Kd.V_alloc | apply Kd.V_drewN | apply Kd.V_drew)); exact Kd.V_mono HL269_0.out (fun _ hk => ⟨hk.1.1.1.1.1, ⟨hk.1.1.2, ⟨hk.1.2, ⟨hk.1.1.1.2, ⟨hk.1.1.1.1.2, hk.2⟩⟩⟩⟩⟩)), (by (with_reducible repeat (first | apply Kd.N_alloc | apply Kd.N_drewN | apply Kd.N_drew)); exact Kd.N_mono HO272.out (fun _ hk => ⟨hk.1.1, ⟨hk.1.2.1, ⟨hk.1.2.2.1, ⟨hk.1.2.2.2, hk.2⟩⟩⟩⟩)), (by (with_reducible repeat (first | apply rA | apply rN | apply rD)); exact rM HO275.out (fun _ hk => hk.1)), (by (with_reducible repeat (first | apply Kd.N_alloc | apply Kd.N_drewN | apply Kd.N_drew)); exact Kd.N_mono HO_5.out (fun _ hk => ⟨hk.1.1.1.1, ⟨hk.1.1.2, ⟨hk.1.2, ⟨hk.1.1.1.2, hk.2⟩⟩⟩⟩)), (xB BK249.out), (xB BK276.out), GW276.out, GE276.out, NB249_276.out, NB276_249.out, (xG2 HB.out GE249.out GE276.out)⟩)
             ·
              skip
              refine box_step ?hg (N := 7) ?hd (cs := #[.slice none 0 0, .slice none 0 0]) (t := 43) ?hr ?_; (case hd => rfl); (case hg => rfl); (case hr => first | (go_simp; done) | (go_simp; rfl))
              intro gb276 hg w46 hbox hb
              have HS2_ := (hb.cell (World.block_lt_of_cell? _ _ (hHeld.2.2))).trans (hHeld.2.2)
              have n0_ := aM (Kd.N_below (Kd.N_elderB (by (with_reducible repeat (first | apply Kd.N_alloc | apply Kd.N_drewN | apply Kd.N_drew)); exact HO_5.out) gb276 (Nat.le_of_eq hg.symm)) hb)
              have n1_ := aM (Kd.V_below (Kd.V_elderB (xV HL269_0.out) gb276 (Nat.le_of_eq hg.symm)) hb)
              have n2_ := aM (bB (g := gb249) (o := .cells #[.slice (some ad256) l0_0.length c0_0, .slice A0_1 l0_1.length c0_1] 43 (0, 0)) (xB BK249.out) hb)
              have n3_ := aM (Kd.C_below (by repeat (first | (with_reducible exact HR269_0.out) | (with_reducible refine Kd.C_alloc ?_ _) | (with_reducible refine Kd.C_drewN ?_ _) | (with_reducible refine Kd.C_drew ?_) | exact HR269_0.out)) hb)
              have n4_ := aM (below_step (xG1 HB.out GE249.out) hb)
              have n5_ := aM (hbox)
              have n6_ := aM ((by rw [hg]; exact (below_size (xG1 HB.out GE249.out)) : w.heap.size ≤ gb276))
              have n7_ := aM ((by rw [hg]; exact (below_size (xG1 HB.out GE249.out)) : w.heap.size ≤ gb276))
              have n8_ := aM ((by rw [hg]; exact Nat.ne_of_lt (blk_lt (g := gb249) (o := .cells #[.slice (some ad256) l0_0.length c0_0, .slice A0_1 l0_1.length c0_1] 43 (0, 0)) (xB BK249.out)) : gb249 ≠ gb276))
              have n9_ := aM ((by rw [hg]; exact Nat.ne_of_gt (blk_lt (g := gb249) (o := .cells #[.slice (some ad256) l0_0.length c0_0, .slice A0_1 l0_1.length c0_1] 43 (0, 0)) (xB BK249.out)) : gb276 ≠ gb249))
              clear HO_5 HL269_0 BK249 HR269_0 HB
              have HO_5 := n0_
              have HL269_0 := n1_
              have BK249 := n2_
              have HR269_0 := n3_
              have HB := n4_
              have BK276 := n5_
              have GW276 := n6_
              have GE276 := n7_
              have NB249_276 := n8_
              have NB276_249 := n9_
              clear n0_ n1_ n2_ n3_ n4_ n5_ n6_ n7_ n8_ n9_ hb hbox hg
              refine hK.out _ _ ⟨(bC BK249.out 0).trans rfl, (bC BK249.out 1).trans rfl, HS2_⟩ (fun hHeld => ?_)
              clear hK K
              refine norm_ (a' := ?_) ?_ ?_
              rotate_left
              ·
               show Act.put _ (some 7) _ = _
               simp only [Act.put, sA, sZ, sU, i64_w, i32_w]
               rfl
              refine one_ (i := 5) (N := some 45) #[true, true, true, true, true, true, true, false] rfl rfl (one_of HT_.out (by kernel_rfl)) (by decide) (fun K hK => ?_)
              refine goes_ Try.func72 (by kernel_rfl) rfl #[.agg #[.slice (some ad256) l0_0.length c0_0, .slice A0_1 l0_1.length c0_1], .slice A269_0 (rd_L1 t266 x6_2).length c269_0] (by rfl) rfl rfl xL ?_
              with_reducible refine (spec_l2Part.calls k2 _ _ l0_0 _ _ l0_1 _ _ (rd_L1 t266 x6_2) t270 t273 _ ?side1 ?side2 ?side3 ?side4 ?side5 ?side6 A21.out).mono ?_
              (case side1 => repeat (first | exact (Kd.C_below HR0_0.out HB.out) | (with_reducible refine Kd.C_alloc ?_ _) | (with_reducible refine Kd.C_drewN ?_ _) | (with_reducible refine Kd.C_drew ?_)))
              (case side2 => exact HC0_0.out)
              (case side3 => repeat (first | exact (Kd.C_below HR0_1.out HB.out) | (with_reducible refine Kd.C_alloc ?_ _) | (with_reducible refine Kd.C_drewN ?_ _) | (with_reducible refine Kd.C_drew ?_)))
              (case side4 => exact HC0_1.out)
              (case side5 => repeat (first | exact (by repeat (first | (with_reducible exact HR269_0.out) | (with_reducible refine Kd.C_alloc ?_ _) | (with_reducible refine Kd.C_drewN ?_ _) | (with_reducible refine Kd.C_drew ?_) | exact HR269_0.out)) | (with_reducible refine Kd.C_alloc ?_ _) | (with_reducible refine Kd.C_drewN ?_ _) | (with_reducible refine Kd.C_drew ?_)))
              (case side6 => exact HC269_0.out)
              rintro e w47 ⟨v271, v274, rfl, ho0, ho1, hb⟩
              have HS2_ := (hb.cell (World.block_lt_of_cell? _ _ (hHeld.2.2))).trans (hHeld.2.2)
              refine ⟨_, rfl, ?_⟩
              have n0_ := aM (Kd.N_mono (Kd.N_told (Kd.N_told (Kd.N_old (by (with_reducible repeat (first | apply Kd.N_alloc | apply Kd.N_drewN | apply Kd.N_drew)); exact HO_5.out) hb) (by first | exact Kd.N_base ho0 | exact Kd.S_base ho0 | exact Kd.R_base ho0)) (Kd.R_base ho1)) (fun _ h_ => h_.1))
              have n1_ := aM (Kd.V_mono (Kd.V_told (Kd.V_told (Kd.V_old (xV HL269_0.out) hb) (by first | exact Kd.N_base ho0 | exact Kd.S_base ho0 | exact Kd.R_base ho0)) (Kd.R_base ho1)) (fun _ h_ => h_.1))
              have n2_ := aM (Kd.N_lower (Kd.N_mono (ok' := fun k_ => (w.heap.size ≤ k_) ∧ some k_ ≠ (v274 : Value).ownBlock ∧ some k_ ≠ (.slice (some ad269) t266.length co44 : Value).ownBlock ∧ k_ ≠ gb249 ∧ k_ ≠ gb276) (Kd.S_N (Kd.S_bound ho0)) (fun k_ hk_ => ⟨(Nat.le_trans (below_size (xG2 HB.out GE249.out GE276.out)) hk_.2.1), hk_.1, (Kd.fresh' (Kd.N_lt (by (with_reducible repeat (first | apply Kd.N_alloc | apply Kd.N_drewN | apply Kd.N_drew)); exact HO_5.out)) k_ hk_.2.1), (Kd.freshB (g := gb249) (o := .cells #[.slice (some ad256) l0_0.length c0_0, .slice A0_1 l0_1.length c0_1] 43 (0, 0)) (xB BK249.out) k_ hk_.2.1), (Kd.freshB (g := gb276) (o := .cells #[.slice none 0 0, .slice none 0 0] 43 (0, 0)) (xB BK276.out) k_ hk_.2.1)⟩)) (below_size (xG2 HB.out GE249.out GE276.out)))
              have n3_ := aM (Kd.R_lower (Kd.R_newM (M := fun k_ => (w.heap.size ≤ k_)) ho1 (below_size (xG2 HB.out GE249.out GE276.out)) (fun k_ h_ => h_)) (below_size (xG2 HB.out GE249.out GE276.out)))
              have n4_ := aM (bB (g := gb249) (o := .cells #[.slice (some ad256) l0_0.length c0_0, .slice A0_1 l0_1.length c0_1] 43 (0, 0)) (xB BK249.out) hb)
              have n5_ := aM (Kd.C_below (by repeat (first | (with_reducible exact HR269_0.out) | (with_reducible refine Kd.C_alloc ?_ _) | (with_reducible refine Kd.C_drewN ?_ _) | (with_reducible refine Kd.C_drew ?_) | exact HR269_0.out)) hb)
              have n6_ := aM (bB (g := gb276) (o := .cells #[.slice none 0 0, .slice none 0 0] 43 (0, 0)) (xB BK276.out) hb)
              have n7_ := aM (below_step (xG2 HB.out GE249.out GE276.out) hb)
              clear HO_5 HL269_0 BK249 HR269_0 BK276 HB
              have HO_5 := n0_
              have HL269_0 := n1_
              have HO272 := n2_
              have HO275 := n3_
              have BK249 := n4_
              have HR269_0 := n5_
              have BK276 := n6_
              have HB := n7_
              clear n0_ n1_ n2_ n3_ n4_ n5_ n6_ n7_
              (try clear hb)
              (try clear hb2)
              (try clear hk)
              (try clear hi)
              (try clear ho0)
              (try clear ho1)
              refine hK.out _ _ ⟨(bC BK249.out 0).trans rfl, (bC BK249.out 1).trans rfl, HS2_⟩ (fun hHeld => ?_)
              clear hK K
              refine norm_ (a' := ?_) ?_ ?_
              rotate_left
              ·
               show Act.put _ (some 45) _ = _
               simp only [Act.put, sA, sZ, sU, i64_w, i32_w]
               rfl
              exact norm_ (by simp only [putAll, Act.put, sA, sZ, sU]) (hCont (v271, v274, gb276) _ ⟨hHeld, (by (with_reducible repeat (first | apply Kd.V_alloc | apply Kd.V_drewN | apply Kd.V_drew)); exact Kd.V_mono HL269_0.out (fun _ hk => ⟨hk.1.1.1.1.1, ⟨hk.1.2, ⟨hk.2, ⟨hk.1.1.1.2, ⟨hk.1.1.1.1.2, hk.1.1.2⟩⟩⟩⟩⟩)), (by (with_reducible repeat (first | apply Kd.N_alloc | apply Kd.N_drewN | apply Kd.N_drew)); exact HO272.out), (by (with_reducible repeat (first | apply rA | apply rN | apply rD)); exact rM HO275.out (fun _ hk => hk.1)), (by (with_reducible repeat (first | apply Kd.N_alloc | apply Kd.N_drewN | apply Kd.N_drew)); exact Kd.N_mono HO_5.out (fun _ hk => ⟨hk.1.1.1.1, ⟨hk.1.2, ⟨hk.2, ⟨hk.1.1.1.2, hk.1.1.2⟩⟩⟩⟩)), (xB BK249.out), (xB BK276.out), GW276.out, GE276.out, NB249_276.out, NB276_249.out, (xG2 HB.out GE249.out GE276.out)⟩)
            rintro ⟨v271, v274, gb276⟩ w48 ⟨hS_, h0_, h1_, h2_, h3_, h4_, h5_, h6_, h7_, h8_, h9_, h10_⟩
            have n0_ : Aside0 (Kd.V (Kd.int .i64) 3 w48 w.heap.size (fun k_ => (w.heap.size ≤ k_) ∧ some k_ ≠ (v271 : Value).ownBlock ∧ some k_ ≠ (v274 : Value).ownBlock ∧ some k_ ≠ (.slice (some ad269) t266.length co44 : Value).ownBlock ∧ k_ ≠ gb249 ∧ k_ ≠ gb276) (.slice A269_0 (rd_L1 t266 x6_2).length c269_0) (rd_L1 t266 x6_2)) := ⟨h0_⟩
            have n1_ : Aside0 (Kd.N (Kd.slice 3 (Kd.int .i64)) 22 w48 w.heap.size (fun k_ => (w.heap.size ≤ k_) ∧ some k_ ≠ (v274 : Value).ownBlock ∧ some k_ ≠ (.slice (some ad269) t266.length co44 : Value).ownBlock ∧ k_ ≠ gb249 ∧ k_ ≠ gb276) v271 t270) := ⟨h1_⟩
            have n2_ : Aside0 (Kd.R (Kd.int .i64) 3 w48 w.heap.size (fun k_ => (w.heap.size ≤ k_)) v274 t273) := ⟨h2_⟩
            have n3_ : Aside0 (Kd.N (Kd.slice 3 (Kd.int .i64)) 22 w48 w.heap.size (fun k_ => (w.heap.size ≤ k_) ∧ some k_ ≠ (v271 : Value).ownBlock ∧ some k_ ≠ (v274 : Value).ownBlock ∧ k_ ≠ gb249 ∧ k_ ≠ gb276) (.slice (some ad269) t266.length co44) t266) := ⟨h3_⟩
            have n4_ : Aside0 (w48.heap[gb249]? = some (.cells #[.slice (some ad256) l0_0.length c0_0, .slice A0_1 l0_1.length c0_1] 43 (0, 0))) := ⟨h4_⟩
            have n5_ : Aside0 (w48.heap[gb276]? = some (.cells #[.slice none 0 0, .slice none 0 0] 43 (0, 0))) := ⟨h5_⟩
            have n6_ : Aside0 (w.heap.size ≤ gb276) := ⟨h6_⟩
            have n7_ : Aside0 (w.heap.size ≤ gb276) := ⟨h7_⟩
            have n8_ : Aside0 (gb249 ≠ gb276) := ⟨h8_⟩
            have n9_ : Aside0 (gb276 ≠ gb249) := ⟨h9_⟩
            have n10_ : Aside0 (Below w.heap.size w w48) := ⟨h10_⟩
            clear HO_5 BK249 HB h0_ h1_ h2_ h3_ h4_ h5_ h6_ h7_ h8_ h9_ h10_
            have HL269_0 := n0_
            have HO272 := n1_
            have HO275 := n2_
            have HO_5 := n3_
            have BK249 := n4_
            have BK276 := n5_
            have GW276 := n6_
            have GE276 := n7_
            have NB249_276 := n8_
            have NB276_249 := n9_
            have HB := n10_
            clear n0_ n1_ n2_ n3_ n4_ n5_ n6_ n7_ n8_ n9_ n10_
            have hHeld : w48.cell? ⟨gb249, 0, none⟩ = some (.slice (some ad256) l0_0.length c0_0) ∧ w48.cell? ⟨gb249, 1, none⟩ = some (.slice A0_1 l0_1.length c0_1) ∧ w48.cell? (ad269.add (x6_2).toNat) = some (.slice A269_0 (rd_L1 t266 x6_2).length c269_0) := hS_
            obtain ⟨Ao49, co49, eo49⟩ := Kd.N_slice HO272.out
            (first | subst eo49 | (injection eo49 with f1_ f2_ f3_; have f4_ := f1_.symm; have f5_ := f3_.symm; clear f1_ f2_ f3_; subst f4_; subst f5_))
            obtain ⟨Ao51, co51, eo51⟩ := Kd.R_slice HO275.out
            (first | subst eo51 | (injection eo51 with f1_ f2_ f3_; have f4_ := f1_.symm; have f5_ := f3_.symm; clear f1_ f2_ f3_; subst f4_; subst f5_))
            refine norm_ (a' := ?_) ?_ ?_
            rotate_left
            ·
             simp only [putAll, Act.put, sA, sZ, sU]
             rfl
            refine one_ (i := 7) (N := none) #[true, true, true, true, true, true, true, true] rfl rfl (one_of HT_.out (by kernel_rfl)) (by decide) (fun K hK => ?_)
            have hs50 : w48.cell? ⟨gb276, 0, none⟩ = some (.slice none 0 0) := (bC BK276.out 0).trans rfl
            have hfs50 := bF BK276.out 0
            have hns50_0 := NB249_276.out
            have hms50_0 := NB276_249.out
            have hs52 : w48.cell? ⟨gb276, 1, none⟩ = some (.slice none 0 0) := (bC BK276.out 1).trans rfl
            have hfs52 := bF BK276.out 1
            have hns52_0 := NB249_276.out
            have hms52_0 := NB276_249.out
            refine skip_ (w1 := ?_) (by rfl) rfl ?_ ?_
            rotate_left
            ·
             go_simp
             rfl
            refine hK.out _ _ ⟨((cell_far (p := ⟨gb276, _, none⟩) NB249_276.out _).trans (((cell_far (p := ⟨gb276, _, none⟩) NB249_276.out _).trans (hHeld.1)))), ((cell_far (p := ⟨gb276, _, none⟩) NB249_276.out _).trans (((cell_far (p := ⟨gb276, _, none⟩) NB249_276.out _).trans (hHeld.2.1)))), ((cell_far (p := ⟨gb276, _, none⟩) (by first | exact Kd.own_blk (Kd.N_away HO_5.out (fun _ hk => hk.2.2.2.2)) | (rw [add_block]; exact Kd.own_blk (Kd.N_away HO_5.out (fun _ hk => hk.2.2.2.2))) | (show (Addr.add _ _).block ≠ _; rw [add_block]; exact Kd.own_blk (Kd.N_away HO_5.out (fun _ hk => hk.2.2.2.2))) | (dsimp only; exact Kd.own_blk (Kd.N_away HO_5.out (fun _ hk => hk.2.2.2.2)))) _).trans (((cell_far (p := ⟨gb276, _, none⟩) (by first | exact Kd.own_blk (Kd.N_away HO_5.out (fun _ hk => hk.2.2.2.2)) | (rw [add_block]; exact Kd.own_blk (Kd.N_away HO_5.out (fun _ hk => hk.2.2.2.2))) | (show (Addr.add _ _).block ≠ _; rw [add_block]; exact Kd.own_blk (Kd.N_away HO_5.out (fun _ hk => hk.2.2.2.2))) | (dsimp only; exact Kd.own_blk (Kd.N_away HO_5.out (fun _ hk => hk.2.2.2.2)))) _).trans (hHeld.2.2))))⟩ (fun hHeld => ?_)
            clear hK K
            refine done_ (done_of HT_.out (by kernel_rfl)) ?_
            have hnb53 := NB276_249.out
            have hnc53 := NB249_276.out
            have hcz54_0 : w48.cell? ⟨gb276, 0, none⟩ = some (.slice none 0 0) := (bC BK276.out 0).trans rfl
            have hcz54_1 : w48.cell? ⟨gb276, 1, none⟩ = some (.slice none 0 0) := (bC BK276.out 1).trans rfl
            have hfz54_0 := bF BK276.out 0
            have hfz54_1 := bF BK276.out 1
            try go_wp2_with (first | ((with_reducible refine gate_callee (f := 74) rfl ?_); refine goesL_ (some 49) rfl rfl Try.func74 (by kernel_rfl) rfl #[.slice Ao49 t270.length co49] rfl xL ?_; (with_reducible refine (spec_l4Equations.calls k2 _ _ t270 t277 _ ?side1 ?side2 A22.out).mono ?_); (case side1 => refine (Kd.N_reads' (e := 22) (base := w.heap.size) (ok := fun k_ => ((w.heap.size ≤ k_) ∧ (some k_ ≠ (.slice Ao51 t273.length co51 : Value).ownBlock ∧ (some k_ ≠ (.slice (some ad269) t266.length co44 : Value).ownBlock ∧ (k_ ≠ gb249 ∧ k_ ≠ gb276))))) (n := t270.length) (c := co49) ?_).2.2; exact (by (with_reducible repeat (first | apply Kd.N_alloc | apply Kd.N_drewN | apply Kd.N_drew)); exact (Kd.N_mono (Kd.N_far (p := ⟨gb276, 1, none⟩) (Kd.N_far (p := ⟨gb276, 0, none⟩) (Kd.N_mono HO272.out (fun k_ hk => (⟨hk, hk.2.2.2.2⟩ : _ ∧ k_ ≠ gb276))) (fun _ hk => hk.2) (.slice Ao49 t270.length co49)) (fun _ hk => hk.2) (.slice Ao51 t273.length co51)) (fun _ h_ => h_.1)))); (case side2 => exact (Kd.N_reads' HO272.out).2.1); rintro e w55 ⟨v278, rfl, ho0, hb⟩; refine ⟨_, rfl, ?_⟩; replace HL269_0 := aM (Kd.V_elder' (by (with_reducible repeat (first | apply Kd.V_alloc | apply Kd.V_drewN | apply Kd.V_drew)); exact (Kd.V_mono (Kd.V_far (p := ⟨gb276, 1, none⟩) (Kd.V_far (p := ⟨gb276, 0, none⟩) (Kd.V_mono HL269_0.out (fun k_ hk => (⟨hk, hk.2.2.2.2.2⟩ : _ ∧ k_ ≠ gb276))) (fun _ hk => hk.2) (.slice Ao49 t270.length co49)) (fun _ hk => hk.2) (.slice Ao51 t273.length co51)) (fun _ h_ => h_.1))) (by first | exact Kd.N_base ho0 | exact Kd.S_base ho0 | exact Kd.R_base ho0) hb); have HO279 := aM (Kd.N_lower (Kd.N_mono (ok' := fun k_ => (w.heap.size ≤ k_) ∧ some k_ ≠ (.slice (some ad269) t266.length co44 : Value).ownBlock ∧ some k_ ≠ (.slice Ao49 t270.length co49 : Value).ownBlock ∧ some k_ ≠ (.slice Ao51 t273.length co51 : Value).ownBlock ∧ k_ ≠ gb249 ∧ k_ ≠ gb276) (Kd.S_N (Kd.S_bound ho0)) (fun k_ hk_ => ⟨(Nat.le_trans (below_size (xG2 HB.out GE249.out GE276.out)) hk_.2.1), (Kd.fresh' (Kd.N_lt (by (with_reducible repeat (first | apply Kd.N_alloc | apply Kd.N_drewN | apply Kd.N_drew)); exact (Kd.N_mono (Kd.N_far (p := ⟨gb276, 1, none⟩) (Kd.N_far (p := ⟨gb276, 0, none⟩) (Kd.N_mono HO_5.out (fun k_ hk => (⟨hk, hk.2.2.2.2⟩ : _ ∧ k_ ≠ gb276))) (fun _ hk => hk.2) (.slice Ao49 t270.length co49)) (fun _ hk => hk.2) (.slice Ao51 t273.length co51)) (fun _ h_ => h_.1)))) k_ hk_.2.1), (Kd.fresh' (Kd.N_lt (by (with_reducible repeat (first | apply Kd.N_alloc | apply Kd.N_drewN | apply Kd.N_drew)); exact (Kd.N_mono (Kd.N_far (p := ⟨gb276, 1, none⟩) (Kd.N_far (p := ⟨gb276, 0, none⟩) (Kd.N_mono HO272.out (fun k_ hk => (⟨hk, hk.2.2.2.2⟩ : _ ∧ k_ ≠ gb276))) (fun _ hk => hk.2) (.slice Ao49 t270.length co49)) (fun _ hk => hk.2) (.slice Ao51 t273.length co51)) (fun _ h_ => h_.1)))) k_ hk_.2.1), (Kd.fresh' (Kd.R_lt (by (with_reducible repeat (first | apply rA | apply rN | apply rD)); exact (rM (Kd.R_far (p := ⟨gb276, 1, none⟩) (Kd.R_far (p := ⟨gb276, 0, none⟩) (Kd.R_types HO275.out BK276.out (by decide)) (fun _ hk => hk.2) (.slice Ao49 t270.length co49)) (fun _ hk => hk.2) (.slice Ao51 t273.length co51)) (fun _ h_ => h_.1)))) k_ hk_.2.1), (Kd.freshB (g := gb249) (o := .cells #[.slice (some ad256) l0_0.length c0_0, .slice A0_1 l0_1.length c0_1] 43 (0, 0)) (by (with_reducible repeat (first | refine bN ?_ _ | refine bD ?_ | refine bA ?_ _)); refine blk_far ?_ NB249_276.out _; (with_reducible repeat (first | refine bN ?_ _ | refine bD ?_ | refine bA ?_ _)); refine blk_far ?_ NB249_276.out _; (with_reducible repeat (first | refine bN ?_ _ | refine bD ?_ | refine bA ?_ _)); exact BK249.out) k_ hk_.2.1), (Kd.freshB (g := gb276) (o := .cells #[.slice Ao49 t270.length co49, .slice Ao51 t273.length co51] 43 (0, 0)) (by (with_reducible repeat (first | refine bN ?_ _ | refine bD ?_ | refine bA ?_ _)); refine blk_put (cs := #[.slice Ao49 t270.length co49, .slice none 0 0]) ?_ 1 _ rfl; (with_reducible repeat (first | refine bN ?_ _ | refine bD ?_ | refine bA ?_ _)); refine blk_put (cs := #[.slice none 0 0, .slice none 0 0]) ?_ 0 _ rfl; (with_reducible repeat (first | refine bN ?_ _ | refine bD ?_ | refine bA ?_ _)); exact BK276.out) k_ hk_.2.1)⟩)) (below_size (xG2 HB.out GE249.out GE276.out))); replace HO_5 := aM (Kd.N_elder' (by (with_reducible repeat (first | apply Kd.N_alloc | apply Kd.N_drewN | apply Kd.N_drew)); exact (Kd.N_mono (Kd.N_far (p := ⟨gb276, 1, none⟩) (Kd.N_far (p := ⟨gb276, 0, none⟩) (Kd.N_mono HO_5.out (fun k_ hk => (⟨hk, hk.2.2.2.2⟩ : _ ∧ k_ ≠ gb276))) (fun _ hk => hk.2) (.slice Ao49 t270.length co49)) (fun _ hk => hk.2) (.slice Ao51 t273.length co51)) (fun _ h_ => h_.1))) (by first | exact Kd.N_base ho0 | exact Kd.S_base ho0 | exact Kd.R_base ho0) hb); replace HO272 := aM (Kd.N_elder' (by (with_reducible repeat (first | apply Kd.N_alloc | apply Kd.N_drewN | apply Kd.N_drew)); exact (Kd.N_mono (Kd.N_far (p := ⟨gb276, 1, none⟩) (Kd.N_far (p := ⟨gb276, 0, none⟩) (Kd.N_mono HO272.out (fun k_ hk => (⟨hk, hk.2.2.2.2⟩ : _ ∧ k_ ≠ gb276))) (fun _ hk => hk.2) (.slice Ao49 t270.length co49)) (fun _ hk => hk.2) (.slice Ao51 t273.length co51)) (fun _ h_ => h_.1))) (by first | exact Kd.N_base ho0 | exact Kd.S_base ho0 | exact Kd.R_base ho0) hb); replace HO275 := aM (Kd.R_below (by (with_reducible repeat (first | apply rA | apply rN | apply rD)); exact (rM (Kd.R_far (p := ⟨gb276, 1, none⟩) (Kd.R_far (p := ⟨gb276, 0, none⟩) (Kd.R_types HO275.out BK276.out (by decide)) (fun _ hk => hk.2) (.slice Ao49 t270.length co49)) (fun _ hk => hk.2) (.slice Ao51 t273.length co51)) (fun _ h_ => h_.1))) hb); replace BK249 := aM (bB (g := gb249) (o := .cells #[.slice (some ad256) l0_0.length c0_0, .slice A0_1 l0_1.length c0_1] 43 (0, 0)) (by (with_reducible repeat (first | refine bN ?_ _ | refine bD ?_ | refine bA ?_ _)); refine blk_far ?_ NB249_276.out _; (with_reducible repeat (first | refine bN ?_ _ | refine bD ?_ | refine bA ?_ _)); refine blk_far ?_ NB249_276.out _; (with_reducible repeat (first | refine bN ?_ _ | refine bD ?_ | refine bA ?_ _)); exact BK249.out) hb); replace BK276 := aM (bB (g := gb276) (o := .cells #[.slice Ao49 t270.length co49, .slice Ao51 t273.length co51] 43 (0, 0)) (by (with_reducible repeat (first | refine bN ?_ _ | refine bD ?_ | refine bA ?_ _)); refine blk_put (cs := #[.slice Ao49 t270.length co49, .slice none 0 0]) ?_ 1 _ rfl; (with_reducible repeat (first | refine bN ?_ _ | refine bD ?_ | refine bA ?_ _)); refine blk_put (cs := #[.slice none 0 0, .slice none 0 0]) ?_ 0 _ rfl; (with_reducible repeat (first | refine bN ?_ _ | refine bD ?_ | refine bA ?_ _)); exact BK276.out) hb); replace HB := aM (below_step (xG2 HB.out GE249.out GE276.out) hb); (try clear hb; try clear hb2; try clear hk; try clear hi; try clear ho0); obtain ⟨Ao56, co56, eo56⟩ := Kd.N_slice HO279.out; subst eo56) | ((with_reducible refine gate_callee (f := 73) rfl ?_); refine goesL_ (some 51) rfl rfl Try.func73 (by kernel_rfl) rfl #[.slice Ao56 t277.length co56, .int .i64 x4_1] rfl xL ?_; (with_reducible refine (spec_l4Relation.calls k2 _ _ t277 x4_1 t280 true _ ?side1 ?side2 A23.out).mono ?_); (case side1 => repeat (first | exact (Kd.N_reads' HO279.out).2.2 | (with_reducible refine Kd.C_alloc ?_ _) | (with_reducible refine Kd.C_drewN ?_ _) | (with_reducible refine Kd.C_drew ?_))); (case side2 => exact (Kd.N_reads' HO279.out).2.1); rintro e w57 ⟨v282, rfl, ho0, hb⟩; refine ⟨_, rfl, ?_⟩; replace HO_5 := aM (Kd.N_elder' (by (with_reducible repeat (first | apply Kd.N_alloc | apply Kd.N_drewN | apply Kd.N_drew)); exact HO_5.out) (Kd.R_base ho0) hb); replace HL269_0 := aM (Kd.V_elder' (xV HL269_0.out) (Kd.R_base ho0) hb); replace HO272 := aM (Kd.N_elder' (by (with_reducible repeat (first | apply Kd.N_alloc | apply Kd.N_drewN | apply Kd.N_drew)); exact HO272.out) (Kd.R_base ho0) hb); replace HO279 := aM (Kd.N_elder' (by (with_reducible repeat (first | apply Kd.N_alloc | apply Kd.N_drewN | apply Kd.N_drew)); exact HO279.out) (Kd.R_base ho0) hb); have HO283 := aM (Kd.R_lower (Kd.R_new' (Kd.R_newM (M := fun k_ => (w.heap.size ≤ k_)) ho0 (below_size (xG2 HB.out GE249.out GE276.out)) (fun k_ h_ => h_)) (Kd.R_lt (xR HO275.out))) (below_size (xG2 HB.out GE249.out GE276.out))); replace HO275 := aM (Kd.R_elder' (xR HO275.out) (Kd.R_base ho0) hb); replace BK249 := aM (bB (g := gb249) (o := .cells #[.slice (some ad256) l0_0.length c0_0, .slice A0_1 l0_1.length c0_1] 43 (0, 0)) (xB BK249.out) hb); replace BK276 := aM (bB (g := gb276) (o := .cells #[.slice Ao49 t270.length co49, .slice Ao51 t273.length co51] 43 (0, 0)) (xB BK276.out) hb); replace HB := aM (below_step (xG2 HB.out GE249.out GE276.out) hb); (try clear hb; try clear hb2; try clear hk; try clear hi; try clear ho0); have hcz58_0 : w57.cell? ⟨gb276, 0, none⟩ = some (.slice Ao49 t270.length co49) := (bC BK276.out 0).trans rfl; have hcz58_1 : w57.cell? ⟨gb276, 1, none⟩ = some (.slice Ao51 t273.length co51) := (bC BK276.out 1).trans rfl; have hfz58_0 := bF BK276.out 0; have hfz58_1 := bF BK276.out 1; obtain ⟨Ao59, co59, eo59⟩ := Kd.R_slice HO283.out; subst eo59) | ((with_reducible refine gate_callee (f := 75) rfl ?_); refine goesL_ (some 60) rfl rfl Try.func75 (by kernel_rfl) rfl #[.slice Ao59 t280.length co59, .slice Ao51 t273.length co51] rfl xL ?_; (with_reducible refine (spec_l4Signs.calls k2 _ _ t280 _ _ t273 t284 false _ ?side1 ?side2 ?side3 ?side4 A25.out).mono ?_); (case side1 => exact xC (Kd.R_reads' HO283.out).2.2); (case side2 => exact (Kd.R_reads' HO283.out).2.1); (case side3 => exact xC (Kd.R_reads' HO275.out).2.2); (case side4 => exact (Kd.R_reads' HO275.out).2.1); rintro e w60 ⟨v286, rfl, ho0, hb⟩; refine ⟨_, rfl, ?_⟩; replace HO_5 := aM (Kd.N_elder' (by (with_reducible repeat (first | apply Kd.N_alloc | apply Kd.N_drewN | apply Kd.N_drew)); exact HO_5.out) (Kd.R_base ho0) hb); replace HL269_0 := aM (Kd.V_elder' (xV HL269_0.out) (Kd.R_base ho0) hb); replace HO272 := aM (Kd.N_elder' (by (with_reducible repeat (first | apply Kd.N_alloc | apply Kd.N_drewN | apply Kd.N_drew)); exact HO272.out) (Kd.R_base ho0) hb); replace HO279 := aM (Kd.N_elder' (by (with_reducible repeat (first | apply Kd.N_alloc | apply Kd.N_drewN | apply Kd.N_drew)); exact HO279.out) (Kd.R_base ho0) hb); have HO287 := aM (Kd.R_lower (Kd.R_new' (Kd.R_new' (Kd.R_newM (M := fun k_ => (w.heap.size ≤ k_)) ho0 (below_size (xG2 HB.out GE249.out GE276.out)) (fun k_ h_ => h_)) (Kd.R_lt (xR HO275.out))) (Kd.R_lt (xR HO283.out))) (below_size (xG2 HB.out GE249.out GE276.out))); replace HO275 := aM (Kd.R_elder' (xR HO275.out) (Kd.R_base ho0) hb); replace HO283 := aM (Kd.R_elder' (xR HO283.out) (Kd.R_base ho0) hb); replace BK249 := aM (bB (g := gb249) (o := .cells #[.slice (some ad256) l0_0.length c0_0, .slice A0_1 l0_1.length c0_1] 43 (0, 0)) (xB BK249.out) hb); replace BK276 := aM (bB (g := gb276) (o := .cells #[.slice Ao49 t270.length co49, .slice Ao51 t273.length co51] 43 (0, 0)) (xB BK276.out) hb); replace HB := aM (below_step (xG2 HB.out GE249.out GE276.out) hb); (try clear hb; try clear hb2; try clear hk; try clear hi; try clear ho0)))
            go_roundg k2
            case measure => have := HK1.out; have := HK2.out; omega
            case rel => exact ⟨(wrap64 (x6_2 + 1)), (by first | rfl | (simp; done) | (simp [*]; done)), H', ⟨by have := HK1.out; have := HK2.out; omega⟩, ⟨by (with_reducible repeat (first | apply Kd.N_alloc | apply Kd.N_drewN | apply Kd.N_drew)); exact Kd.N_mono HO_5.out (fun _ hk => ⟨hk.1.1.1.1, hk.1.1.1.2.2.2.1⟩)⟩, ⟨xB BK249.out⟩, ⟨xG2 HB.out GE249.out GE276.out⟩⟩
          ·
           replace c24 := Bool.eq_false_iff.mpr c24
           subst c24
           have H1 : (spec_l4Find.l1 k2 x4_1 t266 (wrap64 (x6_2 + 1)) l0_0 l0_1) = some (r1, r2) := by rw [if_neg (show ¬ (false = true) by decide)] at H; exact H
           clear H
           have H := H1
           clear H1
           have H' := aM H
           clear H
           obtain ⟨Ao61, co61, eo61⟩ := Kd.N_slice HO_5.out
           subst eo61
           try go_wp2
           have n0_ := aM (Kd.N_drew HO_5.out)
           have n1_ := aM (bD BK249.out)
           have n2_ := aM (eD HB.out)
           clear HO_5 BK249 HB
           have HO_5 := n0_
           have BK249 := n1_
           have HB := n2_
           clear n0_ n1_ n2_
           have p269 : 0 ≤ (x6_2 : Int) := of_decide_eq_true (by first | (with_reducible assumption) | assumption)
           have q269 : x6_2 < (t266.length : Int) := of_decide_eq_true (by first | (with_reducible assumption) | assumption)
           obtain ⟨ad269, A269_0, c269_0, e269, hx269_0, hl269_0, hi269_0⟩ := at_L1 (Kd.N_reads' HO_5.out).2.2 x6_2 p269 q269
           cases e269
           obtain ⟨ce269, hce269, hMe269, hcc269⟩ := Kd.N_get HO_5.out [] x6_2 p269 (by first | exact q269 | exact of_decide_eq_true (by first | (with_reducible assumption) | assumption) | (have e_ := (Kd.N_reads' HO_5.out).1; omega))
           obtain ⟨ua269_0, uc269_0, rfl, ul269_0, ge269_0⟩ := Kd.FK_slice_open hMe269
           have hv269_0 := hcc269 0 _ rfl
           rw [Nat.add_zero, show ((Kd.slice 3 (Kd.int .i64))).sz = 1 from rfl, Nat.mul_one] at hv269_0
           replace hv269_0 := Option.some.inj (hv269_0.symm.trans hx269_0)
           injection hv269_0 with hva_ hvn_ hvc_
           rw [hva_] at ge269_0
           rw [hvc_] at ul269_0
           have HL269_0 := aM (show Kd.V (Kd.int .i64) 3 _ w.heap.size _ _ (rd_L1 t266 x6_2) from Kd.V_mk ul269_0 ge269_0)
           clear hva_ hvn_ hvc_ ge269_0 ul269_0 hcc269 hce269
           have HR269_0 := aM hi269_0
           have HC269_0 := aM hl269_0
           clear hi269_0 hl269_0
           replace p269 := eq_true p269
           replace q269 := eq_true q269
           refine start_ (n := 8) (S := fun w' => w'.cell? ⟨gb249, 0, none⟩ = some (.slice (some ad256) l0_0.length c0_0) ∧ w'.cell? ⟨gb249, 1, none⟩ = some (.slice A0_1 l0_1.length c0_1) ∧ w'.cell? (ad269.add (x6_2).toNat) = some (.slice A269_0 (rd_L1 t266 x6_2).length c269_0)) (ds := []) #[false, false, false, false, false, false, false, false] (by kernel_rfl) rfl rfl ⟨(bC BK249.out 0).trans rfl, (bC BK249.out 1).trans rfl, hx269_0⟩ (fun hHeld => ?_); refine with_tabW spec_l4Find.tab10 spec_l4Find.bits10 (fun HT_ HW_ => ?_)
           generalize wr.drew = w62 at HO_5 BK249 HB HL269_0 HR269_0 hx269_0 hHeld ⊢
           refine pure_ (i := 1) (N := some 41) (v := ?_) (a' := ?_) #[false, true, false, false, false, false, false, false] rfl rfl (any_of HT_.out (by kernel_rfl)) (fun _ _ _ h => h) (Or.inl ⟨by rfl, ?_⟩) ?_ ?_
           rotate_left
           ·
            intro w'
            go_simp
            with_reducible rfl
           rotate_left
           ·
            simp only [Act.put, sA, sZ, sU, i64_w, i32_w]
            rfl
           refine pure_ (i := 2) (N := some 42) (v := ?_) (a' := ?_) #[false, true, true, false, false, false, false, false] rfl rfl (any_of HT_.out (by kernel_rfl)) (fun _ _ _ h => h) (Or.inl ⟨by rfl, ?_⟩) ?_ ?_
           rotate_left
           ·
            intro w'
            go_simp
            with_reducible rfl
           rotate_left
           ·
            simp only [Act.put, sA, sZ, sU, i64_w, i32_w]
            rfl
           refine pure_ (i := 3) (N := some 43) (v := ?_) (a' := ?_) #[false, true, true, true, false, false, false, false] rfl rfl (any_of HT_.out (by kernel_rfl)) (fun _ _ _ h => h) (Or.inl ⟨by rfl, ?_⟩) ?_ ?_
           rotate_left
           ·
            intro w'
            go_simp
            with_reducible rfl
           rotate_left
           ·
            simp only [Act.put, sA, sZ, sU, i64_w, i32_w]
            rfl
           refine take_ (i := 0) (N := some 40) (v := ?_) (a' := ?_) #[true, true, true, true, false, false, false, false] rfl rfl (take_ofW HT_.out HW_.out (by kernel_rfl)) (fun _ _ _ h => h) (Or.inl ⟨by rfl, ?_⟩) hHeld ?_ ?_
           rotate_left
           ·
            rintro w' ⟨s0, s1, s2⟩
            first | (go_simp; with_reducible rfl) | (simp only [add_plain] at s0 s1 s2; go_simp; with_reducible rfl)
           rotate_left
           ·
            simp only [Act.put, sA, sZ, sU, i64_w, i32_w]
            rfl
           refine take_ (i := 4) (N := some 44) (v := ?_) (a' := ?_) #[true, true, true, true, true, false, false, false] rfl rfl (take_ofW HT_.out HW_.out (by kernel_rfl)) (fun _ _ _ h => h) (Or.inl ⟨by rfl, ?_⟩) hHeld ?_ ?_
           rotate_left
           ·
            rintro w' ⟨s0, s1, s2⟩
            first | (go_simp; with_reducible rfl) | (simp only [add_plain] at s0 s1 s2; go_simp; with_reducible rfl)
           rotate_left
           ·
            simp only [Act.put, sA, sZ, sU, i64_w, i32_w]
            rfl
           refine join_ (σ := Value × Value × Nat) 1 #[true, true, true, true, true, true, true, false] (fun s_ => [(45, .agg #[s_.1, s_.2.1]), (7, .pointer (some ⟨s_.2.2, 0, none⟩))]) (fun s_ w' => (w'.cell? ⟨gb249, 0, none⟩ = some (.slice (some ad256) l0_0.length c0_0) ∧ w'.cell? ⟨gb249, 1, none⟩ = some (.slice A0_1 l0_1.length c0_1) ∧ w'.cell? (ad269.add (x6_2).toNat) = some (.slice A269_0 (rd_L1 t266 x6_2).length c269_0)) ∧ (Kd.V (Kd.int .i64) 3 w' w.heap.size (fun k_ => (w.heap.size ≤ k_) ∧ some k_ ≠ (s_.1 : Value).ownBlock ∧ some k_ ≠ (s_.2.1 : Value).ownBlock ∧ some k_ ≠ (.slice (some ad269) t266.length co61 : Value).ownBlock ∧ k_ ≠ gb249 ∧ k_ ≠ s_.2.2) (.slice A269_0 (rd_L1 t266 x6_2).length c269_0) (rd_L1 t266 x6_2)) ∧ (Kd.N (Kd.slice 3 (Kd.int .i64)) 22 w' w.heap.size (fun k_ => (w.heap.size ≤ k_) ∧ some k_ ≠ (s_.2.1 : Value).ownBlock ∧ some k_ ≠ (.slice (some ad269) t266.length co61 : Value).ownBlock ∧ k_ ≠ gb249 ∧ k_ ≠ s_.2.2) s_.1 t270) ∧ (Kd.R (Kd.int .i64) 3 w' w.heap.size (fun k_ => (w.heap.size ≤ k_)) s_.2.1 t273) ∧ (Kd.N (Kd.slice 3 (Kd.int .i64)) 22 w' w.heap.size (fun k_ => (w.heap.size ≤ k_) ∧ some k_ ≠ (s_.1 : Value).ownBlock ∧ some k_ ≠ (s_.2.1 : Value).ownBlock ∧ k_ ≠ gb249 ∧ k_ ≠ s_.2.2) (.slice (some ad269) t266.length co61) t266) ∧ (w'.heap[gb249]? = some (.cells #[.slice (some ad256) l0_0.length c0_0, .slice A0_1 l0_1.length c0_1] 43 (0, 0))) ∧ (w'.heap[s_.2.2]? = some (.cells #[.slice none 0 0, .slice none 0 0] 43 (0, 0))) ∧ (w.heap.size ≤ s_.2.2) ∧ (w.heap.size ≤ s_.2.2) ∧ (gb249 ≠ s_.2.2) ∧ (s_.2.2 ≠ gb249) ∧ (Below w.heap.size w w')) ?_ ?_
           rotate_left
           ·
            intro hCont
            refine two_ (i := 5) (j := 6) (Ni := some 45) (Nj := some 7) #[true, true, true, true, true, true, false, false] #[true, true, true, true, true, false, true, false] rfl rfl rfl rfl (two_of HT_.out (by kernel_rfl)) (by decide) (by decide) (fun K hK => ?_) (fun K hK => ?_)
            ·
             skip
             refine goes_ Try.func72 (by kernel_rfl) rfl #[.agg #[.slice (some ad256) l0_0.length c0_0, .slice A0_1 l0_1.length c0_1], .slice A269_0 (rd_L1 t266 x6_2).length c269_0] (by rfl) rfl rfl xL ?_
             with_reducible refine (spec_l2Part.calls k2 _ _ l0_0 _ _ l0_1 _ _ (rd_L1 t266 x6_2) t270 t273 _ ?side1 ?side2 ?side3 ?side4 ?side5 ?side6 A21.out).mono ?_
             (case side1 => repeat (first | exact (Kd.C_below HR0_0.out HB.out) | (with_reducible refine Kd.C_alloc ?_ _) | (with_reducible refine Kd.C_drewN ?_ _) | (with_reducible refine Kd.C_drew ?_)))
             (case side2 => exact HC0_0.out)
             (case side3 => repeat (first | exact (Kd.C_below HR0_1.out HB.out) | (with_reducible refine Kd.C_alloc ?_ _) | (with_reducible refine Kd.C_drewN ?_ _) | (with_reducible refine Kd.C_drew ?_)))
             (case side4 => exact HC0_1.out)
             (case side5 => repeat (first | exact (by repeat (first | (with_reducible exact HR269_0.out) | (with_reducible refine Kd.C_alloc ?_ _) | (with_reducible refine Kd.C_drewN ?_ _) | (with_reducible refine Kd.C_drew ?_) | exact HR269_0.out)) | (with_reducible refine Kd.C_alloc ?_ _) | (with_reducible refine Kd.C_drewN ?_ _) | (with_reducible refine Kd.C_drew ?_)))
             (case side6 => exact HC269_0.out)
             rintro e w63 ⟨v271, v274, rfl, ho0, ho1, hb⟩
             have HS2_ := (hb.cell (World.block_lt_of_cell? _ _ (hHeld.2.2))).trans (hHeld.2.2)
             refine ⟨_, rfl, ?_⟩
             have n0_ := aM (Kd.N_mono (Kd.N_told (Kd.N_told (Kd.N_old (by (with_reducible repeat (first | apply Kd.N_alloc | apply Kd.N_drewN | apply Kd.N_drew)); exact HO_5.out) hb) (by first | exact Kd.N_base ho0 | exact Kd.S_base ho0 | exact Kd.R_base ho0)) (Kd.R_base ho1)) (fun _ h_ => h_.1))
             have n1_ := aM (Kd.V_mono (Kd.V_told (Kd.V_told (Kd.V_old (xV HL269_0.out) hb) (by first | exact Kd.N_base ho0 | exact Kd.S_base ho0 | exact Kd.R_base ho0)) (Kd.R_base ho1)) (fun _ h_ => h_.1))
             have n2_ := aM (Kd.N_lower (Kd.N_mono (ok' := fun k_ => (w.heap.size ≤ k_) ∧ some k_ ≠ (v274 : Value).ownBlock ∧ some k_ ≠ (.slice (some ad269) t266.length co61 : Value).ownBlock ∧ k_ ≠ gb249) (Kd.S_N (Kd.S_bound ho0)) (fun k_ hk_ => ⟨(Nat.le_trans (below_size (xG1 HB.out GE249.out)) hk_.2.1), hk_.1, (Kd.fresh' (Kd.N_lt (by (with_reducible repeat (first | apply Kd.N_alloc | apply Kd.N_drewN | apply Kd.N_drew)); exact HO_5.out)) k_ hk_.2.1), (Kd.freshB (g := gb249) (o := .cells #[.slice (some ad256) l0_0.length c0_0, .slice A0_1 l0_1.length c0_1] 43 (0, 0)) (xB BK249.out) k_ hk_.2.1)⟩)) (below_size (xG1 HB.out GE249.out)))
             have n3_ := aM (Kd.R_lower (Kd.R_newM (M := fun k_ => (w.heap.size ≤ k_)) ho1 (below_size (xG1 HB.out GE249.out)) (fun k_ h_ => h_)) (below_size (xG1 HB.out GE249.out)))
             have n4_ := aM (bB (g := gb249) (o := .cells #[.slice (some ad256) l0_0.length c0_0, .slice A0_1 l0_1.length c0_1] 43 (0, 0)) (xB BK249.out) hb)
             have n5_ := aM (Kd.C_below (by repeat (first | (with_reducible exact HR269_0.out) | (with_reducible refine Kd.C_alloc ?_ _) | (with_reducible refine Kd.C_drewN ?_ _) | (with_reducible refine Kd.C_drew ?_) | exact HR269_0.out)) hb)
             have n6_ := aM (below_step (xG1 HB.out GE249.out) hb)
             clear HO_5 HL269_0 BK249 HR269_0 HB
             have HO_5 := n0_
             have HL269_0 := n1_
             have HO272 := n2_
             have HO275 := n3_
             have BK249 := n4_
             have HR269_0 := n5_
             have HB := n6_
             clear n0_ n1_ n2_ n3_ n4_ n5_ n6_
             (try clear hb)
             (try clear hb2)
             (try clear hk)
             (try clear hi)
             (try clear ho0)
             (try clear ho1)
             refine hK.out _ _ ⟨(bC BK249.out 0).trans rfl, (bC BK249.out 1).trans rfl, HS2_⟩ (fun hHeld => ?_)
             clear hK K
             refine norm_ (a' := ?_) ?_ ?_
             rotate_left
             ·
              show Act.put _ (some 45) _ = _
              simp only [Act.put, sA, sZ, sU, i64_w, i32_w]
              rfl
             refine one_ (i := 6) (N := some 7) #[true, true, true, true, true, true, true, false] rfl rfl (one_of HT_.out (by kernel_rfl)) (by decide) (fun K hK => ?_)
             refine box_step ?hg (N := 7) ?hd (cs := #[.slice none 0 0, .slice none 0 0]) (t := 43) ?hr ?_; (case hd => rfl); (case hg => rfl); (case hr => first | (go_simp; done) | (go_simp; rfl))
             intro gb276 hg w64 hbox hb
             have HS2_ := (hb.cell (World.block_lt_of_cell? _ _ (hHeld.2.2))).trans (hHeld.2.2)
             have n0_ := aM (Kd.N_below (Kd.N_elderB (by (with_reducible repeat (first | apply Kd.N_alloc | apply Kd.N_drewN | apply Kd.N_drew)); exact HO_5.out) gb276 (Nat.le_of_eq hg.symm)) hb)
             have n1_ := aM (Kd.V_below (Kd.V_elderB (xV HL269_0.out) gb276 (Nat.le_of_eq hg.symm)) hb)
             have n2_ := aM (Kd.N_below (Kd.N_elderB (by (with_reducible repeat (first | apply Kd.N_alloc | apply Kd.N_drewN | apply Kd.N_drew)); exact HO272.out) gb276 (Nat.le_of_eq hg.symm)) hb)
             have n3_ := aM (Kd.R_below (xR HO275.out) hb)
             have n4_ := aM (bB (g := gb249) (o := .cells #[.slice (some ad256) l0_0.length c0_0, .slice A0_1 l0_1.length c0_1] 43 (0, 0)) (xB BK249.out) hb)
             have n5_ := aM (Kd.C_below (by repeat (first | (with_reducible exact HR269_0.out) | (with_reducible refine Kd.C_alloc ?_ _) | (with_reducible refine Kd.C_drewN ?_ _) | (with_reducible refine Kd.C_drew ?_) | exact HR269_0.out)) hb)
             have n6_ := aM (below_step (xG1 HB.out GE249.out) hb)
             have n7_ := aM (hbox)
             have n8_ := aM ((by rw [hg]; exact (below_size (xG1 HB.out GE249.out)) : w.heap.size ≤ gb276))
             have n9_ := aM ((by rw [hg]; exact (below_size (xG1 HB.out GE249.out)) : w.heap.size ≤ gb276))
             have n10_ := aM ((by rw [hg]; exact Nat.ne_of_lt (blk_lt (g := gb249) (o := .cells #[.slice (some ad256) l0_0.length c0_0, .slice A0_1 l0_1.length c0_1] 43 (0, 0)) (xB BK249.out)) : gb249 ≠ gb276))
             have n11_ := aM ((by rw [hg]; exact Nat.ne_of_gt (blk_lt (g := gb249) (o := .cells #[.slice (some ad256) l0_0.length c0_0, .slice A0_1 l0_1.length c0_1] 43 (0, 0)) (xB BK249.out)) : gb276 ≠ gb249))
             clear HO_5 HL269_0 HO272 HO275 BK249 HR269_0 HB
             have HO_5 := n0_
             have HL269_0 := n1_
             have HO272 := n2_
             have HO275 := n3_
             have BK249 := n4_
             have HR269_0 := n5_
             have HB := n6_
             have BK276 := n7_
             have GW276 := n8_
             have GE276 := n9_
             have NB249_276 := n10_
             have NB276_249 := n11_
             clear n0_ n1_ n2_ n3_ n4_ n5_ n6_ n7_ n8_ n9_ n10_ n11_ hb hbox hg
             refine hK.out _ _ ⟨(bC BK249.out 0).trans rfl, (bC BK249.out 1).trans rfl, HS2_⟩ (fun hHeld => ?_)
             clear hK K
             refine norm_ (a' := ?_) ?_ ?_
             rotate_left
             ·
              show Act.put _ (some 7) _ = _
              simp only [Act.put, sA, sZ, sU, i64_w, i32_w]
              rfl
             exact norm_ (by simp only [putAll, Act.put, sA, sZ, sU]) (hCont (v271, v274, gb276) _ ⟨hHeld, (by (with_reducible repeat (first | apply Kd.V_alloc | apply Kd.V_drewN | apply Kd.V_drew)); exact Kd.V_mono HL269_0.out (fun _ hk => ⟨hk.1.1.1.1.1, ⟨hk.1.1.2, ⟨hk.1.2, ⟨hk.1.1.1.2, ⟨hk.1.1.1.1.2, hk.2⟩⟩⟩⟩⟩)), (by (with_reducible repeat (first | apply Kd.N_alloc | apply Kd.N_drewN | apply Kd.N_drew)); exact Kd.N_mono HO272.out (fun _ hk => ⟨hk.1.1, ⟨hk.1.2.1, ⟨hk.1.2.2.1, ⟨hk.1.2.2.2, hk.2⟩⟩⟩⟩)), (by (with_reducible repeat (first | apply rA | apply rN | apply rD)); exact rM HO275.out (fun _ hk => hk.1)), (by (with_reducible repeat (first | apply Kd.N_alloc | apply Kd.N_drewN | apply Kd.N_drew)); exact Kd.N_mono HO_5.out (fun _ hk => ⟨hk.1.1.1.1, ⟨hk.1.1.2, ⟨hk.1.2, ⟨hk.1.1.1.2, hk.2⟩⟩⟩⟩)), (xB BK249.out), (xB BK276.out), GW276.out, GE276.out, NB249_276.out, NB276_249.out, (xG2 HB.out GE249.out GE276.out)⟩)
            ·
             skip
             refine box_step ?hg (N := 7) ?hd (cs := #[.slice none 0 0, .slice none 0 0]) (t := 43) ?hr ?_; (case hd => rfl); (case hg => rfl); (case hr => first | (go_simp; done) | (go_simp; rfl))
             intro gb276 hg w63 hbox hb
             have HS2_ := (hb.cell (World.block_lt_of_cell? _ _ (hHeld.2.2))).trans (hHeld.2.2)
             have n0_ := aM (Kd.N_below (Kd.N_elderB (by (with_reducible repeat (first | apply Kd.N_alloc | apply Kd.N_drewN | apply Kd.N_drew)); exact HO_5.out) gb276 (Nat.le_of_eq hg.symm)) hb)
             have n1_ := aM (Kd.V_below (Kd.V_elderB (xV HL269_0.out) gb276 (Nat.le_of_eq hg.symm)) hb)
             have n2_ := aM (bB (g := gb249) (o := .cells #[.slice (some ad256) l0_0.length c0_0, .slice A0_1 l0_1.length c0_1] 43 (0, 0)) (xB BK249.out) hb)
             have n3_ := aM (Kd.C_below (by repeat (first | (with_reducible exact HR269_0.out) | (with_reducible refine Kd.C_alloc ?_ _) | (with_reducible refine Kd.C_drewN ?_ _) | (with_reducible refine Kd.C_drew ?_) | exact HR269_0.out)) hb)
             have n4_ := aM (below_step (xG1 HB.out GE249.out) hb)
             have n5_ := aM (hbox)
             have n6_ := aM ((by rw [hg]; exact (below_size (xG1 HB.out GE249.out)) : w.heap.size ≤ gb276))
             have n7_ := aM ((by rw [hg]; exact (below_size (xG1 HB.out GE249.out)) : w.heap.size ≤ gb276))
             have n8_ := aM ((by rw [hg]; exact Nat.ne_of_lt (blk_lt (g := gb249) (o := .cells #[.slice (some ad256) l0_0.length c0_0, .slice A0_1 l0_1.length c0_1] 43 (0, 0)) (xB BK249.out)) : gb249 ≠ gb276))
             have n9_ := aM ((by rw [hg]; exact Nat.ne_of_gt (blk_lt (g := gb249) (o := .cells #[.slice (some ad256) l0_0.length c0_0, .slice A0_1 l0_1.length c0_1] 43 (0, 0)) (xB BK249.out)) : gb276 ≠ gb249))
             clear HO_5 HL269_0 BK249 HR269_0 HB
             have HO_5 := n0_
             have HL269_0 := n1_
             have BK249 := n2_
             have HR269_0 := n3_
             have HB := n4_
             have BK276 := n5_
             have GW276 := n6_
             have GE276 := n7_
             have NB249_276 := n8_
             have NB276_249 := n9_
             clear n0_ n1_ n2_ n3_ n4_ n5_ n6_ n7_ n8_ n9_ hb hbox hg
             refine hK.out _ _ ⟨(bC BK249.out 0).trans rfl, (bC BK249.out 1).trans rfl, HS2_⟩ (fun hHeld => ?_)
             clear hK K
             refine norm_ (a' := ?_) ?_ ?_
             rotate_left
             ·
              show Act.put _ (some 7) _ = _
              simp only [Act.put, sA, sZ, sU, i64_w, i32_w]
              rfl
             refine one_ (i := 5) (N := some 45) #[true, true, true, true, true, true, true, false] rfl rfl (one_of HT_.out (by kernel_rfl)) (by decide) (fun K hK => ?_)
             refine goes_ Try.func72 (by kernel_rfl) rfl #[.agg #[.slice (some ad256) l0_0.length c0_0, .slice A0_1 l0_1.length c0_1], .slice A269_0 (rd_L1 t266 x6_2).length c269_0] (by rfl) rfl rfl xL ?_
             with_reducible refine (spec_l2Part.calls k2 _ _ l0_0 _ _ l0_1 _ _ (rd_L1 t266 x6_2) t270 t273 _ ?side1 ?side2 ?side3 ?side4 ?side5 ?side6 A21.out).mono ?_
             (case side1 => repeat (first | exact (Kd.C_below HR0_0.out HB.out) | (with_reducible refine Kd.C_alloc ?_ _) | (with_reducible refine Kd.C_drewN ?_ _) | (with_reducible refine Kd.C_drew ?_)))
             (case side2 => exact HC0_0.out)
             (case side3 => repeat (first | exact (Kd.C_below HR0_1.out HB.out) | (with_reducible refine Kd.C_alloc ?_ _) | (with_reducible refine Kd.C_drewN ?_ _) | (with_reducible refine Kd.C_drew ?_)))
             (case side4 => exact HC0_1.out)
             (case side5 => repeat (first | exact (by repeat (first | (with_reducible exact HR269_0.out) | (with_reducible refine Kd.C_alloc ?_ _) | (with_reducible refine Kd.C_drewN ?_ _) | (with_reducible refine Kd.C_drew ?_) | exact HR269_0.out)) | (with_reducible refine Kd.C_alloc ?_ _) | (with_reducible refine Kd.C_drewN ?_ _) | (with_reducible refine Kd.C_drew ?_)))
             (case side6 => exact HC269_0.out)
             rintro e w64 ⟨v271, v274, rfl, ho0, ho1, hb⟩
             have HS2_ := (hb.cell (World.block_lt_of_cell? _ _ (hHeld.2.2))).trans (hHeld.2.2)
             refine ⟨_, rfl, ?_⟩
             have n0_ := aM (Kd.N_mono (Kd.N_told (Kd.N_told (Kd.N_old (by (with_reducible repeat (first | apply Kd.N_alloc | apply Kd.N_drewN | apply Kd.N_drew)); exact HO_5.out) hb) (by first | exact Kd.N_base ho0 | exact Kd.S_base ho0 | exact Kd.R_base ho0)) (Kd.R_base ho1)) (fun _ h_ => h_.1))
             have n1_ := aM (Kd.V_mono (Kd.V_told (Kd.V_told (Kd.V_old (xV HL269_0.out) hb) (by first | exact Kd.N_base ho0 | exact Kd.S_base ho0 | exact Kd.R_base ho0)) (Kd.R_base ho1)) (fun _ h_ => h_.1))
             have n2_ := aM (Kd.N_lower (Kd.N_mono (ok' := fun k_ => (w.heap.size ≤ k_) ∧ some k_ ≠ (v274 : Value).ownBlock ∧ some k_ ≠ (.slice (some ad269) t266.length co61 : Value).ownBlock ∧ k_ ≠ gb249 ∧ k_ ≠ gb276) (Kd.S_N (Kd.S_bound ho0)) (fun k_ hk_ => ⟨(Nat.le_trans (below_size (xG2 HB.out GE249.out GE276.out)) hk_.2.1), hk_.1, (Kd.fresh' (Kd.N_lt (by (with_reducible repeat (first | apply Kd.N_alloc | apply Kd.N_drewN | apply Kd.N_drew)); exact HO_5.out)) k_ hk_.2.1), (Kd.freshB (g := gb249) (o := .cells #[.slice (some ad256) l0_0.length c0_0, .slice A0_1 l0_1.length c0_1] 43 (0, 0)) (xB BK249.out) k_ hk_.2.1), (Kd.freshB (g := gb276) (o := .cells #[.slice none 0 0, .slice none 0 0] 43 (0, 0)) (xB BK276.out) k_ hk_.2.1)⟩)) (below_size (xG2 HB.out GE249.out GE276.out)))
             have n3_ := aM (Kd.R_lower (Kd.R_newM (M := fun k_ => (w.heap.size ≤ k_)) ho1 (below_size (xG2 HB.out GE249.out GE276.out)) (fun k_ h_ => h_)) (below_size (xG2 HB.out GE249.out GE276.out)))
             have n4_ := aM (bB (g := gb249) (o := .cells #[.slice (some ad256) l0_0.length c0_0, .slice A0_1 l0_1.length c0_1] 43 (0, 0)) (xB BK249.out) hb)
             have n5_ := aM (Kd.C_below (by repeat (first | (with_reducible exact HR269_0.out) | (with_reducible refine Kd.C_alloc ?_ _) | (with_reducible refine Kd.C_drewN ?_ _) | (with_reducible refine Kd.C_drew ?_) | exact HR269_0.out)) hb)
             have n6_ := aM (bB (g := gb276) (o := .cells #[.slice none 0 0, .slice none 0 0] 43 (0, 0)) (xB BK276.out) hb)
             have n7_ := aM (below_step (xG2 HB.out GE249.out GE276.out) hb)
             clear HO_5 HL269_0 BK249 HR269_0 BK276 HB
             have HO_5 := n0_
             have HL269_0 := n1_
             have HO272 := n2_
             have HO275 := n3_
             have BK249 := n4_
             have HR269_0 := n5_
             have BK276 := n6_
             have HB := n7_
             clear n0_ n1_ n2_ n3_ n4_ n5_ n6_ n7_
             (try clear hb)
             (try clear hb2)
             (try clear hk)
             (try clear hi)
             (try clear ho0)
             (try clear ho1)
             refine hK.out _ _ ⟨(bC BK249.out 0).trans rfl, (bC BK249.out 1).trans rfl, HS2_⟩ (fun hHeld => ?_)
             clear hK K
             refine norm_ (a' := ?_) ?_ ?_
             rotate_left
             ·
              show Act.put _ (some 45) _ = _
              simp only [Act.put, sA, sZ, sU, i64_w, i32_w]
              rfl
             exact norm_ (by simp only [putAll, Act.put, sA, sZ, sU]) (hCont (v271, v274, gb276) _ ⟨hHeld, (by (with_reducible repeat (first | apply Kd.V_alloc | apply Kd.V_drewN | apply Kd.V_drew)); exact Kd.V_mono HL269_0.out (fun _ hk => ⟨hk.1.1.1.1.1, ⟨hk.1.2, ⟨hk.2, ⟨hk.1.1.1.2, ⟨hk.1.1.1.1.2, hk.1.1.2⟩⟩⟩⟩⟩)), (by (with_reducible repeat (first | apply Kd.N_alloc | apply Kd.N_drewN | apply Kd.N_drew)); exact HO272.out), (by (with_reducible repeat (first | apply rA | apply rN | apply rD)); exact rM HO275.out (fun _ hk => hk.1)), (by (with_reducible repeat (first | apply Kd.N_alloc | apply Kd.N_drewN | apply Kd.N_drew)); exact Kd.N_mono HO_5.out (fun _ hk => ⟨hk.1.1.1.1, ⟨hk.1.2, ⟨hk.2, ⟨hk.1.1.1.2, hk.1.1.2⟩⟩⟩⟩)), (xB BK249.out), (xB BK276.out), GW276.out, GE276.out, NB249_276.out, NB276_249.out, (xG2 HB.out GE249.out GE276.out)⟩)
           rintro ⟨v271, v274, gb276⟩ w65 ⟨hS_, h0_, h1_, h2_, h3_, h4_, h5_, h6_, h7_, h8_, h9_, h10_⟩
           have n0_ : Aside0 (Kd.V (Kd.int .i64) 3 w65 w.heap.size (fun k_ => (w.heap.size ≤ k_) ∧ some k_ ≠ (v271 : Value).ownBlock ∧ some k_ ≠ (v274 : Value).ownBlock ∧ some k_ ≠ (.slice (some ad269) t266.length co61 : Value).ownBlock ∧ k_ ≠ gb249 ∧ k_ ≠ gb276) (.slice A269_0 (rd_L1 t266 x6_2).length c269_0) (rd_L1 t266 x6_2)) := ⟨h0_⟩
           have n1_ : Aside0 (Kd.N (Kd.slice 3 (Kd.int .i64)) 22 w65 w.heap.size (fun k_ => (w.heap.size ≤ k_) ∧ some k_ ≠ (v274 : Value).ownBlock ∧ some k_ ≠ (.slice (some ad269) t266.length co61 : Value).ownBlock ∧ k_ ≠ gb249 ∧ k_ ≠ gb276) v271 t270) := ⟨h1_⟩
           have n2_ : Aside0 (Kd.R (Kd.int .i64) 3 w65 w.heap.size (fun k_ => (w.heap.size ≤ k_)) v274 t273) := ⟨h2_⟩
           have n3_ : Aside0 (Kd.N (Kd.slice 3 (Kd.int .i64)) 22 w65 w.heap.size (fun k_ => (w.heap.size ≤ k_) ∧ some k_ ≠ (v271 : Value).ownBlock ∧ some k_ ≠ (v274 : Value).ownBlock ∧ k_ ≠ gb249 ∧ k_ ≠ gb276) (.slice (some ad269) t266.length co61) t266) := ⟨h3_⟩
           have n4_ : Aside0 (w65.heap[gb249]? = some (.cells #[.slice (some ad256) l0_0.length c0_0, .slice A0_1 l0_1.length c0_1] 43 (0, 0))) := ⟨h4_⟩
           have n5_ : Aside0 (w65.heap[gb276]? = some (.cells #[.slice none 0 0, .slice none 0 0] 43 (0, 0))) := ⟨h5_⟩
           have n6_ : Aside0 (w.heap.size ≤ gb276) := ⟨h6_⟩
           have n7_ : Aside0 (w.heap.size ≤ gb276) := ⟨h7_⟩
           have n8_ : Aside0 (gb249 ≠ gb276) := ⟨h8_⟩
           have n9_ : Aside0 (gb276 ≠ gb249) := ⟨h9_⟩
           have n10_ : Aside0 (Below w.heap.size w w65) := ⟨h10_⟩
           clear HO_5 BK249 HB h0_ h1_ h2_ h3_ h4_ h5_ h6_ h7_ h8_ h9_ h10_
           have HL269_0 := n0_
           have HO272 := n1_
           have HO275 := n2_
           have HO_5 := n3_
           have BK249 := n4_
           have BK276 := n5_
           have GW276 := n6_
           have GE276 := n7_
           have NB249_276 := n8_
           have NB276_249 := n9_
           have HB := n10_
           clear n0_ n1_ n2_ n3_ n4_ n5_ n6_ n7_ n8_ n9_ n10_
           have hHeld : w65.cell? ⟨gb249, 0, none⟩ = some (.slice (some ad256) l0_0.length c0_0) ∧ w65.cell? ⟨gb249, 1, none⟩ = some (.slice A0_1 l0_1.length c0_1) ∧ w65.cell? (ad269.add (x6_2).toNat) = some (.slice A269_0 (rd_L1 t266 x6_2).length c269_0) := hS_
           obtain ⟨Ao66, co66, eo66⟩ := Kd.N_slice HO272.out
           (first | subst eo66 | (injection eo66 with f1_ f2_ f3_; have f4_ := f1_.symm; have f5_ := f3_.symm; clear f1_ f2_ f3_; subst f4_; subst f5_))
           obtain ⟨Ao68, co68, eo68⟩ := Kd.R_slice HO275.out
           (first | subst eo68 | (injection eo68 with f1_ f2_ f3_; have f4_ := f1_.symm; have f5_ := f3_.symm; clear f1_ f2_ f3_; subst f4_; subst f5_))
           refine norm_ (a' := ?_) ?_ ?_
           rotate_left
           ·
            simp only [putAll, Act.put, sA, sZ, sU]
            rfl
           refine one_ (i := 7) (N := none) #[true, true, true, true, true, true, true, true] rfl rfl (one_of HT_.out (by kernel_rfl)) (by decide) (fun K hK => ?_)
           have hs67 : w65.cell? ⟨gb276, 0, none⟩ = some (.slice none 0 0) := (bC BK276.out 0).trans rfl
           have hfs67 := bF BK276.out 0
           have hns67_0 := NB249_276.out
           have hms67_0 := NB276_249.out
           have hs69 : w65.cell? ⟨gb276, 1, none⟩ = some (.slice none 0 0) := (bC BK276.out 1).trans rfl
           have hfs69 := bF BK276.out 1
           have hns69_0 := NB249_276.out
           have hms69_0 := NB276_249.out
           refine skip_ (w1 := ?_) (by rfl) rfl ?_ ?_
           rotate_left
           ·
            go_simp
            rfl
           refine hK.out _ _ ⟨((cell_far (p := ⟨gb276, _, none⟩) NB249_276.out _).trans (((cell_far (p := ⟨gb276, _, none⟩) NB249_276.out _).trans (hHeld.1)))), ((cell_far (p := ⟨gb276, _, none⟩) NB249_276.out _).trans (((cell_far (p := ⟨gb276, _, none⟩) NB249_276.out _).trans (hHeld.2.1)))), ((cell_far (p := ⟨gb276, _, none⟩) (by first | exact Kd.own_blk (Kd.N_away HO_5.out (fun _ hk => hk.2.2.2.2)) | (rw [add_block]; exact Kd.own_blk (Kd.N_away HO_5.out (fun _ hk => hk.2.2.2.2))) | (show (Addr.add _ _).block ≠ _; rw [add_block]; exact Kd.own_blk (Kd.N_away HO_5.out (fun _ hk => hk.2.2.2.2))) | (dsimp only; exact Kd.own_blk (Kd.N_away HO_5.out (fun _ hk => hk.2.2.2.2)))) _).trans (((cell_far (p := ⟨gb276, _, none⟩) (by first | exact Kd.own_blk (Kd.N_away HO_5.out (fun _ hk => hk.2.2.2.2)) | (rw [add_block]; exact Kd.own_blk (Kd.N_away HO_5.out (fun _ hk => hk.2.2.2.2))) | (show (Addr.add _ _).block ≠ _; rw [add_block]; exact Kd.own_blk (Kd.N_away HO_5.out (fun _ hk => hk.2.2.2.2))) | (dsimp only; exact Kd.own_blk (Kd.N_away HO_5.out (fun _ hk => hk.2.2.2.2)))) _).trans (hHeld.2.2))))⟩ (fun hHeld => ?_)
           clear hK K
           refine done_ (done_of HT_.out (by kernel_rfl)) ?_
           have hnb70 := NB276_249.out
           have hnc70 := NB249_276.out
           have hcz71_0 : w65.cell? ⟨gb276, 0, none⟩ = some (.slice none 0 0) := (bC BK276.out 0).trans rfl
           have hcz71_1 : w65.cell? ⟨gb276, 1, none⟩ = some (.slice none 0 0) := (bC BK276.out 1).trans rfl
           have hfz71_0 := bF BK276.out 0
           have hfz71_1 := bF BK276.out 1
           try go_wp2_with (first | ((with_reducible refine gate_callee (f := 74) rfl ?_); refine goesL_ (some 49) rfl rfl Try.func74 (by kernel_rfl) rfl #[.slice Ao66 t270.length co66] rfl xL ?_; (with_reducible refine (spec_l4Equations.calls k2 _ _ t270 t277 _ ?side1 ?side2 A22.out).mono ?_); (case side1 => refine (Kd.N_reads' (e := 22) (base := w.heap.size) (ok := fun k_ => ((w.heap.size ≤ k_) ∧ (some k_ ≠ (.slice Ao68 t273.length co68 : Value).ownBlock ∧ (some k_ ≠ (.slice (some ad269) t266.length co61 : Value).ownBlock ∧ (k_ ≠ gb249 ∧ k_ ≠ gb276))))) (n := t270.length) (c := co66) ?_).2.2; exact (by (with_reducible repeat (first | apply Kd.N_alloc | apply Kd.N_drewN | apply Kd.N_drew)); exact (Kd.N_mono (Kd.N_far (p := ⟨gb276, 1, none⟩) (Kd.N_far (p := ⟨gb276, 0, none⟩) (Kd.N_mono HO272.out (fun k_ hk => (⟨hk, hk.2.2.2.2⟩ : _ ∧ k_ ≠ gb276))) (fun _ hk => hk.2) (.slice Ao66 t270.length co66)) (fun _ hk => hk.2) (.slice Ao68 t273.length co68)) (fun _ h_ => h_.1)))); (case side2 => exact (Kd.N_reads' HO272.out).2.1); rintro e w72 ⟨v278, rfl, ho0, hb⟩; refine ⟨_, rfl, ?_⟩; replace HL269_0 := aM (Kd.V_elder' (by (with_reducible repeat (first | apply Kd.V_alloc | apply Kd.V_drewN | apply Kd.V_drew)); exact (Kd.V_mono (Kd.V_far (p := ⟨gb276, 1, none⟩) (Kd.V_far (p := ⟨gb276, 0, none⟩) (Kd.V_mono HL269_0.out (fun k_ hk => (⟨hk, hk.2.2.2.2.2⟩ : _ ∧ k_ ≠ gb276))) (fun _ hk => hk.2) (.slice Ao66 t270.length co66)) (fun _ hk => hk.2) (.slice Ao68 t273.length co68)) (fun _ h_ => h_.1))) (by first | exact Kd.N_base ho0 | exact Kd.S_base ho0 | exact Kd.R_base ho0) hb); have HO279 := aM (Kd.N_lower (Kd.N_mono (ok' := fun k_ => (w.heap.size ≤ k_) ∧ some k_ ≠ (.slice (some ad269) t266.length co61 : Value).ownBlock ∧ some k_ ≠ (.slice Ao66 t270.length co66 : Value).ownBlock ∧ some k_ ≠ (.slice Ao68 t273.length co68 : Value).ownBlock ∧ k_ ≠ gb249 ∧ k_ ≠ gb276) (Kd.S_N (Kd.S_bound ho0)) (fun k_ hk_ => ⟨(Nat.le_trans (below_size (xG2 HB.out GE249.out GE276.out)) hk_.2.1), (Kd.fresh' (Kd.N_lt (by (with_reducible repeat (first | apply Kd.N_alloc | apply Kd.N_drewN | apply Kd.N_drew)); exact (Kd.N_mono (Kd.N_far (p := ⟨gb276, 1, none⟩) (Kd.N_far (p := ⟨gb276, 0, none⟩) (Kd.N_mono HO_5.out (fun k_ hk => (⟨hk, hk.2.2.2.2⟩ : _ ∧ k_ ≠ gb276))) (fun _ hk => hk.2) (.slice Ao66 t270.length co66)) (fun _ hk => hk.2) (.slice Ao68 t273.length co68)) (fun _ h_ => h_.1)))) k_ hk_.2.1), (Kd.fresh' (Kd.N_lt (by (with_reducible repeat (first | apply Kd.N_alloc | apply Kd.N_drewN | apply Kd.N_drew)); exact (Kd.N_mono (Kd.N_far (p := ⟨gb276, 1, none⟩) (Kd.N_far (p := ⟨gb276, 0, none⟩) (Kd.N_mono HO272.out (fun k_ hk => (⟨hk, hk.2.2.2.2⟩ : _ ∧ k_ ≠ gb276))) (fun _ hk => hk.2) (.slice Ao66 t270.length co66)) (fun _ hk => hk.2) (.slice Ao68 t273.length co68)) (fun _ h_ => h_.1)))) k_ hk_.2.1), (Kd.fresh' (Kd.R_lt (by (with_reducible repeat (first | apply rA | apply rN | apply rD)); exact (rM (Kd.R_far (p := ⟨gb276, 1, none⟩) (Kd.R_far (p := ⟨gb276, 0, none⟩) (Kd.R_types HO275.out BK276.out (by decide)) (fun _ hk => hk.2) (.slice Ao66 t270.length co66)) (fun _ hk => hk.2) (.slice Ao68 t273.length co68)) (fun _ h_ => h_.1)))) k_ hk_.2.1), (Kd.freshB (g := gb249) (o := .cells #[.slice (some ad256) l0_0.length c0_0, .slice A0_1 l0_1.length c0_1] 43 (0, 0)) (by (with_reducible repeat (first | refine bN ?_ _ | refine bD ?_ | refine bA ?_ _)); refine blk_far ?_ NB249_276.out _; (with_reducible repeat (first | refine bN ?_ _ | refine bD ?_ | refine bA ?_ _)); refine blk_far ?_ NB249_276.out _; (with_reducible repeat (first | refine bN ?_ _ | refine bD ?_ | refine bA ?_ _)); exact BK249.out) k_ hk_.2.1), (Kd.freshB (g := gb276) (o := .cells #[.slice Ao66 t270.length co66, .slice Ao68 t273.length co68] 43 (0, 0)) (by (with_reducible repeat (first | refine bN ?_ _ | refine bD ?_ | refine bA ?_ _)); refine blk_put (cs := #[.slice Ao66 t270.length co66, .slice none 0 0]) ?_ 1 _ rfl; (with_reducible repeat (first | refine bN ?_ _ | refine bD ?_ | refine bA ?_ _)); refine blk_put (cs := #[.slice none 0 0, .slice none 0 0]) ?_ 0 _ rfl; (with_reducible repeat (first | refine bN ?_ _ | refine bD ?_ | refine bA ?_ _)); exact BK276.out) k_ hk_.2.1)⟩)) (below_size (xG2 HB.out GE249.out GE276.out))); replace HO_5 := aM (Kd.N_elder' (by (with_reducible repeat (first | apply Kd.N_alloc | apply Kd.N_drewN | apply Kd.N_drew)); exact (Kd.N_mono (Kd.N_far (p := ⟨gb276, 1, none⟩) (Kd.N_far (p := ⟨gb276, 0, none⟩) (Kd.N_mono HO_5.out (fun k_ hk => (⟨hk, hk.2.2.2.2⟩ : _ ∧ k_ ≠ gb276))) (fun _ hk => hk.2) (.slice Ao66 t270.length co66)) (fun _ hk => hk.2) (.slice Ao68 t273.length co68)) (fun _ h_ => h_.1))) (by first | exact Kd.N_base ho0 | exact Kd.S_base ho0 | exact Kd.R_base ho0) hb); replace HO272 := aM (Kd.N_elder' (by (with_reducible repeat (first | apply Kd.N_alloc | apply Kd.N_drewN | apply Kd.N_drew)); exact (Kd.N_mono (Kd.N_far (p := ⟨gb276, 1, none⟩) (Kd.N_far (p := ⟨gb276, 0, none⟩) (Kd.N_mono HO272.out (fun k_ hk => (⟨hk, hk.2.2.2.2⟩ : _ ∧ k_ ≠ gb276))) (fun _ hk => hk.2) (.slice Ao66 t270.length co66)) (fun _ hk => hk.2) (.slice Ao68 t273.length co68)) (fun _ h_ => h_.1))) (by first | exact Kd.N_base ho0 | exact Kd.S_base ho0 | exact Kd.R_base ho0) hb); replace HO275 := aM (Kd.R_below (by (with_reducible repeat (first | apply rA | apply rN | apply rD)); exact (rM (Kd.R_far (p := ⟨gb276, 1, none⟩) (Kd.R_far (p := ⟨gb276, 0, none⟩) (Kd.R_types HO275.out BK276.out (by decide)) (fun _ hk => hk.2) (.slice Ao66 t270.length co66)) (fun _ hk => hk.2) (.slice Ao68 t273.length co68)) (fun _ h_ => h_.1))) hb); replace BK249 := aM (bB (g := gb249) (o := .cells #[.slice (some ad256) l0_0.length c0_0, .slice A0_1 l0_1.length c0_1] 43 (0, 0)) (by (with_reducible repeat (first | refine bN ?_ _ | refine bD ?_ | refine bA ?_ _)); refine blk_far ?_ NB249_276.out _; (with_reducible repeat (first | refine bN ?_ _ | refine bD ?_ | refine bA ?_ _)); refine blk_far ?_ NB249_276.out _; (with_reducible repeat (first | refine bN ?_ _ | refine bD ?_ | refine bA ?_ _)); exact BK249.out) hb); replace BK276 := aM (bB (g := gb276) (o := .cells #[.slice Ao66 t270.length co66, .slice Ao68 t273.length co68] 43 (0, 0)) (by (with_reducible repeat (first | refine bN ?_ _ | refine bD ?_ | refine bA ?_ _)); refine blk_put (cs := #[.slice Ao66 t270.length co66, .slice none 0 0]) ?_ 1 _ rfl; (with_reducible repeat (first | refine bN ?_ _ | refine bD ?_ | refine bA ?_ _)); refine blk_put (cs := #[.slice none 0 0, .slice none 0 0]) ?_ 0 _ rfl; (with_reducible repeat (first | refine bN ?_ _ | refine bD ?_ | refine bA ?_ _)); exact BK276.out) hb); replace HB := aM (below_step (xG2 HB.out GE249.out GE276.out) hb); (try clear hb; try clear hb2; try clear hk; try clear hi; try clear ho0); obtain ⟨Ao73, co73, eo73⟩ := Kd.N_slice HO279.out; subst eo73) | ((with_reducible refine gate_callee (f := 73) rfl ?_); refine goesL_ (some 51) rfl rfl Try.func73 (by kernel_rfl) rfl #[.slice Ao73 t277.length co73, .int .i64 x4_1] rfl xL ?_; (with_reducible refine (spec_l4Relation.calls k2 _ _ t277 x4_1 t280 false _ ?side1 ?side2 A23.out).mono ?_); (case side1 => repeat (first | exact (Kd.N_reads' HO279.out).2.2 | (with_reducible refine Kd.C_alloc ?_ _) | (with_reducible refine Kd.C_drewN ?_ _) | (with_reducible refine Kd.C_drew ?_))); (case side2 => exact (Kd.N_reads' HO279.out).2.1); rintro e w74 ⟨v282, rfl, ho0, hb⟩; refine ⟨_, rfl, ?_⟩; replace HO_5 := aM (Kd.N_elder' (by (with_reducible repeat (first | apply Kd.N_alloc | apply Kd.N_drewN | apply Kd.N_drew)); exact HO_5.out) (Kd.R_base ho0) hb); replace HL269_0 := aM (Kd.V_elder' (xV HL269_0.out) (Kd.R_base ho0) hb); replace HO272 := aM (Kd.N_elder' (by (with_reducible repeat (first | apply Kd.N_alloc | apply Kd.N_drewN | apply Kd.N_drew)); exact HO272.out) (Kd.R_base ho0) hb); replace HO279 := aM (Kd.N_elder' (by (with_reducible repeat (first | apply Kd.N_alloc | apply Kd.N_drewN | apply Kd.N_drew)); exact HO279.out) (Kd.R_base ho0) hb); have HO283 := aM (Kd.R_lower (Kd.R_new' (Kd.R_newM (M := fun k_ => (w.heap.size ≤ k_)) ho0 (below_size (xG2 HB.out GE249.out GE276.out)) (fun k_ h_ => h_)) (Kd.R_lt (xR HO275.out))) (below_size (xG2 HB.out GE249.out GE276.out))); replace HO275 := aM (Kd.R_elder' (xR HO275.out) (Kd.R_base ho0) hb); replace BK249 := aM (bB (g := gb249) (o := .cells #[.slice (some ad256) l0_0.length c0_0, .slice A0_1 l0_1.length c0_1] 43 (0, 0)) (xB BK249.out) hb); replace BK276 := aM (bB (g := gb276) (o := .cells #[.slice Ao66 t270.length co66, .slice Ao68 t273.length co68] 43 (0, 0)) (xB BK276.out) hb); replace HB := aM (below_step (xG2 HB.out GE249.out GE276.out) hb); (try clear hb; try clear hb2; try clear hk; try clear hi; try clear ho0)))
           go_roundg k2
           case measure => have := HK1.out; have := HK2.out; omega
           case rel => exact ⟨(wrap64 (x6_2 + 1)), (by first | rfl | (simp; done) | (simp [*]; done)), H', ⟨by have := HK1.out; have := HK2.out; omega⟩, ⟨by (with_reducible repeat (first | apply Kd.N_alloc | apply Kd.N_drewN | apply Kd.N_drew)); exact Kd.N_mono HO_5.out (fun _ hk => ⟨hk.1.1.1, hk.1.1.2.2.2.1⟩)⟩, ⟨xB BK249.out⟩, ⟨xG2 HB.out GE249.out GE276.out⟩⟩
         ·
          rw [if_neg c20] at H
          exact absurd H (by simp)
        ·
         rw [if_neg c19] at H
         have c19b0 : decide (x6_2 < (t266.length : Int)) = false := decide_eq_false c19
         clear c19
         have H' := aM H
         clear H
         obtain ⟨Ao75, co75, eo75⟩ := Kd.N_slice HO_5.out
         subst eo75
         go_wp2
         go_roundg k2
         case measure => have := HK1.out; have := HK2.out; omega
         case rel => exact ⟨(wrap64 (x4_1 + 1)), (by first | rfl | (simp; done) | (simp [*]; done)), H', ⟨by have := HK1.out; have := HK2.out; omega⟩, ⟨xB BK249.out⟩, ⟨xG1 HB.out GE249.out⟩⟩
     ·
      rw [if_neg c12] at H
      have c12b0 : decide (x4_1 ≤ (wrap64 (((rd_L1 l0_0 0).length : Int) + 2))) = false := decide_eq_false c12
      clear c12
      obtain ⟨y257, hy257⟩ : ∃ y_ : List Int, y_ = (([] : List Int)) := ⟨_, rfl⟩
      replace H : (some (y257, (([] : List Int)))) = some (r1, r2) := by first | (rw [hy257]; with_reducible exact H) | (have H2_ := (Option.bind_some _ _).symm.trans H; rw [hy257]; with_reducible exact H2_) | (have H2_ := (Option.bind_some _ _).symm.trans H; with_reducible exact H2_) | with_reducible exact H | (rw [hy257]; exact H) | exact H
      have Ny257 := aM hy257
      clear hy257
      obtain ⟨y260, hy260⟩ : ∃ y_ : List Int, y_ = (([] : List Int)) := ⟨_, rfl⟩
      replace H : (some (y257, y260)) = some (r1, r2) := by first | (rw [hy260]; with_reducible exact H) | (have H2_ := (Option.bind_some _ _).symm.trans H; rw [hy260]; with_reducible exact H2_) | (have H2_ := (Option.bind_some _ _).symm.trans H; with_reducible exact H2_) | with_reducible exact H | (rw [hy260]; exact H) | exact H
      have Ny260 := aM hy260
      clear hy260
      simp only [Option.some.injEq, Prod.mk.injEq] at H
      obtain ⟨rfl, rfl⟩ := H
      have hcz76_0 : wr.cell? ⟨gb249, 0, none⟩ = some (.slice A0_0 l0_0.length c0_0) := (bC BK249.out 0).trans rfl
      have hcz76_1 : wr.cell? ⟨gb249, 1, none⟩ = some (.slice A0_1 l0_1.length c0_1) := (bC BK249.out 1).trans rfl
      have hfz76_0 := bF BK249.out 0
      have hfz76_1 := bF BK249.out 1
      have p256 : 0 ≤ (0 : Int) := (by omega)
      have q256 : 0 < (l0_0.length : Int) := of_decide_eq_true (by first | (with_reducible assumption) | assumption)
      obtain ⟨ad256, A256_0, c256_0, e256, hx256_0, hl256_0, hi256_0⟩ := at_L1 HR0_0.out 0 p256 q256
      cases e256
      have qi256 : (0 < l0_0.length) = True := eq_true (by omega)
      (try rw [show ((0 : Int)).toNat = 0 from rfl] at hx256_0)
      (try rw [Addr.add_zero'] at hx256_0)
      replace hx256_0 := (HB.out.cell (World.block_lt_of_cell? w _ hx256_0)).trans hx256_0
      have HR256_0 := aM hi256_0
      have HC256_0 := aM hl256_0
      clear hi256_0 hl256_0
      replace p256 := eq_true p256
      replace q256 := eq_true q256
      go_wp2_with (first | ((with_reducible refine gate_dst (N := 69) rfl ?_); refine Kd.R_lit (Kd.int .i64) _ 3 ?hg (N := 69) ?hd (xs := ([] : List Int)) (inner := []) (ok := fun _ => True) (okp := fun _ => True) ?hr ?hp (fun _ hk => hk) trivial (Below.refl _ _) (Nat.le_refl _) (by simp) ?_; (case hd => rfl); (case hg => rfl); (case hr => first | (go_simp; done) | (go_simp; rfl)); (case hp => exact (Reps.none _ _)); intro v258 w77 ho78 hb hg_ hnew_; clear hg_ hnew_; (first | rw [← Ny257.out] at ho78 | (simp only [Int.reduceToNat] at ho78; rw [← Ny257.out] at ho78)); have HO259 := aM (Kd.R_lower (Kd.R_newM (M := fun k_ => (w.heap.size ≤ k_)) ho78 (below_size (xG1 HB.out GE249.out)) (fun k_ h_ => h_)) (below_size (xG1 HB.out GE249.out))); replace BK249 := aM (bB (g := gb249) (o := .cells #[.slice (some ad256) l0_0.length c0_0, .slice A0_1 l0_1.length c0_1] 43 (0, 0)) (xB BK249.out) hb); replace HB := aM (below_step (xG1 HB.out GE249.out) hb); clear hb ho78) | ((with_reducible refine gate_dst (N := 70) rfl ?_); refine Kd.R_lit (Kd.int .i64) _ 3 ?hg (N := 70) ?hd (xs := ([] : List Int)) (inner := []) (ok := fun _ => True) (okp := fun _ => True) ?hr ?hp (fun _ hk => hk) trivial (Below.refl _ _) (Nat.le_refl _) (by simp) ?_; (case hd => rfl); (case hg => rfl); (case hr => first | (go_simp; done) | (go_simp; rfl)); (case hp => exact (Reps.none _ _)); intro v261 w79 ho80 hb hg_ hnew_; clear hg_ hnew_; (first | rw [← Ny260.out] at ho80 | (simp only [Int.reduceToNat] at ho80; rw [← Ny260.out] at ho80)); have HO262 := aM (Kd.R_lower (Kd.R_new' (Kd.R_newM (M := fun k_ => (w.heap.size ≤ k_)) ho80 (below_size (xG1 HB.out GE249.out)) (fun k_ h_ => h_)) (Kd.R_lt (xR HO259.out))) (below_size (xG1 HB.out GE249.out))); replace HO259 := aM (Kd.R_elder' (xR HO259.out) (Kd.R_base ho80) hb); replace BK249 := aM (bB (g := gb249) (o := .cells #[.slice (some ad256) l0_0.length c0_0, .slice A0_1 l0_1.length c0_1] 43 (0, 0)) (xB BK249.out) hb); replace HB := aM (below_step (xG1 HB.out GE249.out) hb); clear hb ho80))
      go_ret2
      exact ⟨_, _, by first | rfl | (simp [errW_none, errW_some] <;> rfl) | (simp [*, errW_none, errW_some] <;> rfl), Kd.R_V (by (with_reducible repeat (first | apply rA | apply rN | apply rD)); exact rM HO259.out (fun _ hk => ⟨hk.1.1, hk.2⟩)), by (with_reducible repeat (first | apply rA | apply rN | apply rD)); exact rM HO262.out (fun _ hk => hk.1.1), xG1 HB.out GE249.out⟩
    ·
     rw [if_neg c11] at H
     exact absurd H (by simp)
end Go.Proofs.Ytgidnmpppbkamaa.PFnExactIsWeighted
