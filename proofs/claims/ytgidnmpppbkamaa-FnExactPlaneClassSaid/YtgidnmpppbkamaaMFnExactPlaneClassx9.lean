-- Laid for this claim by a program of the session's own (wip/tool/myprint.py).
import Derived.Test.YtgidnmpppbkamaaMFnExactPlaneClassx0
import Derived.Test.YtgidnmpppbkamaaMFnExactPlaneClassx2
import Derived.Test.YtgidnmpppbkamaaMFnExactPlaneClassx3
import Derived.Test.YtgidnmpppbkamaaMFnExactPlaneClassx6
import Derived.Test.YtgidnmpppbkamaaMFnExactPlaneClassx7
import Derived.Test.YtgidnmpppbkamaaMFnExactPlaneClassx8
namespace Go.Proofs.Ytgidnmpppbkamaa.PFnExactPlaneClass
open Go.RowKit Go.Proofs.YtgidnmpppbkamaaW.PrintWords Go.Proofs.YtgidnmpppbkamaaW.PrintLast Go.Proofs.YtgidnmpppbkamaaW.PrintMore
attribute [local go_sem] max2_int min2_int max_two min_two max_three min_three max_four min_four
set_option linter.unusedVariables false
set_option maxHeartbeats 8000000
set_option maxRecDepth 100000
set_option linter.unusedSimpArgs false
mutual
def spec_l4Find.l0 : Nat → Int → List (List Int) → List Int → Option (List Int × List Int)
 | 0, _, _, _ => none
 | k + 1, x4, x267000, x267001 => if 0 < (x267000.length : Int) then (if x4 ≤ (wrap64 (((rd_L1 x267000 0).length : Int) + 2)) then ((spec_l4Choose.f k (x267000.length : Int) x4 (([] : List Int))).bind fun t283 => (spec_l4Find.l1 k x4 t283 0 x267000 x267001)) else (some ((([] : List Int)), (([] : List Int))))) else (none)
def spec_l4Find.l1 : Nat → Int → List (List Int) → Int → List (List Int) → List Int → Option (List Int × List Int)
 | 0, _, _, _, _, _ => none
 | k + 1, x4, x5, x6, x267000, x267001 => if x6 < (x5.length : Int) then (if 0 ≤ x6 then ((spec_l2Part.f k x267000 x267001 (rd_L1 x5 x6)).bind fun bt287 => ((spec_l4Equations.f k bt287.1).bind fun t294 => ((spec_l4Relation.f k t294 x4).bind fun bt297 => (if bt297.2 = true then ((spec_l4Signs.f k bt297.1 bt287.2).bind fun bt301 => (if bt301.2 = true then (some (rd_L1 x5 x6, bt301.1)) else (spec_l4Find.l1 k x4 x5 (wrap64 (x6 + 1)) x267000 x267001))) else (spec_l4Find.l1 k x4 x5 (wrap64 (x6 + 1)) x267000 x267001))))) else (none)) else (spec_l4Find.l0 k (wrap64 (x4 + 1)) x267000 x267001)
end
def spec_l4Find.f (k : Nat) (l0_0 : List (List Int)) (l0_1 : List Int) : Option (List Int × List Int) := if (l0_0.length : Int) = 0 then (some ((([] : List Int)), (([] : List Int)))) else (spec_l4Find.l0 k 2 l0_0 l0_1)
def spec_l4Find.T10 : Bool × List (List Nat × List Nat) := (true, [([], []), ([], []), ([], []), ([1, 2], [1, 2]), ([3], [3]), ([0, 4], [0, 4]), ([], []), ([6, 5, 5, 0, 1, 2, 3, 4, 5, 6], [5, 6])])
def spec_l4Find.B10 : List Nat := [0, 0, 0, 6, 14, 31, 0, 127]
theorem spec_l4Find.tab10 : rtab .any (opsOf Try.f52 10) = spec_l4Find.T10 := by kernel_rfl
theorem spec_l4Find.bits10 : waitsOk spec_l4Find.T10.2 spec_l4Find.B10 = true := by kernel_rfl
theorem spec_l4Find.calls (k : Nat) (A0_0 : Option Addr) (c0_0 : Nat) (l0_0 : List (List Int)) (A0_1 : Option Addr) (c0_1 : Nat) (l0_1 : List Int) (r1 : List Int) (r2 : List Int) (w : World) (hr0_0 : Kd.C (Kd.slice 3 (Kd.int .i64)) w A0_0 l0_0.length l0_0) (hc0_0 : l0_0.length ≤ c0_0) (hr0_1 : Kd.C (Kd.int .i64) w A0_1 l0_1.length l0_1) (hc0_1 : l0_1.length ≤ c0_1) (h : spec_l4Find.f k l0_0 l0_1 = some (r1, r2)) :
  Calls Try.prog 52 #[.agg #[.slice A0_0 l0_0.length c0_0, .slice A0_1 l0_1.length c0_1]] w fun e w' => ∃ v0_ v1_ : Value, e = .returned (.tuple #[v0_, v1_]) ∧ Kd.V (Kd.int .i64) 3 w' w.heap.size (fun k_ => (w.heap.size ≤ k_) ∧ some k_ ≠ (v1_ : Value).ownBlock) v0_ r1 ∧ Kd.R (Kd.int .i64) 3 w' w.heap.size (fun k_ => (w.heap.size ≤ k_)) v1_ r2 ∧ Below w.heap.size w w' := by
 have hu43 := Try.underlying43
 have HR0_0 := aM hr0_0
 have HC0_0 := aM hc0_0
 clear hr0_0 hc0_0
 have HR0_1 := aM hr0_1
 have HC0_1 := aM hc0_1
 clear hr0_1 hc0_1
 have HB := aM (Below.refl w.heap.size w)
 have H : (if (l0_0.length : Int) = 0 then (some ((([] : List Int)), (([] : List Int)))) else (spec_l4Find.l0 k 2 l0_0 l0_1)) = some (r1, r2) := h
 clear h
 by_cases c2 : (l0_0.length : Int) = 0
 ·
  rw [if_pos c2] at H
  have c2b0 : ((l0_0.length : Int) == 0) = true := beq_iff_eq.mpr c2
  have c2b1 : ((l0_0.length : Int) != 0) = false := bne_eq_false_iff_eq.mpr c2
  clear c2
  obtain ⟨y267, hy267⟩ := yE (([] : List Int) : List Int)
  replace H : (some (y267, (([] : List Int)))) = some (r1, r2) := yI hy267 H
  have Ny267 := aM hy267
  clear hy267
  obtain ⟨y270, hy270⟩ := yE (([] : List Int) : List Int)
  replace H : (some (y267, y270)) = some (r1, r2) := yI hy270 H
  have Ny270 := aM hy270
  clear hy270
  simp only [Option.some.injEq, Prod.mk.injEq] at H
  obtain ⟨rfl, rfl⟩ := H
  go_enter Try.func52, Try.ntmps52
  go_wp2_with (first | (refine yB 1 #[.slice A0_0 l0_0.length c0_0, .slice A0_1 l0_1.length c0_1] 43 ?_; intro gb266 hg w3 hbox hb; have BK266 := aM (hbox); have GW266 := yV0 hg HB; have GE266 := yV0 hg HB; replace HB := yS0 HB hb; clear hb hbox hg; obtain ⟨hcz4_0, hcz4_1, hfz4_0, hfz4_1⟩ := yD2 BK266) | ((with_reducible refine gate_dst (N := 16) rfl ?_); refine Kd.R_lit (Kd.int .i64) _ 3 ?hg (N := 16) ?hd (xs := ([] : List Int)) (inner := []) (ok := fun _ => True) (okp := fun _ => True) ?hr ?hp (fun _ hk => hk) trivial (Below.refl _ _) (Nat.le_refl _) (by simp) ?_; (case hd => rfl); (case hg => rfl); (case hr => first | (go_simp; done) | (go_simp; rfl)); (case hp => exact (Reps.none _ _)); intro v268 w5 ho6 hb hg_ hnew_; clear hg_ hnew_; (first | rw [← Ny267.out] at ho6 | (simp only [Int.reduceToNat] at ho6; rw [← Ny267.out] at ho6)); have HO269 := aM (Kd.R_lower (Kd.R_newM (M := fun k_ => (w.heap.size ≤ k_)) ho6 (below_size (xG1 HB.out GE266.out)) (fun k_ h_ => h_)) (below_size (xG1 HB.out GE266.out))); replace BK266 := yK BK266 hb; replace HB := yS1 HB GE266 hb; clear hb ho6) | ((with_reducible refine gate_dst (N := 17) rfl ?_); refine Kd.R_lit (Kd.int .i64) _ 3 ?hg (N := 17) ?hd (xs := ([] : List Int)) (inner := []) (ok := fun _ => True) (okp := fun _ => True) ?hr ?hp (fun _ hk => hk) trivial (Below.refl _ _) (Nat.le_refl _) (by simp) ?_; (case hd => rfl); (case hg => rfl); (case hr => first | (go_simp; done) | (go_simp; rfl)); (case hp => exact (Reps.none _ _)); intro v271 w7 ho8 hb hg_ hnew_; clear hg_ hnew_; (first | rw [← Ny270.out] at ho8 | (simp only [Int.reduceToNat] at ho8; rw [← Ny270.out] at ho8)); have HO272 := aM (Kd.R_lower (Kd.R_new' (Kd.R_newM (M := fun k_ => (w.heap.size ≤ k_)) ho8 (below_size (xG1 HB.out GE266.out)) (fun k_ h_ => h_)) (Kd.R_lt (xR HO269.out))) (below_size (xG1 HB.out GE266.out))); replace HO269 := aM (Kd.R_elder' (xR HO269.out) (Kd.R_base ho8) hb); replace BK266 := yK BK266 hb; replace HB := yS1 HB GE266 hb; clear hb ho8))
  go_ret2
  exact ⟨_, _, yF, Kd.R_V (zR (rM HO269.out (fun _ hk => ⟨hk.1.1, hk.2⟩))), zR (rM HO272.out (fun _ hk => hk.1.1)), xG1 HB.out GE266.out⟩
 rw [if_neg c2] at H
 have c2b0 : ((l0_0.length : Int) == 0) = false := beq_eq_false_iff_ne.mpr c2
 have c2b1 : ((l0_0.length : Int) != 0) = true := bne_iff_ne.mpr c2
 have c2b2 : ¬ (l0_0 = []) := fun h_ => c2 (by rw [h_]; rfl)
 have H' := aM H
 clear H
 go_enter Try.func52, Try.ntmps52
 go_wp2_with (first | (refine yB 1 #[.slice A0_0 l0_0.length c0_0, .slice A0_1 l0_1.length c0_1] 43 ?_; intro gb266 hg w9 hbox hb; have BK266 := aM (hbox); have GW266 := yV0 hg HB; have GE266 := yV0 hg HB; replace HB := yS0 HB hb; clear hb hbox hg; obtain ⟨hcz10_0, hcz10_1, hfz10_0, hfz10_1⟩ := yD2 BK266))
 go_loopg [4] k (fun kq v4 w' => ∃ (x4_1 : Int), v4 = .int .i64 x4_1 ∧ Aside0 (spec_l4Find.l0 kq x4_1 l0_0 l0_1 = some (r1, r2)) ∧ Aside0 (kq ≤ k) ∧ Aside0 (w'.heap[gb266]? = some (.cells #[(.slice A0_0 l0_0.length c0_0), (.slice A0_1 l0_1.length c0_1)] 43 (0, 0))) ∧ Aside0 (Below w.heap.size w w'))
 case atStart => exact ⟨(2), yZ, H', ⟨Nat.le_refl _⟩, ⟨xB BK266.out⟩, ⟨xG1 HB.out GE266.out⟩⟩
 case round =>
  clear H'
  try clear c2; try clear c2b0; try clear c2b1; try clear c2b2; try clear hcz10_0; try clear hcz10_1; try clear hcz4_0; try clear hcz4_1; try clear hfz10_0; try clear hfz10_1; try clear hfz4_0; try clear hfz4_1
  obtain ⟨x4_1, rfl, HA, HK1, BK266, HB⟩ := hrel
  cases gk with
  | zero => exact absurd HA.out (by simp [spec_l4Find.l0])
  | succ k1 =>
   have H := HA.out
   clear HA
   simp only [spec_l4Find.l0] at H
   by_cases c11 : 0 < (l0_0.length : Int)
   rotate_left
   ·
    rw [if_neg c11] at H
    exact absurd H (by simp)
   rw [if_pos c11] at H
   have c11b0 := decide_eq_true c11
   have c11b1 : decide (0 < l0_0.length) = true := decide_eq_true (by omega)
   clear c11
   by_cases c12 : x4_1 ≤ (wrap64 (((rd_L1 l0_0 0).length : Int) + 2))
   rotate_left
   ·
    rw [if_neg c12] at H
    have c12b0 := decide_eq_false c12
    clear c12
    obtain ⟨y274, hy274⟩ := yE (([] : List Int) : List Int)
    replace H : (some (y274, (([] : List Int)))) = some (r1, r2) := yI hy274 H
    have Ny274 := aM hy274
    clear hy274
    obtain ⟨y277, hy277⟩ := yE (([] : List Int) : List Int)
    replace H : (some (y274, y277)) = some (r1, r2) := yI hy277 H
    have Ny277 := aM hy277
    clear hy277
    simp only [Option.some.injEq, Prod.mk.injEq] at H
    obtain ⟨rfl, rfl⟩ := H
    have hcz76_0 : wr.cell? ⟨gb266, 0, none⟩ = some (.slice A0_0 l0_0.length c0_0) := (bC BK266.out 0).trans rfl
    have hcz76_1 : wr.cell? ⟨gb266, 1, none⟩ = some (.slice A0_1 l0_1.length c0_1) := (bC BK266.out 1).trans rfl
    have hfz76_0 := bF BK266.out 0
    have hfz76_1 := bF BK266.out 1
    have p273 : 0 ≤ (0 : Int) := (by omega)
    have q273 : 0 < (l0_0.length : Int) := yA
    obtain ⟨ad273, A273_0, c273_0, e273, hx273_0, hl273_0, hi273_0⟩ := at_L1 HR0_0.out 0 p273 q273
    cases e273
    have qi273 : (0 < l0_0.length) = True := eq_true (by omega)
    (try rw [show ((0 : Int)).toNat = 0 from rfl] at hx273_0)
    (try rw [Addr.add_zero'] at hx273_0)
    replace hx273_0 := (HB.out.cell (World.block_lt_of_cell? w _ hx273_0)).trans hx273_0
    have HR273_0 := aM hi273_0
    have HC273_0 := aM hl273_0
    clear hi273_0 hl273_0
    replace p273 := eq_true p273
    replace q273 := eq_true q273
    go_wp2_with (first | ((with_reducible refine gate_dst (N := 69) rfl ?_); refine Kd.R_lit (Kd.int .i64) _ 3 ?hg (N := 69) ?hd (xs := ([] : List Int)) (inner := []) (ok := fun _ => True) (okp := fun _ => True) ?hr ?hp (fun _ hk => hk) trivial (Below.refl _ _) (Nat.le_refl _) (by simp) ?_; (case hd => rfl); (case hg => rfl); (case hr => first | (go_simp; done) | (go_simp; rfl)); (case hp => exact (Reps.none _ _)); intro v275 w77 ho78 hb hg_ hnew_; clear hg_ hnew_; (first | rw [← Ny274.out] at ho78 | (simp only [Int.reduceToNat] at ho78; rw [← Ny274.out] at ho78)); have HO276 := aM (Kd.R_lower (Kd.R_newM (M := fun k_ => (w.heap.size ≤ k_)) ho78 (below_size (xG1 HB.out GE266.out)) (fun k_ h_ => h_)) (below_size (xG1 HB.out GE266.out))); replace BK266 := yK BK266 hb; replace HB := yS1 HB GE266 hb; clear hb ho78) | ((with_reducible refine gate_dst (N := 70) rfl ?_); refine Kd.R_lit (Kd.int .i64) _ 3 ?hg (N := 70) ?hd (xs := ([] : List Int)) (inner := []) (ok := fun _ => True) (okp := fun _ => True) ?hr ?hp (fun _ hk => hk) trivial (Below.refl _ _) (Nat.le_refl _) (by simp) ?_; (case hd => rfl); (case hg => rfl); (case hr => first | (go_simp; done) | (go_simp; rfl)); (case hp => exact (Reps.none _ _)); intro v278 w79 ho80 hb hg_ hnew_; clear hg_ hnew_; (first | rw [← Ny277.out] at ho80 | (simp only [Int.reduceToNat] at ho80; rw [← Ny277.out] at ho80)); have HO279 := aM (Kd.R_lower (Kd.R_new' (Kd.R_newM (M := fun k_ => (w.heap.size ≤ k_)) ho80 (below_size (xG1 HB.out GE266.out)) (fun k_ h_ => h_)) (Kd.R_lt (xR HO276.out))) (below_size (xG1 HB.out GE266.out))); replace HO276 := aM (Kd.R_elder' (xR HO276.out) (Kd.R_base ho80) hb); replace BK266 := yK BK266 hb; replace HB := yS1 HB GE266 hb; clear hb ho80))
    go_ret2
    exact ⟨_, _, yF, Kd.R_V (zR (rM HO276.out (fun _ hk => ⟨hk.1.1, hk.2⟩))), zR (rM HO279.out (fun _ hk => hk.1.1)), xG1 HB.out GE266.out⟩
   rw [if_pos c12] at H
   have c12b0 := decide_eq_true c12
   clear c12
   obtain ⟨y280, hy280⟩ := yE (([] : List Int) : List Int)
   replace H : ((spec_l4Choose.f k1 (l0_0.length : Int) x4_1 y280).bind fun t283 => (spec_l4Find.l1 k1 x4_1 t283 0 l0_0 l0_1)) = some (r1, r2) := yI hy280 H
   have Ny280 := aM hy280
   clear hy280
   replace H := oB.mp H
   obtain ⟨t283, A130, H⟩ := H
   have A13 := aM A130
   clear A130
   have H' := aM H
   clear H
   have hcz14_0 : wr.cell? ⟨gb266, 0, none⟩ = some (.slice A0_0 l0_0.length c0_0) := (bC BK266.out 0).trans rfl
   have hcz14_1 : wr.cell? ⟨gb266, 1, none⟩ = some (.slice A0_1 l0_1.length c0_1) := (bC BK266.out 1).trans rfl
   have hfz14_0 := bF BK266.out 0
   have hfz14_1 := bF BK266.out 1
   have p273 : 0 ≤ (0 : Int) := (by omega)
   have q273 : 0 < (l0_0.length : Int) := yA
   obtain ⟨ad273, A273_0, c273_0, e273, hx273_0, hl273_0, hi273_0⟩ := at_L1 HR0_0.out 0 p273 q273
   cases e273
   have qi273 : (0 < l0_0.length) = True := eq_true (by omega)
   (try rw [show ((0 : Int)).toNat = 0 from rfl] at hx273_0)
   (try rw [Addr.add_zero'] at hx273_0)
   replace hx273_0 := (HB.out.cell (World.block_lt_of_cell? w _ hx273_0)).trans hx273_0
   have HR273_0 := aM hi273_0
   have HC273_0 := aM hl273_0
   clear hi273_0 hl273_0
   replace p273 := eq_true p273
   replace q273 := eq_true q273
   go_wp2_with (first | ((with_reducible refine gate_dst (N := 32) rfl ?_); refine Kd.R_lit (Kd.int .i64) _ 3 ?hg (N := 32) ?hd (xs := ([] : List Int)) (inner := []) (ok := fun _ => True) (okp := fun _ => True) ?hr ?hp (fun _ hk => hk) trivial (Below.refl _ _) (Nat.le_refl _) (by simp) ?_; (case hd => rfl); (case hg => rfl); (case hr => first | (go_simp; done) | (go_simp; rfl)); (case hp => exact (Reps.none _ _)); intro v281 w15 ho16 hb hg_ hnew_; clear hg_ hnew_; (first | rw [← Ny280.out] at ho16 | (simp only [Int.reduceToNat] at ho16; rw [← Ny280.out] at ho16)); have HO282 := aM (Kd.R_lower (Kd.R_newM (M := fun k_ => (w.heap.size ≤ k_)) ho16 (below_size (xG1 HB.out GE266.out)) (fun k_ h_ => h_)) (below_size (xG1 HB.out GE266.out))); replace BK266 := yK BK266 hb; replace HB := yS1 HB GE266 hb; clear hb ho16; obtain ⟨Ao17, co17, eo17⟩ := Kd.R_slice HO282.out; subst eo17) | (refine yL 33 Try.func71 #[.int .i64 (l0_0.length : Int), .int .i64 x4_1, .slice Ao17 y280.length co17] ?_; (with_reducible refine (spec_l4Choose.calls k1 (l0_0.length : Int) x4_1 (fun k_ => some k_ = (.slice Ao17 y280.length co17 : Value).ownBlock) _ _ y280 t283 _ ?side1 A13.out).mono ?_); (case side1 => exact Kd.R_V (Kd.R_tight rfl (Kd.R_types (HO282.out) BK266.out (by decide)))); rintro e w18 ⟨v284, rfl, ho0, hb⟩; refine ⟨_, rfl, ?_⟩; have HO285 := aM (Kd.N_lower (Kd.N_mono (ok' := fun k_ => (w.heap.size ≤ k_) ∧ k_ ≠ gb266) ho0 (fun k_ hk_ => ⟨Or.elim hk_ (fun hs_ => ((Kd.R_types (HO282.out) BK266.out (by decide)).1 k_ hs_.symm).1.1) (fun hn_ => (Nat.le_trans (below_size (xG1 HB.out GE266.out)) hn_)), Or.elim hk_ (fun hs_ => ((Kd.R_types (HO282.out) BK266.out (by decide)).1 k_ hs_.symm).2) (fun hn_ => (Kd.freshB (g := gb266) (o := .cells #[.slice (some ad273) l0_0.length c0_0, .slice A0_1 l0_1.length c0_1] 43 (0, 0)) (xB BK266.out) k_ hn_))⟩)) (below_size (xG1 HB.out GE266.out))); replace HO282 := aM (Kd.R_below (xR HO282.out) hb); replace BK266 := yK BK266 hb; replace HB := yS1 HB GE266 hb; (try clear hb; try clear hk; try clear ho0)))
   go_loopg [6] k1 (fun kq v6 w' => ∃ (x6_2 : Int), v6 = .int .i64 x6_2 ∧ Aside0 (spec_l4Find.l1 kq x4_1 t283 x6_2 l0_0 l0_1 = some (r1, r2)) ∧ Aside0 (kq ≤ k1) ∧ Aside0 (Kd.N (Kd.slice 3 (Kd.int .i64)) 22 w' w.heap.size (fun k_ => (w.heap.size ≤ k_) ∧ k_ ≠ gb266) v284 t283) ∧ Aside0 (w'.heap[gb266]? = some (.cells #[(.slice (some ad273) l0_0.length c0_0), (.slice A0_1 l0_1.length c0_1)] 43 (0, 0))) ∧ Aside0 (Below w.heap.size w w'))
   case atStart => exact ⟨(0), yZ, H', ⟨Nat.le_refl _⟩, ⟨xN HO285.out⟩, ⟨xB BK266.out⟩, ⟨xG1 HB.out GE266.out⟩⟩
   case round =>
    clear H'
    try clear c11; try clear c11b0; try clear c11b1; try clear c12; try clear c12b0; try clear hcz14_0; try clear hcz14_1; try clear hfz14_0; try clear hfz14_1; try clear hx273_0; try clear p273; try clear q273
    obtain ⟨x6_2, rfl, HA, HK2, HO_5, BK266, HB⟩ := hrel
    cases gk with
    | zero => exact absurd HA.out (by simp [spec_l4Find.l1])
    | succ k2 =>
     have H := HA.out
     clear HA
     simp only [spec_l4Find.l1] at H
     by_cases c19 : x6_2 < (t283.length : Int)
     rotate_left
     ·
      rw [if_neg c19] at H
      have c19b0 := decide_eq_false c19
      clear c19
      have H' := aM H
      clear H
      obtain ⟨Ao75, co75, eo75⟩ := Kd.N_slice HO_5.out
      subst eo75
      go_wp2
      go_roundg k2
      case measure => have := HK1.out; have := HK2.out; omega
      case rel => exact ⟨(wrap64 (x4_1 + 1)), yZ, H', ⟨by have := HK1.out; have := HK2.out; omega⟩, ⟨xB BK266.out⟩, ⟨xG1 HB.out GE266.out⟩⟩
     rw [if_pos c19] at H
     have c19b0 := decide_eq_true c19
     clear c19
     by_cases c20 : 0 ≤ x6_2
     rotate_left
     ·
      rw [if_neg c20] at H
      exact absurd H (by simp)
     rw [if_pos c20] at H
     have c20b0 := decide_eq_true c20
     clear c20
     replace H := oB.mp H
     obtain ⟨⟨t287, t290⟩, A210, H⟩ := H
     (try dsimp only at H)
     have A21 := aM A210
     clear A210
     replace H := oB.mp H
     obtain ⟨t294, A220, H⟩ := H
     have A22 := aM A220
     clear A220
     replace H := oB.mp H
     obtain ⟨⟨t297, t298⟩, A230, H⟩ := H
     (try dsimp only at H)
     have A23 := aM A230
     clear A230
     by_cases c24 : t298 = true
     rotate_left
     ·
      replace c24 := Bool.eq_false_iff.mpr c24
      subst c24
      rw [if_neg (show ¬ (false = true) by decide)] at H
      have H' := aM H
      clear H
      obtain ⟨Ao61, co61, eo61⟩ := Kd.N_slice HO_5.out
      subst eo61
      try go_wp2
      replace HO_5 := aM (Kd.N_drew HO_5.out)
      replace BK266 := aM (bD BK266.out)
      replace HB := aM (eD HB.out)
      have p286 : 0 ≤ (x6_2 : Int) := yA
      have q286 : x6_2 < (t283.length : Int) := yA
      obtain ⟨ad286, A286_0, c286_0, e286, hx286_0, hl286_0, hi286_0⟩ := at_L1 (Kd.N_reads' HO_5.out).2.2 x6_2 p286 q286
      cases e286
      obtain ⟨ce286, hce286, hMe286, hcc286⟩ := Kd.N_get HO_5.out [] x6_2 p286 (by first | exact q286 | exact yA | (have e_ := (Kd.N_reads' HO_5.out).1; omega))
      obtain ⟨ua286_0, uc286_0, rfl, ul286_0, ge286_0⟩ := Kd.FK_slice_open hMe286
      have hv286_0 := hcc286 0 _ rfl
      rw [Nat.add_zero, show ((Kd.slice 3 (Kd.int .i64))).sz = 1 from rfl, Nat.mul_one] at hv286_0
      replace hv286_0 := Option.some.inj (hv286_0.symm.trans hx286_0)
      injection hv286_0 with hva_ hvn_ hvc_
      rw [hva_] at ge286_0
      rw [hvc_] at ul286_0
      have HL286_0 := aM (show Kd.V (Kd.int .i64) 3 _ w.heap.size _ _ (rd_L1 t283 x6_2) from Kd.V_mk ul286_0 ge286_0)
      clear hva_ hvn_ hvc_ ge286_0 ul286_0 hcc286 hce286
      have HR286_0 := aM hi286_0
      have HC286_0 := aM hl286_0
      clear hi286_0 hl286_0
      replace p286 := eq_true p286
      replace q286 := eq_true q286
      refine start_ (n := 8) (S := fun w' => w'.cell? ⟨gb266, 0, none⟩ = some (.slice (some ad273) l0_0.length c0_0) ∧ w'.cell? ⟨gb266, 1, none⟩ = some (.slice A0_1 l0_1.length c0_1) ∧ w'.cell? (ad286.add (x6_2).toNat) = some (.slice A286_0 (rd_L1 t283 x6_2).length c286_0)) (ds := []) (bm 8 0) (by kernel_rfl) rfl rfl ⟨(bC BK266.out 0).trans rfl, (bC BK266.out 1).trans rfl, hx286_0⟩ (fun hHeld => ?_); refine with_tabW spec_l4Find.tab10 spec_l4Find.bits10 (fun HT_ HW_ => ?_)
      generalize wr.drew = w62 at HO_5 BK266 HB HL286_0 HR286_0 hx286_0 hHeld ⊢
      refine yP 1 41 (bm 8 2) HT_ ?_
      refine yP 2 42 (bm 8 6) HT_ ?_
      refine yP 3 43 (bm 8 14) HT_ ?_
      refine yT3 0 40 (bm 8 15) HT_ HW_ hHeld ?_
      refine yT3 4 44 (bm 8 31) HT_ HW_ hHeld ?_
      refine join_ (σ := Value × Value × Nat) 1 (bm 8 127) (fun s_ => [(45, .agg #[s_.1, s_.2.1]), (7, .pointer (some ⟨s_.2.2, 0, none⟩))]) (fun s_ w' => (w'.cell? ⟨gb266, 0, none⟩ = some (.slice (some ad273) l0_0.length c0_0) ∧ w'.cell? ⟨gb266, 1, none⟩ = some (.slice A0_1 l0_1.length c0_1) ∧ w'.cell? (ad286.add (x6_2).toNat) = some (.slice A286_0 (rd_L1 t283 x6_2).length c286_0)) ∧ (Kd.V (Kd.int .i64) 3 w' w.heap.size (fun k_ => (w.heap.size ≤ k_) ∧ some k_ ≠ (s_.1 : Value).ownBlock ∧ some k_ ≠ (s_.2.1 : Value).ownBlock ∧ some k_ ≠ (.slice (some ad286) t283.length co61 : Value).ownBlock ∧ k_ ≠ gb266 ∧ k_ ≠ s_.2.2) (.slice A286_0 (rd_L1 t283 x6_2).length c286_0) (rd_L1 t283 x6_2)) ∧ (Kd.N (Kd.slice 3 (Kd.int .i64)) 22 w' w.heap.size (fun k_ => (w.heap.size ≤ k_) ∧ some k_ ≠ (s_.2.1 : Value).ownBlock ∧ some k_ ≠ (.slice (some ad286) t283.length co61 : Value).ownBlock ∧ k_ ≠ gb266 ∧ k_ ≠ s_.2.2) s_.1 t287) ∧ (Kd.R (Kd.int .i64) 3 w' w.heap.size (fun k_ => (w.heap.size ≤ k_)) s_.2.1 t290) ∧ (Kd.N (Kd.slice 3 (Kd.int .i64)) 22 w' w.heap.size (fun k_ => (w.heap.size ≤ k_) ∧ some k_ ≠ (s_.1 : Value).ownBlock ∧ some k_ ≠ (s_.2.1 : Value).ownBlock ∧ k_ ≠ gb266 ∧ k_ ≠ s_.2.2) (.slice (some ad286) t283.length co61) t283) ∧ (w'.heap[gb266]? = some (.cells #[.slice (some ad273) l0_0.length c0_0, .slice A0_1 l0_1.length c0_1] 43 (0, 0))) ∧ (w'.heap[s_.2.2]? = some (.cells #[.slice none 0 0, .slice none 0 0] 43 (0, 0))) ∧ (w.heap.size ≤ s_.2.2) ∧ (w.heap.size ≤ s_.2.2) ∧ (gb266 ≠ s_.2.2) ∧ (s_.2.2 ≠ gb266) ∧ (Below w.heap.size w w')) ?_ ?_
      rotate_left
      ·
       intro hCont
       refine two_ (i := 5) (j := 6) (Ni := some 45) (Nj := some 7) (bm 8 63) (bm 8 95) rfl rfl rfl rfl (two_of HT_.out (by kernel_rfl)) (by decide) (by decide) (fun K hK => ?_) (fun K hK => ?_)
       ·
        skip
        refine yG Try.func72 #[.agg #[.slice (some ad273) l0_0.length c0_0, .slice A0_1 l0_1.length c0_1], .slice A286_0 (rd_L1 t283 x6_2).length c286_0] ?_
        with_reducible refine (spec_l2Part.calls k2 _ _ l0_0 _ _ l0_1 _ _ (rd_L1 t283 x6_2) t287 t290 _ ?side1 ?side2 ?side3 ?side4 ?side5 ?side6 A21.out).mono ?_
        (case side1 => exact xC (Kd.C_below HR0_0.out HB.out))
        (case side2 => exact HC0_0.out)
        (case side3 => exact xC (Kd.C_below HR0_1.out HB.out))
        (case side4 => exact HC0_1.out)
        (case side5 => repeat (first | exact (by repeat (first | (with_reducible exact HR286_0.out) | (with_reducible refine Kd.C_alloc ?_ _) | (with_reducible refine Kd.C_drewN ?_ _) | (with_reducible refine Kd.C_drew ?_) | exact HR286_0.out)) | (with_reducible refine Kd.C_alloc ?_ _) | (with_reducible refine Kd.C_drewN ?_ _) | (with_reducible refine Kd.C_drew ?_)))
        (case side6 => exact HC286_0.out)
        rintro e w63 ⟨v288, v291, rfl, ho0, ho1, hb⟩
        have HS2_ := (hb.cell (World.block_lt_of_cell? _ _ (hHeld.2.2))).trans (hHeld.2.2)
        refine ⟨_, rfl, ?_⟩
        replace HL286_0 := aM (Kd.V_mono (Kd.V_told (Kd.V_told (Kd.V_old (xV HL286_0.out) hb) (by first | exact Kd.N_base ho0 | exact Kd.S_base ho0 | exact Kd.R_base ho0)) (Kd.R_base ho1)) (fun _ h_ => h_.1))
        have HO289 := aM (Kd.N_lower (Kd.N_mono (ok' := fun k_ => (w.heap.size ≤ k_) ∧ some k_ ≠ (v291 : Value).ownBlock ∧ some k_ ≠ (.slice (some ad286) t283.length co61 : Value).ownBlock ∧ k_ ≠ gb266) (Kd.S_N (Kd.S_bound ho0)) (fun k_ hk_ => ⟨(Nat.le_trans (below_size (xG1 HB.out GE266.out)) hk_.2.1), hk_.1, (Kd.fresh' (Kd.N_lt (xN HO_5.out)) k_ hk_.2.1), (Kd.freshB (g := gb266) (o := .cells #[.slice (some ad273) l0_0.length c0_0, .slice A0_1 l0_1.length c0_1] 43 (0, 0)) (xB BK266.out) k_ hk_.2.1)⟩)) (below_size (xG1 HB.out GE266.out)))
        replace HO_5 := aM (Kd.N_mono (Kd.N_told (Kd.N_told (Kd.N_old (xN HO_5.out) hb) (by first | exact Kd.N_base ho0 | exact Kd.S_base ho0 | exact Kd.R_base ho0)) (Kd.R_base ho1)) (fun _ h_ => h_.1))
        have HO292 := aM (Kd.R_lower (Kd.R_newM (M := fun k_ => (w.heap.size ≤ k_)) ho1 (below_size (xG1 HB.out GE266.out)) (fun k_ h_ => h_)) (below_size (xG1 HB.out GE266.out)))
        replace BK266 := yK BK266 hb
        replace HR286_0 := aM (Kd.C_below (by repeat (first | (with_reducible exact HR286_0.out) | (with_reducible refine Kd.C_alloc ?_ _) | (with_reducible refine Kd.C_drewN ?_ _) | (with_reducible refine Kd.C_drew ?_) | exact HR286_0.out)) hb)
        replace HB := yS1 HB GE266 hb
        (try clear hb)
        (try clear hb2)
        (try clear hk)
        (try clear hi)
        (try clear ho0)
        (try clear ho1)
        refine hK.out _ _ ⟨(bC BK266.out 0).trans rfl, (bC BK266.out 1).trans rfl, HS2_⟩ (fun hHeld => ?_)
        clear hK K
        refine norm_ (a' := ?_) ?_ ?_
        rotate_left
        ·
         show Act.put _ (some 45) _ = _
         simp only [Act.put, sA, sZ, sU, i64_w, i32_w]
         rfl
        refine yO 6 7 (bm 8 127) HT_ (fun K hK => ?_)
        refine box_step ?hg (N := 7) ?hd (cs := #[.slice none 0 0, .slice none 0 0]) (t := 43) ?hr ?_; (case hd => rfl); (case hg => rfl); (case hr => first | (go_simp; done) | (go_simp; rfl))
        intro gb293 hg w64 hbox hb
        have HS2_ := (hb.cell (World.block_lt_of_cell? _ _ (hHeld.2.2))).trans (hHeld.2.2)
        replace HO_5 := aM (Kd.N_below (Kd.N_elderB (xN HO_5.out) gb293 (Nat.le_of_eq hg.symm)) hb)
        replace HL286_0 := aM (Kd.V_below (Kd.V_elderB (xV HL286_0.out) gb293 (Nat.le_of_eq hg.symm)) hb)
        replace HO289 := aM (Kd.N_below (Kd.N_elderB (xN HO289.out) gb293 (Nat.le_of_eq hg.symm)) hb)
        replace HO292 := aM (Kd.R_below (xR HO292.out) hb)
        replace HR286_0 := aM (Kd.C_below (by repeat (first | (with_reducible exact HR286_0.out) | (with_reducible refine Kd.C_alloc ?_ _) | (with_reducible refine Kd.C_drewN ?_ _) | (with_reducible refine Kd.C_drew ?_) | exact HR286_0.out)) hb)
        have BK293 := aM (hbox)
        have GW293 := yV1 hg HB GE266
        have GE293 := yV1 hg HB GE266
        replace HB := yS1 HB GE266 hb
        have NB266_293 := yX hg BK266
        have NB293_266 := yY (yX hg BK266)
        replace BK266 := yK BK266 hb
        clear hb hbox hg
        refine hK.out _ _ ⟨(bC BK266.out 0).trans rfl, (bC BK266.out 1).trans rfl, HS2_⟩ (fun hHeld => ?_)
        clear hK K
        refine norm_ (a' := ?_) ?_ ?_
        rotate_left
        ·
         show Act.put _ (some 7) _ = _
         simp only [Act.put, sA, sZ, sU, i64_w, i32_w]
         rfl
        exact norm_ (by simp only [putAll, Act.put, sA, sZ, sU]) (hCont (v288, v291, gb293) _ ⟨hHeld, (by (with_reducible repeat (first | apply Kd.V_alloc | apply Kd.V_drewN | apply Kd.V_drew)); exact Kd.V_mono HL286_0.out (fun _ hk => ⟨hk.1.1.1.1.1, ⟨hk.1.1.2, ⟨hk.1.2, ⟨hk.1.1.1.2, ⟨hk.1.1.1.1.2, hk.2⟩⟩⟩⟩⟩)), (zN (Kd.N_mono HO289.out (fun _ hk => ⟨hk.1.1, ⟨hk.1.2.1, ⟨hk.1.2.2.1, ⟨hk.1.2.2.2, hk.2⟩⟩⟩⟩))), (zR (rM HO292.out (fun _ hk => hk.1))), (zN (Kd.N_mono HO_5.out (fun _ hk => ⟨hk.1.1.1.1, ⟨hk.1.1.2, ⟨hk.1.2, ⟨hk.1.1.1.2, hk.2⟩⟩⟩⟩))), (xB BK266.out), (xB BK293.out), GW293.out, GE293.out, NB266_293.out, NB293_266.out, (xG2 HB.out GE266.out GE293.out)⟩)
       ·
        skip
        refine box_step ?hg (N := 7) ?hd (cs := #[.slice none 0 0, .slice none 0 0]) (t := 43) ?hr ?_; (case hd => rfl); (case hg => rfl); (case hr => first | (go_simp; done) | (go_simp; rfl))
        intro gb293 hg w63 hbox hb
        have HS2_ := (hb.cell (World.block_lt_of_cell? _ _ (hHeld.2.2))).trans (hHeld.2.2)
        replace HO_5 := aM (Kd.N_below (Kd.N_elderB (xN HO_5.out) gb293 (Nat.le_of_eq hg.symm)) hb)
        replace HL286_0 := aM (Kd.V_below (Kd.V_elderB (xV HL286_0.out) gb293 (Nat.le_of_eq hg.symm)) hb)
        replace HR286_0 := aM (Kd.C_below (by repeat (first | (with_reducible exact HR286_0.out) | (with_reducible refine Kd.C_alloc ?_ _) | (with_reducible refine Kd.C_drewN ?_ _) | (with_reducible refine Kd.C_drew ?_) | exact HR286_0.out)) hb)
        have BK293 := aM (hbox)
        have GW293 := yV1 hg HB GE266
        have GE293 := yV1 hg HB GE266
        replace HB := yS1 HB GE266 hb
        have NB266_293 := yX hg BK266
        have NB293_266 := yY (yX hg BK266)
        replace BK266 := yK BK266 hb
        clear hb hbox hg
        refine hK.out _ _ ⟨(bC BK266.out 0).trans rfl, (bC BK266.out 1).trans rfl, HS2_⟩ (fun hHeld => ?_)
        clear hK K
        refine norm_ (a' := ?_) ?_ ?_
        rotate_left
        ·
         show Act.put _ (some 7) _ = _
         simp only [Act.put, sA, sZ, sU, i64_w, i32_w]
         rfl
        refine yO 5 45 (bm 8 127) HT_ (fun K hK => ?_)
        refine yG Try.func72 #[.agg #[.slice (some ad273) l0_0.length c0_0, .slice A0_1 l0_1.length c0_1], .slice A286_0 (rd_L1 t283 x6_2).length c286_0] ?_
        with_reducible refine (spec_l2Part.calls k2 _ _ l0_0 _ _ l0_1 _ _ (rd_L1 t283 x6_2) t287 t290 _ ?side1 ?side2 ?side3 ?side4 ?side5 ?side6 A21.out).mono ?_
        (case side1 => exact xC (Kd.C_below HR0_0.out HB.out))
        (case side2 => exact HC0_0.out)
        (case side3 => exact xC (Kd.C_below HR0_1.out HB.out))
        (case side4 => exact HC0_1.out)
        (case side5 => repeat (first | exact (by repeat (first | (with_reducible exact HR286_0.out) | (with_reducible refine Kd.C_alloc ?_ _) | (with_reducible refine Kd.C_drewN ?_ _) | (with_reducible refine Kd.C_drew ?_) | exact HR286_0.out)) | (with_reducible refine Kd.C_alloc ?_ _) | (with_reducible refine Kd.C_drewN ?_ _) | (with_reducible refine Kd.C_drew ?_)))
        (case side6 => exact HC286_0.out)
        rintro e w64 ⟨v288, v291, rfl, ho0, ho1, hb⟩
        have HS2_ := (hb.cell (World.block_lt_of_cell? _ _ (hHeld.2.2))).trans (hHeld.2.2)
        refine ⟨_, rfl, ?_⟩
        replace HL286_0 := aM (Kd.V_mono (Kd.V_told (Kd.V_told (Kd.V_old (xV HL286_0.out) hb) (by first | exact Kd.N_base ho0 | exact Kd.S_base ho0 | exact Kd.R_base ho0)) (Kd.R_base ho1)) (fun _ h_ => h_.1))
        have HO289 := aM (Kd.N_lower (Kd.N_mono (ok' := fun k_ => (w.heap.size ≤ k_) ∧ some k_ ≠ (v291 : Value).ownBlock ∧ some k_ ≠ (.slice (some ad286) t283.length co61 : Value).ownBlock ∧ k_ ≠ gb266 ∧ k_ ≠ gb293) (Kd.S_N (Kd.S_bound ho0)) (fun k_ hk_ => ⟨(Nat.le_trans (below_size (xG2 HB.out GE266.out GE293.out)) hk_.2.1), hk_.1, (Kd.fresh' (Kd.N_lt (xN HO_5.out)) k_ hk_.2.1), (Kd.freshB (g := gb266) (o := .cells #[.slice (some ad273) l0_0.length c0_0, .slice A0_1 l0_1.length c0_1] 43 (0, 0)) (xB BK266.out) k_ hk_.2.1), (Kd.freshB (g := gb293) (o := .cells #[.slice none 0 0, .slice none 0 0] 43 (0, 0)) (xB BK293.out) k_ hk_.2.1)⟩)) (below_size (xG2 HB.out GE266.out GE293.out)))
        replace HO_5 := aM (Kd.N_mono (Kd.N_told (Kd.N_told (Kd.N_old (xN HO_5.out) hb) (by first | exact Kd.N_base ho0 | exact Kd.S_base ho0 | exact Kd.R_base ho0)) (Kd.R_base ho1)) (fun _ h_ => h_.1))
        have HO292 := aM (Kd.R_lower (Kd.R_newM (M := fun k_ => (w.heap.size ≤ k_)) ho1 (below_size (xG2 HB.out GE266.out GE293.out)) (fun k_ h_ => h_)) (below_size (xG2 HB.out GE266.out GE293.out)))
        replace BK266 := yK BK266 hb
        replace HR286_0 := aM (Kd.C_below (by repeat (first | (with_reducible exact HR286_0.out) | (with_reducible refine Kd.C_alloc ?_ _) | (with_reducible refine Kd.C_drewN ?_ _) | (with_reducible refine Kd.C_drew ?_) | exact HR286_0.out)) hb)
        replace BK293 := yK BK293 hb
        replace HB := yS2 HB GE266 GE293 hb
        (try clear hb)
        (try clear hb2)
        (try clear hk)
        (try clear hi)
        (try clear ho0)
        (try clear ho1)
        refine hK.out _ _ ⟨(bC BK266.out 0).trans rfl, (bC BK266.out 1).trans rfl, HS2_⟩ (fun hHeld => ?_)
        clear hK K
        refine norm_ (a' := ?_) ?_ ?_
        rotate_left
        ·
         show Act.put _ (some 45) _ = _
         simp only [Act.put, sA, sZ, sU, i64_w, i32_w]
         rfl
        exact norm_ (by simp only [putAll, Act.put, sA, sZ, sU]) (hCont (v288, v291, gb293) _ ⟨hHeld, (by (with_reducible repeat (first | apply Kd.V_alloc | apply Kd.V_drewN | apply Kd.V_drew)); exact Kd.V_mono HL286_0.out (fun _ hk => ⟨hk.1.1.1.1.1, ⟨hk.1.2, ⟨hk.2, ⟨hk.1.1.1.2, ⟨hk.1.1.1.1.2, hk.1.1.2⟩⟩⟩⟩⟩)), (xN HO289.out), (zR (rM HO292.out (fun _ hk => hk.1))), (zN (Kd.N_mono HO_5.out (fun _ hk => ⟨hk.1.1.1.1, ⟨hk.1.2, ⟨hk.2, ⟨hk.1.1.1.2, hk.1.1.2⟩⟩⟩⟩))), (xB BK266.out), (xB BK293.out), GW293.out, GE293.out, NB266_293.out, NB293_266.out, (xG2 HB.out GE266.out GE293.out)⟩)
      rintro ⟨v288, v291, gb293⟩ w65 ⟨hS_, h0_, h1_, h2_, h3_, h4_, h5_, h6_, h7_, h8_, h9_, h10_⟩
      have n0_ : Aside0 (Kd.V (Kd.int .i64) 3 w65 w.heap.size (fun k_ => (w.heap.size ≤ k_) ∧ some k_ ≠ (v288 : Value).ownBlock ∧ some k_ ≠ (v291 : Value).ownBlock ∧ some k_ ≠ (.slice (some ad286) t283.length co61 : Value).ownBlock ∧ k_ ≠ gb266 ∧ k_ ≠ gb293) (.slice A286_0 (rd_L1 t283 x6_2).length c286_0) (rd_L1 t283 x6_2)) := ⟨h0_⟩
      have n1_ : Aside0 (Kd.N (Kd.slice 3 (Kd.int .i64)) 22 w65 w.heap.size (fun k_ => (w.heap.size ≤ k_) ∧ some k_ ≠ (v291 : Value).ownBlock ∧ some k_ ≠ (.slice (some ad286) t283.length co61 : Value).ownBlock ∧ k_ ≠ gb266 ∧ k_ ≠ gb293) v288 t287) := ⟨h1_⟩
      have n2_ : Aside0 (Kd.R (Kd.int .i64) 3 w65 w.heap.size (fun k_ => (w.heap.size ≤ k_)) v291 t290) := ⟨h2_⟩
      have n3_ : Aside0 (Kd.N (Kd.slice 3 (Kd.int .i64)) 22 w65 w.heap.size (fun k_ => (w.heap.size ≤ k_) ∧ some k_ ≠ (v288 : Value).ownBlock ∧ some k_ ≠ (v291 : Value).ownBlock ∧ k_ ≠ gb266 ∧ k_ ≠ gb293) (.slice (some ad286) t283.length co61) t283) := ⟨h3_⟩
      have n4_ : Aside0 (w65.heap[gb266]? = some (.cells #[.slice (some ad273) l0_0.length c0_0, .slice A0_1 l0_1.length c0_1] 43 (0, 0))) := ⟨h4_⟩
      have n5_ : Aside0 (w65.heap[gb293]? = some (.cells #[.slice none 0 0, .slice none 0 0] 43 (0, 0))) := ⟨h5_⟩
      have n6_ : Aside0 (w.heap.size ≤ gb293) := ⟨h6_⟩
      have n7_ : Aside0 (w.heap.size ≤ gb293) := ⟨h7_⟩
      have n8_ : Aside0 (gb266 ≠ gb293) := ⟨h8_⟩
      have n9_ : Aside0 (gb293 ≠ gb266) := ⟨h9_⟩
      have n10_ : Aside0 (Below w.heap.size w w65) := ⟨h10_⟩
      clear HO_5 BK266 HB h0_ h1_ h2_ h3_ h4_ h5_ h6_ h7_ h8_ h9_ h10_
      have HL286_0 := n0_
      have HO289 := n1_
      have HO292 := n2_
      have HO_5 := n3_
      have BK266 := n4_
      have BK293 := n5_
      have GW293 := n6_
      have GE293 := n7_
      have NB266_293 := n8_
      have NB293_266 := n9_
      have HB := n10_
      clear n0_ n1_ n2_ n3_ n4_ n5_ n6_ n7_ n8_ n9_ n10_
      have hHeld : w65.cell? ⟨gb266, 0, none⟩ = some (.slice (some ad273) l0_0.length c0_0) ∧ w65.cell? ⟨gb266, 1, none⟩ = some (.slice A0_1 l0_1.length c0_1) ∧ w65.cell? (ad286.add (x6_2).toNat) = some (.slice A286_0 (rd_L1 t283 x6_2).length c286_0) := hS_
      obtain ⟨Ao66, co66, eo66⟩ := Kd.N_slice HO289.out
      (first | subst eo66 | (injection eo66 with f1_ f2_ f3_; have f4_ := f1_.symm; have f5_ := f3_.symm; clear f1_ f2_ f3_; subst f4_; subst f5_))
      obtain ⟨Ao68, co68, eo68⟩ := Kd.R_slice HO292.out
      (first | subst eo68 | (injection eo68 with f1_ f2_ f3_; have f4_ := f1_.symm; have f5_ := f3_.symm; clear f1_ f2_ f3_; subst f4_; subst f5_))
      refine norm_ (a' := ?_) ?_ ?_
      rotate_left
      ·
       simp only [putAll, Act.put, sA, sZ, sU]
       rfl
      refine one_ (i := 7) (N := none) (bm 8 255) rfl rfl (one_of HT_.out (by kernel_rfl)) (by decide) (fun K hK => ?_)
      have hs67 : w65.cell? ⟨gb293, 0, none⟩ = some (.slice none 0 0) := (bC BK293.out 0).trans rfl
      have hfs67 := bF BK293.out 0
      have hns67_0 := NB266_293.out
      have hms67_0 := NB293_266.out
      have hs69 : w65.cell? ⟨gb293, 1, none⟩ = some (.slice none 0 0) := (bC BK293.out 1).trans rfl
      have hfs69 := bF BK293.out 1
      have hns69_0 := NB266_293.out
      have hms69_0 := NB293_266.out
      refine skip_ (w1 := ?_) (by rfl) rfl ?_ ?_
      rotate_left
      ·
       go_simp
       rfl
      refine hK.out _ _ ⟨((cell_far (p := ⟨gb293, _, none⟩) NB266_293.out _).trans (((cell_far (p := ⟨gb293, _, none⟩) NB266_293.out _).trans (hHeld.1)))), ((cell_far (p := ⟨gb293, _, none⟩) NB266_293.out _).trans (((cell_far (p := ⟨gb293, _, none⟩) NB266_293.out _).trans (hHeld.2.1)))), ((cell_far (p := ⟨gb293, _, none⟩) (by first | exact Kd.own_blk (Kd.N_away HO_5.out (fun _ hk => hk.2.2.2.2)) | (rw [add_block]; exact Kd.own_blk (Kd.N_away HO_5.out (fun _ hk => hk.2.2.2.2))) | (show (Addr.add _ _).block ≠ _; rw [add_block]; exact Kd.own_blk (Kd.N_away HO_5.out (fun _ hk => hk.2.2.2.2))) | (dsimp only; exact Kd.own_blk (Kd.N_away HO_5.out (fun _ hk => hk.2.2.2.2)))) _).trans (((cell_far (p := ⟨gb293, _, none⟩) (by first | exact Kd.own_blk (Kd.N_away HO_5.out (fun _ hk => hk.2.2.2.2)) | (rw [add_block]; exact Kd.own_blk (Kd.N_away HO_5.out (fun _ hk => hk.2.2.2.2))) | (show (Addr.add _ _).block ≠ _; rw [add_block]; exact Kd.own_blk (Kd.N_away HO_5.out (fun _ hk => hk.2.2.2.2))) | (dsimp only; exact Kd.own_blk (Kd.N_away HO_5.out (fun _ hk => hk.2.2.2.2)))) _).trans (hHeld.2.2))))⟩ (fun hHeld => ?_)
      clear hK K
      refine done_ (done_of HT_.out (by kernel_rfl)) ?_
      have hnb70 := NB293_266.out
      have hnc70 := NB266_293.out
      have hcz71_0 := yC0 BK293
      have hcz71_1 := yC1 BK293
      have hfz71_0 := bF BK293.out 0
      have hfz71_1 := bF BK293.out 1
      try go_wp2_with (first | (refine yL 49 Try.func74 #[.slice Ao66 t287.length co66] ?_; (with_reducible refine (spec_l4Equations.calls k2 _ _ t287 t294 _ ?side1 ?side2 A22.out).mono ?_); (case side1 => refine (Kd.N_reads' (e := 22) (base := w.heap.size) (ok := fun k_ => ((w.heap.size ≤ k_) ∧ (some k_ ≠ (.slice Ao68 t290.length co68 : Value).ownBlock ∧ (some k_ ≠ (.slice (some ad286) t283.length co61 : Value).ownBlock ∧ (k_ ≠ gb266 ∧ k_ ≠ gb293))))) (n := t287.length) (c := co66) ?_).2.2; exact (zN (Kd.N_mono (Kd.N_far (p := ⟨gb293, 1, none⟩) (Kd.N_far (p := ⟨gb293, 0, none⟩) (Kd.N_mono HO289.out (fun k_ hk => (⟨hk, hk.2.2.2.2⟩ : _ ∧ k_ ≠ gb293))) (fun _ hk => hk.2) (.slice Ao66 t287.length co66)) (fun _ hk => hk.2) (.slice Ao68 t290.length co68)) (fun _ h_ => h_.1)))); (case side2 => exact (Kd.N_reads' HO289.out).2.1); rintro e w72 ⟨v295, rfl, ho0, hb⟩; refine ⟨_, rfl, ?_⟩; replace HL286_0 := aM (Kd.V_elder' (by (with_reducible repeat (first | apply Kd.V_alloc | apply Kd.V_drewN | apply Kd.V_drew)); exact (Kd.V_mono (Kd.V_far (p := ⟨gb293, 1, none⟩) (Kd.V_far (p := ⟨gb293, 0, none⟩) (Kd.V_mono HL286_0.out (fun k_ hk => (⟨hk, hk.2.2.2.2.2⟩ : _ ∧ k_ ≠ gb293))) (fun _ hk => hk.2) (.slice Ao66 t287.length co66)) (fun _ hk => hk.2) (.slice Ao68 t290.length co68)) (fun _ h_ => h_.1))) (by first | exact Kd.N_base ho0 | exact Kd.S_base ho0 | exact Kd.R_base ho0) hb); have HO296 := aM (Kd.N_lower (Kd.N_mono (ok' := fun k_ => (w.heap.size ≤ k_) ∧ some k_ ≠ (.slice (some ad286) t283.length co61 : Value).ownBlock ∧ some k_ ≠ (.slice Ao66 t287.length co66 : Value).ownBlock ∧ some k_ ≠ (.slice Ao68 t290.length co68 : Value).ownBlock ∧ k_ ≠ gb266 ∧ k_ ≠ gb293) (Kd.S_N (Kd.S_bound ho0)) (fun k_ hk_ => ⟨(Nat.le_trans (below_size (xG2 HB.out GE266.out GE293.out)) hk_.2.1), (Kd.fresh' (Kd.N_lt (zN (Kd.N_mono (Kd.N_far (p := ⟨gb293, 1, none⟩) (Kd.N_far (p := ⟨gb293, 0, none⟩) (Kd.N_mono HO_5.out (fun k_ hk => (⟨hk, hk.2.2.2.2⟩ : _ ∧ k_ ≠ gb293))) (fun _ hk => hk.2) (.slice Ao66 t287.length co66)) (fun _ hk => hk.2) (.slice Ao68 t290.length co68)) (fun _ h_ => h_.1)))) k_ hk_.2.1), (Kd.fresh' (Kd.N_lt (zN (Kd.N_mono (Kd.N_far (p := ⟨gb293, 1, none⟩) (Kd.N_far (p := ⟨gb293, 0, none⟩) (Kd.N_mono HO289.out (fun k_ hk => (⟨hk, hk.2.2.2.2⟩ : _ ∧ k_ ≠ gb293))) (fun _ hk => hk.2) (.slice Ao66 t287.length co66)) (fun _ hk => hk.2) (.slice Ao68 t290.length co68)) (fun _ h_ => h_.1)))) k_ hk_.2.1), (Kd.fresh' (Kd.R_lt (zR (rM (Kd.R_far (p := ⟨gb293, 1, none⟩) (Kd.R_far (p := ⟨gb293, 0, none⟩) (Kd.R_types HO292.out BK293.out (by decide)) (fun _ hk => hk.2) (.slice Ao66 t287.length co66)) (fun _ hk => hk.2) (.slice Ao68 t290.length co68)) (fun _ h_ => h_.1)))) k_ hk_.2.1), (Kd.freshB (g := gb266) (o := .cells #[.slice (some ad273) l0_0.length c0_0, .slice A0_1 l0_1.length c0_1] 43 (0, 0)) (by (with_reducible repeat (first | refine bN ?_ _ | refine bD ?_ | refine bA ?_ _)); refine blk_far ?_ NB266_293.out _; (with_reducible repeat (first | refine bN ?_ _ | refine bD ?_ | refine bA ?_ _)); refine blk_far ?_ NB266_293.out _; (with_reducible repeat (first | refine bN ?_ _ | refine bD ?_ | refine bA ?_ _)); exact BK266.out) k_ hk_.2.1), (Kd.freshB (g := gb293) (o := .cells #[.slice Ao66 t287.length co66, .slice Ao68 t290.length co68] 43 (0, 0)) (by (with_reducible repeat (first | refine bN ?_ _ | refine bD ?_ | refine bA ?_ _)); refine blk_put (cs := #[.slice Ao66 t287.length co66, .slice none 0 0]) ?_ 1 _ rfl; (with_reducible repeat (first | refine bN ?_ _ | refine bD ?_ | refine bA ?_ _)); refine blk_put (cs := #[.slice none 0 0, .slice none 0 0]) ?_ 0 _ rfl; (with_reducible repeat (first | refine bN ?_ _ | refine bD ?_ | refine bA ?_ _)); exact BK293.out) k_ hk_.2.1)⟩)) (below_size (xG2 HB.out GE266.out GE293.out))); replace HO_5 := aM (Kd.N_elder' (zN (Kd.N_mono (Kd.N_far (p := ⟨gb293, 1, none⟩) (Kd.N_far (p := ⟨gb293, 0, none⟩) (Kd.N_mono HO_5.out (fun k_ hk => (⟨hk, hk.2.2.2.2⟩ : _ ∧ k_ ≠ gb293))) (fun _ hk => hk.2) (.slice Ao66 t287.length co66)) (fun _ hk => hk.2) (.slice Ao68 t290.length co68)) (fun _ h_ => h_.1))) (by first | exact Kd.N_base ho0 | exact Kd.S_base ho0 | exact Kd.R_base ho0) hb); replace HO289 := aM (Kd.N_elder' (zN (Kd.N_mono (Kd.N_far (p := ⟨gb293, 1, none⟩) (Kd.N_far (p := ⟨gb293, 0, none⟩) (Kd.N_mono HO289.out (fun k_ hk => (⟨hk, hk.2.2.2.2⟩ : _ ∧ k_ ≠ gb293))) (fun _ hk => hk.2) (.slice Ao66 t287.length co66)) (fun _ hk => hk.2) (.slice Ao68 t290.length co68)) (fun _ h_ => h_.1))) (by first | exact Kd.N_base ho0 | exact Kd.S_base ho0 | exact Kd.R_base ho0) hb); replace HO292 := aM (Kd.R_below (zR (rM (Kd.R_far (p := ⟨gb293, 1, none⟩) (Kd.R_far (p := ⟨gb293, 0, none⟩) (Kd.R_types HO292.out BK293.out (by decide)) (fun _ hk => hk.2) (.slice Ao66 t287.length co66)) (fun _ hk => hk.2) (.slice Ao68 t290.length co68)) (fun _ h_ => h_.1))) hb); replace BK266 := yK1 BK266 NB266_293 hb; replace BK293 := aM (bB (g := gb293) (o := .cells #[.slice Ao66 t287.length co66, .slice Ao68 t290.length co68] 43 (0, 0)) (by (with_reducible repeat (first | refine bN ?_ _ | refine bD ?_ | refine bA ?_ _)); refine blk_put (cs := #[.slice Ao66 t287.length co66, .slice none 0 0]) ?_ 1 _ rfl; (with_reducible repeat (first | refine bN ?_ _ | refine bD ?_ | refine bA ?_ _)); refine blk_put (cs := #[.slice none 0 0, .slice none 0 0]) ?_ 0 _ rfl; (with_reducible repeat (first | refine bN ?_ _ | refine bD ?_ | refine bA ?_ _)); exact BK293.out) hb); replace HB := yS2 HB GE266 GE293 hb; (try clear hb; try clear hk; try clear ho0); obtain ⟨Ao73, co73, eo73⟩ := Kd.N_slice HO296.out; subst eo73) | (refine yL 51 Try.func73 #[.slice Ao73 t294.length co73, .int .i64 x4_1] ?_; (with_reducible refine (spec_l4Relation.calls k2 _ _ t294 x4_1 t297 false _ ?side1 ?side2 A23.out).mono ?_); (case side1 => repeat (first | exact (Kd.N_reads' HO296.out).2.2 | (with_reducible refine Kd.C_alloc ?_ _) | (with_reducible refine Kd.C_drewN ?_ _) | (with_reducible refine Kd.C_drew ?_))); (case side2 => exact (Kd.N_reads' HO296.out).2.1); rintro e w74 ⟨v299, rfl, ho0, hb⟩; refine ⟨_, rfl, ?_⟩; replace HO_5 := aM (Kd.N_elder' (xN HO_5.out) (Kd.R_base ho0) hb); replace HL286_0 := aM (Kd.V_elder' (xV HL286_0.out) (Kd.R_base ho0) hb); replace HO289 := aM (Kd.N_elder' (xN HO289.out) (Kd.R_base ho0) hb); replace HO296 := aM (Kd.N_elder' (xN HO296.out) (Kd.R_base ho0) hb); have HO300 := aM (Kd.R_lower (Kd.R_new' (Kd.R_newM (M := fun k_ => (w.heap.size ≤ k_)) ho0 (below_size (xG2 HB.out GE266.out GE293.out)) (fun k_ h_ => h_)) (Kd.R_lt (xR HO292.out))) (below_size (xG2 HB.out GE266.out GE293.out))); replace HO292 := aM (Kd.R_elder' (xR HO292.out) (Kd.R_base ho0) hb); replace BK266 := yK BK266 hb; replace BK293 := yK BK293 hb; replace HB := yS2 HB GE266 GE293 hb; (try clear hb; try clear hk; try clear ho0)))
      go_roundg k2
      case measure => have := HK1.out; have := HK2.out; omega
      case rel => exact ⟨(wrap64 (x6_2 + 1)), yZ, H', ⟨by have := HK1.out; have := HK2.out; omega⟩, ⟨zN (Kd.N_mono HO_5.out (fun _ hk => ⟨hk.1.1.1, hk.1.1.2.2.2.1⟩))⟩, ⟨xB BK266.out⟩, ⟨xG2 HB.out GE266.out GE293.out⟩⟩
     subst c24
     rw [if_pos rfl] at H
     replace H := oB.mp H
     obtain ⟨⟨t301, t302⟩, A250, H⟩ := H
     (try dsimp only at H)
     have A25 := aM A250
     clear A250
     by_cases c26 : t302 = true
     rotate_left
     ·
      replace c26 := Bool.eq_false_iff.mpr c26
      subst c26
      rw [if_neg (show ¬ (false = true) by decide)] at H
      have H' := aM H
      clear H
      obtain ⟨Ao44, co44, eo44⟩ := Kd.N_slice HO_5.out
      subst eo44
      try go_wp2
      replace HO_5 := aM (Kd.N_drew HO_5.out)
      replace BK266 := aM (bD BK266.out)
      replace HB := aM (eD HB.out)
      have p286 : 0 ≤ (x6_2 : Int) := yA
      have q286 : x6_2 < (t283.length : Int) := yA
      obtain ⟨ad286, A286_0, c286_0, e286, hx286_0, hl286_0, hi286_0⟩ := at_L1 (Kd.N_reads' HO_5.out).2.2 x6_2 p286 q286
      cases e286
      obtain ⟨ce286, hce286, hMe286, hcc286⟩ := Kd.N_get HO_5.out [] x6_2 p286 (by first | exact q286 | exact yA | (have e_ := (Kd.N_reads' HO_5.out).1; omega))
      obtain ⟨ua286_0, uc286_0, rfl, ul286_0, ge286_0⟩ := Kd.FK_slice_open hMe286
      have hv286_0 := hcc286 0 _ rfl
      rw [Nat.add_zero, show ((Kd.slice 3 (Kd.int .i64))).sz = 1 from rfl, Nat.mul_one] at hv286_0
      replace hv286_0 := Option.some.inj (hv286_0.symm.trans hx286_0)
      injection hv286_0 with hva_ hvn_ hvc_
      rw [hva_] at ge286_0
      rw [hvc_] at ul286_0
      have HL286_0 := aM (show Kd.V (Kd.int .i64) 3 _ w.heap.size _ _ (rd_L1 t283 x6_2) from Kd.V_mk ul286_0 ge286_0)
      clear hva_ hvn_ hvc_ ge286_0 ul286_0 hcc286 hce286
      have HR286_0 := aM hi286_0
      have HC286_0 := aM hl286_0
      clear hi286_0 hl286_0
      replace p286 := eq_true p286
      replace q286 := eq_true q286
      refine start_ (n := 8) (S := fun w' => w'.cell? ⟨gb266, 0, none⟩ = some (.slice (some ad273) l0_0.length c0_0) ∧ w'.cell? ⟨gb266, 1, none⟩ = some (.slice A0_1 l0_1.length c0_1) ∧ w'.cell? (ad286.add (x6_2).toNat) = some (.slice A286_0 (rd_L1 t283 x6_2).length c286_0)) (ds := []) (bm 8 0) (by kernel_rfl) rfl rfl ⟨(bC BK266.out 0).trans rfl, (bC BK266.out 1).trans rfl, hx286_0⟩ (fun hHeld => ?_); refine with_tabW spec_l4Find.tab10 spec_l4Find.bits10 (fun HT_ HW_ => ?_)
      generalize wr.drew = w45 at HO_5 BK266 HB HL286_0 HR286_0 hx286_0 hHeld ⊢
      refine yP 1 41 (bm 8 2) HT_ ?_
      refine yP 2 42 (bm 8 6) HT_ ?_
      refine yP 3 43 (bm 8 14) HT_ ?_
      refine yT3 0 40 (bm 8 15) HT_ HW_ hHeld ?_
      refine yT3 4 44 (bm 8 31) HT_ HW_ hHeld ?_
      refine join_ (σ := Value × Value × Nat) 1 (bm 8 127) (fun s_ => [(45, .agg #[s_.1, s_.2.1]), (7, .pointer (some ⟨s_.2.2, 0, none⟩))]) (fun s_ w' => (w'.cell? ⟨gb266, 0, none⟩ = some (.slice (some ad273) l0_0.length c0_0) ∧ w'.cell? ⟨gb266, 1, none⟩ = some (.slice A0_1 l0_1.length c0_1) ∧ w'.cell? (ad286.add (x6_2).toNat) = some (.slice A286_0 (rd_L1 t283 x6_2).length c286_0)) ∧ (Kd.V (Kd.int .i64) 3 w' w.heap.size (fun k_ => (w.heap.size ≤ k_) ∧ some k_ ≠ (s_.1 : Value).ownBlock ∧ some k_ ≠ (s_.2.1 : Value).ownBlock ∧ some k_ ≠ (.slice (some ad286) t283.length co44 : Value).ownBlock ∧ k_ ≠ gb266 ∧ k_ ≠ s_.2.2) (.slice A286_0 (rd_L1 t283 x6_2).length c286_0) (rd_L1 t283 x6_2)) ∧ (Kd.N (Kd.slice 3 (Kd.int .i64)) 22 w' w.heap.size (fun k_ => (w.heap.size ≤ k_) ∧ some k_ ≠ (s_.2.1 : Value).ownBlock ∧ some k_ ≠ (.slice (some ad286) t283.length co44 : Value).ownBlock ∧ k_ ≠ gb266 ∧ k_ ≠ s_.2.2) s_.1 t287) ∧ (Kd.R (Kd.int .i64) 3 w' w.heap.size (fun k_ => (w.heap.size ≤ k_)) s_.2.1 t290) ∧ (Kd.N (Kd.slice 3 (Kd.int .i64)) 22 w' w.heap.size (fun k_ => (w.heap.size ≤ k_) ∧ some k_ ≠ (s_.1 : Value).ownBlock ∧ some k_ ≠ (s_.2.1 : Value).ownBlock ∧ k_ ≠ gb266 ∧ k_ ≠ s_.2.2) (.slice (some ad286) t283.length co44) t283) ∧ (w'.heap[gb266]? = some (.cells #[.slice (some ad273) l0_0.length c0_0, .slice A0_1 l0_1.length c0_1] 43 (0, 0))) ∧ (w'.heap[s_.2.2]? = some (.cells #[.slice none 0 0, .slice none 0 0] 43 (0, 0))) ∧ (w.heap.size ≤ s_.2.2) ∧ (w.heap.size ≤ s_.2.2) ∧ (gb266 ≠ s_.2.2) ∧ (s_.2.2 ≠ gb266) ∧ (Below w.heap.size w w')) ?_ ?_
      rotate_left
      ·
       intro hCont
       refine two_ (i := 5) (j := 6) (Ni := some 45) (Nj := some 7) (bm 8 63) (bm 8 95) rfl rfl rfl rfl (two_of HT_.out (by kernel_rfl)) (by decide) (by decide) (fun K hK => ?_) (fun K hK => ?_)
       ·
        skip
        refine yG Try.func72 #[.agg #[.slice (some ad273) l0_0.length c0_0, .slice A0_1 l0_1.length c0_1], .slice A286_0 (rd_L1 t283 x6_2).length c286_0] ?_
        with_reducible refine (spec_l2Part.calls k2 _ _ l0_0 _ _ l0_1 _ _ (rd_L1 t283 x6_2) t287 t290 _ ?side1 ?side2 ?side3 ?side4 ?side5 ?side6 A21.out).mono ?_
        (case side1 => exact xC (Kd.C_below HR0_0.out HB.out))
        (case side2 => exact HC0_0.out)
        (case side3 => exact xC (Kd.C_below HR0_1.out HB.out))
        (case side4 => exact HC0_1.out)
        (case side5 => repeat (first | exact (by repeat (first | (with_reducible exact HR286_0.out) | (with_reducible refine Kd.C_alloc ?_ _) | (with_reducible refine Kd.C_drewN ?_ _) | (with_reducible refine Kd.C_drew ?_) | exact HR286_0.out)) | (with_reducible refine Kd.C_alloc ?_ _) | (with_reducible refine Kd.C_drewN ?_ _) | (with_reducible refine Kd.C_drew ?_)))
        (case side6 => exact HC286_0.out)
        rintro e w46 ⟨v288, v291, rfl, ho0, ho1, hb⟩
        have HS2_ := (hb.cell (World.block_lt_of_cell? _ _ (hHeld.2.2))).trans (hHeld.2.2)
        refine ⟨_, rfl, ?_⟩
        replace HL286_0 := aM (Kd.V_mono (Kd.V_told (Kd.V_told (Kd.V_old (xV HL286_0.out) hb) (by first | exact Kd.N_base ho0 | exact Kd.S_base ho0 | exact Kd.R_base ho0)) (Kd.R_base ho1)) (fun _ h_ => h_.1))
        have HO289 := aM (Kd.N_lower (Kd.N_mono (ok' := fun k_ => (w.heap.size ≤ k_) ∧ some k_ ≠ (v291 : Value).ownBlock ∧ some k_ ≠ (.slice (some ad286) t283.length co44 : Value).ownBlock ∧ k_ ≠ gb266) (Kd.S_N (Kd.S_bound ho0)) (fun k_ hk_ => ⟨(Nat.le_trans (below_size (xG1 HB.out GE266.out)) hk_.2.1), hk_.1, (Kd.fresh' (Kd.N_lt (xN HO_5.out)) k_ hk_.2.1), (Kd.freshB (g := gb266) (o := .cells #[.slice (some ad273) l0_0.length c0_0, .slice A0_1 l0_1.length c0_1] 43 (0, 0)) (xB BK266.out) k_ hk_.2.1)⟩)) (below_size (xG1 HB.out GE266.out)))
        replace HO_5 := aM (Kd.N_mono (Kd.N_told (Kd.N_told (Kd.N_old (xN HO_5.out) hb) (by first | exact Kd.N_base ho0 | exact Kd.S_base ho0 | exact Kd.R_base ho0)) (Kd.R_base ho1)) (fun _ h_ => h_.1))
        have HO292 := aM (Kd.R_lower (Kd.R_newM (M := fun k_ => (w.heap.size ≤ k_)) ho1 (below_size (xG1 HB.out GE266.out)) (fun k_ h_ => h_)) (below_size (xG1 HB.out GE266.out)))
        replace BK266 := yK BK266 hb
        replace HR286_0 := aM (Kd.C_below (by repeat (first | (with_reducible exact HR286_0.out) | (with_reducible refine Kd.C_alloc ?_ _) | (with_reducible refine Kd.C_drewN ?_ _) | (with_reducible refine Kd.C_drew ?_) | exact HR286_0.out)) hb)
        replace HB := yS1 HB GE266 hb
        (try clear hb)
        (try clear hb2)
        (try clear hk)
        (try clear hi)
        (try clear ho0)
        (try clear ho1)
        refine hK.out _ _ ⟨(bC BK266.out 0).trans rfl, (bC BK266.out 1).trans rfl, HS2_⟩ (fun hHeld => ?_)
        clear hK K
        refine norm_ (a' := ?_) ?_ ?_
        rotate_left
        ·
         show Act.put _ (some 45) _ = _
         simp only [Act.put, sA, sZ, sU, i64_w, i32_w]
         rfl
        refine yO 6 7 (bm 8 127) HT_ (fun K hK => ?_)
        refine box_step ?hg (N := 7) ?hd (cs := #[.slice none 0 0, .slice none 0 0]) (t := 43) ?hr ?_; (case hd => rfl); (case hg => rfl); (case hr => first | (go_simp; done) | (go_simp; rfl))
        intro gb293 hg w47 hbox hb
        have HS2_ := (hb.cell (World.block_lt_of_cell? _ _ (hHeld.2.2))).trans (hHeld.2.2)
        replace HO_5 := aM (Kd.N_below (Kd.N_elderB (xN HO_5.out) gb293 (Nat.le_of_eq hg.symm)) hb)
        replace HL286_0 := aM (Kd.V_below (Kd.V_elderB (xV HL286_0.out) gb293 (Nat.le_of_eq hg.symm)) hb)
        replace HO289 := aM (Kd.N_below (Kd.N_elderB (xN HO289.out) gb293 (Nat.le_of_eq hg.symm)) hb)
        replace HO292 := aM (Kd.R_below (xR HO292.out) hb)
        replace HR286_0 := aM (Kd.C_below (by repeat (first | (with_reducible exact HR286_0.out) | (with_reducible refine Kd.C_alloc ?_ _) | (with_reducible refine Kd.C_drewN ?_ _) | (with_reducible refine Kd.C_drew ?_) | exact HR286_0.out)) hb)
        have BK293 := aM (hbox)
        have GW293 := yV1 hg HB GE266
        have GE293 := yV1 hg HB GE266
        replace HB := yS1 HB GE266 hb
        have NB266_293 := yX hg BK266
        have NB293_266 := yY (yX hg BK266)
        replace BK266 := yK BK266 hb
        clear hb hbox hg
        refine hK.out _ _ ⟨(bC BK266.out 0).trans rfl, (bC BK266.out 1).trans rfl, HS2_⟩ (fun hHeld => ?_)
        clear hK K
        refine norm_ (a' := ?_) ?_ ?_
        rotate_left
        ·
         show Act.put _ (some 7) _ = _
         simp only [Act.put, sA, sZ, sU, i64_w, i32_w]
         rfl
        exact norm_ (by simp only [putAll, Act.put, sA, sZ, sU]) (hCont (v288, v291, gb293) _ ⟨hHeld, (by (with_reducible repeat (first | apply Kd.V_alloc | apply Kd.V_drewN | apply Kd.V_drew)); exact Kd.V_mono HL286_0.out (fun _ hk => ⟨hk.1.1.1.1.1, ⟨hk.1.1.2, ⟨hk.1.2, ⟨hk.1.1.1.2, ⟨hk.1.1.1.1.2, hk.2⟩⟩⟩⟩⟩)), (zN (Kd.N_mono HO289.out (fun _ hk => ⟨hk.1.1, ⟨hk.1.2.1, ⟨hk.1.2.2.1, ⟨hk.1.2.2.2, hk.2⟩⟩⟩⟩))), (zR (rM HO292.out (fun _ hk => hk.1))), (zN (Kd.N_mono HO_5.out (fun _ hk => ⟨hk.1.1.1.1, ⟨hk.1.1.2, ⟨hk.1.2, ⟨hk.1.1.1.2, hk.2⟩⟩⟩⟩))), (xB BK266.out), (xB BK293.out), GW293.out, GE293.out, NB266_293.out, NB293_266.out, (xG2 HB.out GE266.out GE293.out)⟩)
       ·
        skip
        refine box_step ?hg (N := 7) ?hd (cs := #[.slice none 0 0, .slice none 0 0]) (t := 43) ?hr ?_; (case hd => rfl); (case hg => rfl); (case hr => first | (go_simp; done) | (go_simp; rfl))
        intro gb293 hg w46 hbox hb
        have HS2_ := (hb.cell (World.block_lt_of_cell? _ _ (hHeld.2.2))).trans (hHeld.2.2)
        replace HO_5 := aM (Kd.N_below (Kd.N_elderB (xN HO_5.out) gb293 (Nat.le_of_eq hg.symm)) hb)
        replace HL286_0 := aM (Kd.V_below (Kd.V_elderB (xV HL286_0.out) gb293 (Nat.le_of_eq hg.symm)) hb)
        replace HR286_0 := aM (Kd.C_below (by repeat (first | (with_reducible exact HR286_0.out) | (with_reducible refine Kd.C_alloc ?_ _) | (with_reducible refine Kd.C_drewN ?_ _) | (with_reducible refine Kd.C_drew ?_) | exact HR286_0.out)) hb)
        have BK293 := aM (hbox)
        have GW293 := yV1 hg HB GE266
        have GE293 := yV1 hg HB GE266
        replace HB := yS1 HB GE266 hb
        have NB266_293 := yX hg BK266
        have NB293_266 := yY (yX hg BK266)
        replace BK266 := yK BK266 hb
        clear hb hbox hg
        refine hK.out _ _ ⟨(bC BK266.out 0).trans rfl, (bC BK266.out 1).trans rfl, HS2_⟩ (fun hHeld => ?_)
        clear hK K
        refine norm_ (a' := ?_) ?_ ?_
        rotate_left
        ·
         show Act.put _ (some 7) _ = _
         simp only [Act.put, sA, sZ, sU, i64_w, i32_w]
         rfl
        refine yO 5 45 (bm 8 127) HT_ (fun K hK => ?_)
        refine yG Try.func72 #[.agg #[.slice (some ad273) l0_0.length c0_0, .slice A0_1 l0_1.length c0_1], .slice A286_0 (rd_L1 t283 x6_2).length c286_0] ?_
        with_reducible refine (spec_l2Part.calls k2 _ _ l0_0 _ _ l0_1 _ _ (rd_L1 t283 x6_2) t287 t290 _ ?side1 ?side2 ?side3 ?side4 ?side5 ?side6 A21.out).mono ?_
        (case side1 => exact xC (Kd.C_below HR0_0.out HB.out))
        (case side2 => exact HC0_0.out)
        (case side3 => exact xC (Kd.C_below HR0_1.out HB.out))
        (case side4 => exact HC0_1.out)
        (case side5 => repeat (first | exact (by repeat (first | (with_reducible exact HR286_0.out) | (with_reducible refine Kd.C_alloc ?_ _) | (with_reducible refine Kd.C_drewN ?_ _) | (with_reducible refine Kd.C_drew ?_) | exact HR286_0.out)) | (with_reducible refine Kd.C_alloc ?_ _) | (with_reducible refine Kd.C_drewN ?_ _) | (with_reducible refine Kd.C_drew ?_)))
        (case side6 => exact HC286_0.out)
        rintro e w47 ⟨v288, v291, rfl, ho0, ho1, hb⟩
        have HS2_ := (hb.cell (World.block_lt_of_cell? _ _ (hHeld.2.2))).trans (hHeld.2.2)
        refine ⟨_, rfl, ?_⟩
        replace HL286_0 := aM (Kd.V_mono (Kd.V_told (Kd.V_told (Kd.V_old (xV HL286_0.out) hb) (by first | exact Kd.N_base ho0 | exact Kd.S_base ho0 | exact Kd.R_base ho0)) (Kd.R_base ho1)) (fun _ h_ => h_.1))
        have HO289 := aM (Kd.N_lower (Kd.N_mono (ok' := fun k_ => (w.heap.size ≤ k_) ∧ some k_ ≠ (v291 : Value).ownBlock ∧ some k_ ≠ (.slice (some ad286) t283.length co44 : Value).ownBlock ∧ k_ ≠ gb266 ∧ k_ ≠ gb293) (Kd.S_N (Kd.S_bound ho0)) (fun k_ hk_ => ⟨(Nat.le_trans (below_size (xG2 HB.out GE266.out GE293.out)) hk_.2.1), hk_.1, (Kd.fresh' (Kd.N_lt (xN HO_5.out)) k_ hk_.2.1), (Kd.freshB (g := gb266) (o := .cells #[.slice (some ad273) l0_0.length c0_0, .slice A0_1 l0_1.length c0_1] 43 (0, 0)) (xB BK266.out) k_ hk_.2.1), (Kd.freshB (g := gb293) (o := .cells #[.slice none 0 0, .slice none 0 0] 43 (0, 0)) (xB BK293.out) k_ hk_.2.1)⟩)) (below_size (xG2 HB.out GE266.out GE293.out)))
        replace HO_5 := aM (Kd.N_mono (Kd.N_told (Kd.N_told (Kd.N_old (xN HO_5.out) hb) (by first | exact Kd.N_base ho0 | exact Kd.S_base ho0 | exact Kd.R_base ho0)) (Kd.R_base ho1)) (fun _ h_ => h_.1))
        have HO292 := aM (Kd.R_lower (Kd.R_newM (M := fun k_ => (w.heap.size ≤ k_)) ho1 (below_size (xG2 HB.out GE266.out GE293.out)) (fun k_ h_ => h_)) (below_size (xG2 HB.out GE266.out GE293.out)))
        replace BK266 := yK BK266 hb
        replace HR286_0 := aM (Kd.C_below (by repeat (first | (with_reducible exact HR286_0.out) | (with_reducible refine Kd.C_alloc ?_ _) | (with_reducible refine Kd.C_drewN ?_ _) | (with_reducible refine Kd.C_drew ?_) | exact HR286_0.out)) hb)
        replace BK293 := yK BK293 hb
        replace HB := yS2 HB GE266 GE293 hb
        (try clear hb)
        (try clear hb2)
        (try clear hk)
        (try clear hi)
        (try clear ho0)
        (try clear ho1)
        refine hK.out _ _ ⟨(bC BK266.out 0).trans rfl, (bC BK266.out 1).trans rfl, HS2_⟩ (fun hHeld => ?_)
        clear hK K
        refine norm_ (a' := ?_) ?_ ?_
        rotate_left
        ·
         show Act.put _ (some 45) _ = _
         simp only [Act.put, sA, sZ, sU, i64_w, i32_w]
         rfl
        exact norm_ (by simp only [putAll, Act.put, sA, sZ, sU]) (hCont (v288, v291, gb293) _ ⟨hHeld, (by (with_reducible repeat (first | apply Kd.V_alloc | apply Kd.V_drewN | apply Kd.V_drew)); exact Kd.V_mono HL286_0.out (fun _ hk => ⟨hk.1.1.1.1.1, ⟨hk.1.2, ⟨hk.2, ⟨hk.1.1.1.2, ⟨hk.1.1.1.1.2, hk.1.1.2⟩⟩⟩⟩⟩)), (xN HO289.out), (zR (rM HO292.out (fun _ hk => hk.1))), (zN (Kd.N_mono HO_5.out (fun _ hk => ⟨hk.1.1.1.1, ⟨hk.1.2, ⟨hk.2, ⟨hk.1.1.1.2, hk.1.1.2⟩⟩⟩⟩))), (xB BK266.out), (xB BK293.out), GW293.out, GE293.out, NB266_293.out, NB293_266.out, (xG2 HB.out GE266.out GE293.out)⟩)
      rintro ⟨v288, v291, gb293⟩ w48 ⟨hS_, h0_, h1_, h2_, h3_, h4_, h5_, h6_, h7_, h8_, h9_, h10_⟩
      have n0_ : Aside0 (Kd.V (Kd.int .i64) 3 w48 w.heap.size (fun k_ => (w.heap.size ≤ k_) ∧ some k_ ≠ (v288 : Value).ownBlock ∧ some k_ ≠ (v291 : Value).ownBlock ∧ some k_ ≠ (.slice (some ad286) t283.length co44 : Value).ownBlock ∧ k_ ≠ gb266 ∧ k_ ≠ gb293) (.slice A286_0 (rd_L1 t283 x6_2).length c286_0) (rd_L1 t283 x6_2)) := ⟨h0_⟩
      have n1_ : Aside0 (Kd.N (Kd.slice 3 (Kd.int .i64)) 22 w48 w.heap.size (fun k_ => (w.heap.size ≤ k_) ∧ some k_ ≠ (v291 : Value).ownBlock ∧ some k_ ≠ (.slice (some ad286) t283.length co44 : Value).ownBlock ∧ k_ ≠ gb266 ∧ k_ ≠ gb293) v288 t287) := ⟨h1_⟩
      have n2_ : Aside0 (Kd.R (Kd.int .i64) 3 w48 w.heap.size (fun k_ => (w.heap.size ≤ k_)) v291 t290) := ⟨h2_⟩
      have n3_ : Aside0 (Kd.N (Kd.slice 3 (Kd.int .i64)) 22 w48 w.heap.size (fun k_ => (w.heap.size ≤ k_) ∧ some k_ ≠ (v288 : Value).ownBlock ∧ some k_ ≠ (v291 : Value).ownBlock ∧ k_ ≠ gb266 ∧ k_ ≠ gb293) (.slice (some ad286) t283.length co44) t283) := ⟨h3_⟩
      have n4_ : Aside0 (w48.heap[gb266]? = some (.cells #[.slice (some ad273) l0_0.length c0_0, .slice A0_1 l0_1.length c0_1] 43 (0, 0))) := ⟨h4_⟩
      have n5_ : Aside0 (w48.heap[gb293]? = some (.cells #[.slice none 0 0, .slice none 0 0] 43 (0, 0))) := ⟨h5_⟩
      have n6_ : Aside0 (w.heap.size ≤ gb293) := ⟨h6_⟩
      have n7_ : Aside0 (w.heap.size ≤ gb293) := ⟨h7_⟩
      have n8_ : Aside0 (gb266 ≠ gb293) := ⟨h8_⟩
      have n9_ : Aside0 (gb293 ≠ gb266) := ⟨h9_⟩
      have n10_ : Aside0 (Below w.heap.size w w48) := ⟨h10_⟩
      clear HO_5 BK266 HB h0_ h1_ h2_ h3_ h4_ h5_ h6_ h7_ h8_ h9_ h10_
      have HL286_0 := n0_
      have HO289 := n1_
      have HO292 := n2_
      have HO_5 := n3_
      have BK266 := n4_
      have BK293 := n5_
      have GW293 := n6_
      have GE293 := n7_
      have NB266_293 := n8_
      have NB293_266 := n9_
      have HB := n10_
      clear n0_ n1_ n2_ n3_ n4_ n5_ n6_ n7_ n8_ n9_ n10_
      have hHeld : w48.cell? ⟨gb266, 0, none⟩ = some (.slice (some ad273) l0_0.length c0_0) ∧ w48.cell? ⟨gb266, 1, none⟩ = some (.slice A0_1 l0_1.length c0_1) ∧ w48.cell? (ad286.add (x6_2).toNat) = some (.slice A286_0 (rd_L1 t283 x6_2).length c286_0) := hS_
      obtain ⟨Ao49, co49, eo49⟩ := Kd.N_slice HO289.out
      (first | subst eo49 | (injection eo49 with f1_ f2_ f3_; have f4_ := f1_.symm; have f5_ := f3_.symm; clear f1_ f2_ f3_; subst f4_; subst f5_))
      obtain ⟨Ao51, co51, eo51⟩ := Kd.R_slice HO292.out
      (first | subst eo51 | (injection eo51 with f1_ f2_ f3_; have f4_ := f1_.symm; have f5_ := f3_.symm; clear f1_ f2_ f3_; subst f4_; subst f5_))
      refine norm_ (a' := ?_) ?_ ?_
      rotate_left
      ·
       simp only [putAll, Act.put, sA, sZ, sU]
       rfl
      refine one_ (i := 7) (N := none) (bm 8 255) rfl rfl (one_of HT_.out (by kernel_rfl)) (by decide) (fun K hK => ?_)
      have hs50 : w48.cell? ⟨gb293, 0, none⟩ = some (.slice none 0 0) := (bC BK293.out 0).trans rfl
      have hfs50 := bF BK293.out 0
      have hns50_0 := NB266_293.out
      have hms50_0 := NB293_266.out
      have hs52 : w48.cell? ⟨gb293, 1, none⟩ = some (.slice none 0 0) := (bC BK293.out 1).trans rfl
      have hfs52 := bF BK293.out 1
      have hns52_0 := NB266_293.out
      have hms52_0 := NB293_266.out
      refine skip_ (w1 := ?_) (by rfl) rfl ?_ ?_
      rotate_left
      ·
       go_simp
       rfl
      refine hK.out _ _ ⟨((cell_far (p := ⟨gb293, _, none⟩) NB266_293.out _).trans (((cell_far (p := ⟨gb293, _, none⟩) NB266_293.out _).trans (hHeld.1)))), ((cell_far (p := ⟨gb293, _, none⟩) NB266_293.out _).trans (((cell_far (p := ⟨gb293, _, none⟩) NB266_293.out _).trans (hHeld.2.1)))), ((cell_far (p := ⟨gb293, _, none⟩) (by first | exact Kd.own_blk (Kd.N_away HO_5.out (fun _ hk => hk.2.2.2.2)) | (rw [add_block]; exact Kd.own_blk (Kd.N_away HO_5.out (fun _ hk => hk.2.2.2.2))) | (show (Addr.add _ _).block ≠ _; rw [add_block]; exact Kd.own_blk (Kd.N_away HO_5.out (fun _ hk => hk.2.2.2.2))) | (dsimp only; exact Kd.own_blk (Kd.N_away HO_5.out (fun _ hk => hk.2.2.2.2)))) _).trans (((cell_far (p := ⟨gb293, _, none⟩) (by first | exact Kd.own_blk (Kd.N_away HO_5.out (fun _ hk => hk.2.2.2.2)) | (rw [add_block]; exact Kd.own_blk (Kd.N_away HO_5.out (fun _ hk => hk.2.2.2.2))) | (show (Addr.add _ _).block ≠ _; rw [add_block]; exact Kd.own_blk (Kd.N_away HO_5.out (fun _ hk => hk.2.2.2.2))) | (dsimp only; exact Kd.own_blk (Kd.N_away HO_5.out (fun _ hk => hk.2.2.2.2)))) _).trans (hHeld.2.2))))⟩ (fun hHeld => ?_)
      clear hK K
      refine done_ (done_of HT_.out (by kernel_rfl)) ?_
      have hnb53 := NB293_266.out
      have hnc53 := NB266_293.out
      have hcz54_0 := yC0 BK293
      have hcz54_1 := yC1 BK293
      have hfz54_0 := bF BK293.out 0
      have hfz54_1 := bF BK293.out 1
      try go_wp2_with (first | (refine yL 49 Try.func74 #[.slice Ao49 t287.length co49] ?_; (with_reducible refine (spec_l4Equations.calls k2 _ _ t287 t294 _ ?side1 ?side2 A22.out).mono ?_); (case side1 => refine (Kd.N_reads' (e := 22) (base := w.heap.size) (ok := fun k_ => ((w.heap.size ≤ k_) ∧ (some k_ ≠ (.slice Ao51 t290.length co51 : Value).ownBlock ∧ (some k_ ≠ (.slice (some ad286) t283.length co44 : Value).ownBlock ∧ (k_ ≠ gb266 ∧ k_ ≠ gb293))))) (n := t287.length) (c := co49) ?_).2.2; exact (zN (Kd.N_mono (Kd.N_far (p := ⟨gb293, 1, none⟩) (Kd.N_far (p := ⟨gb293, 0, none⟩) (Kd.N_mono HO289.out (fun k_ hk => (⟨hk, hk.2.2.2.2⟩ : _ ∧ k_ ≠ gb293))) (fun _ hk => hk.2) (.slice Ao49 t287.length co49)) (fun _ hk => hk.2) (.slice Ao51 t290.length co51)) (fun _ h_ => h_.1)))); (case side2 => exact (Kd.N_reads' HO289.out).2.1); rintro e w55 ⟨v295, rfl, ho0, hb⟩; refine ⟨_, rfl, ?_⟩; replace HL286_0 := aM (Kd.V_elder' (by (with_reducible repeat (first | apply Kd.V_alloc | apply Kd.V_drewN | apply Kd.V_drew)); exact (Kd.V_mono (Kd.V_far (p := ⟨gb293, 1, none⟩) (Kd.V_far (p := ⟨gb293, 0, none⟩) (Kd.V_mono HL286_0.out (fun k_ hk => (⟨hk, hk.2.2.2.2.2⟩ : _ ∧ k_ ≠ gb293))) (fun _ hk => hk.2) (.slice Ao49 t287.length co49)) (fun _ hk => hk.2) (.slice Ao51 t290.length co51)) (fun _ h_ => h_.1))) (by first | exact Kd.N_base ho0 | exact Kd.S_base ho0 | exact Kd.R_base ho0) hb); have HO296 := aM (Kd.N_lower (Kd.N_mono (ok' := fun k_ => (w.heap.size ≤ k_) ∧ some k_ ≠ (.slice (some ad286) t283.length co44 : Value).ownBlock ∧ some k_ ≠ (.slice Ao49 t287.length co49 : Value).ownBlock ∧ some k_ ≠ (.slice Ao51 t290.length co51 : Value).ownBlock ∧ k_ ≠ gb266 ∧ k_ ≠ gb293) (Kd.S_N (Kd.S_bound ho0)) (fun k_ hk_ => ⟨(Nat.le_trans (below_size (xG2 HB.out GE266.out GE293.out)) hk_.2.1), (Kd.fresh' (Kd.N_lt (zN (Kd.N_mono (Kd.N_far (p := ⟨gb293, 1, none⟩) (Kd.N_far (p := ⟨gb293, 0, none⟩) (Kd.N_mono HO_5.out (fun k_ hk => (⟨hk, hk.2.2.2.2⟩ : _ ∧ k_ ≠ gb293))) (fun _ hk => hk.2) (.slice Ao49 t287.length co49)) (fun _ hk => hk.2) (.slice Ao51 t290.length co51)) (fun _ h_ => h_.1)))) k_ hk_.2.1), (Kd.fresh' (Kd.N_lt (zN (Kd.N_mono (Kd.N_far (p := ⟨gb293, 1, none⟩) (Kd.N_far (p := ⟨gb293, 0, none⟩) (Kd.N_mono HO289.out (fun k_ hk => (⟨hk, hk.2.2.2.2⟩ : _ ∧ k_ ≠ gb293))) (fun _ hk => hk.2) (.slice Ao49 t287.length co49)) (fun _ hk => hk.2) (.slice Ao51 t290.length co51)) (fun _ h_ => h_.1)))) k_ hk_.2.1), (Kd.fresh' (Kd.R_lt (zR (rM (Kd.R_far (p := ⟨gb293, 1, none⟩) (Kd.R_far (p := ⟨gb293, 0, none⟩) (Kd.R_types HO292.out BK293.out (by decide)) (fun _ hk => hk.2) (.slice Ao49 t287.length co49)) (fun _ hk => hk.2) (.slice Ao51 t290.length co51)) (fun _ h_ => h_.1)))) k_ hk_.2.1), (Kd.freshB (g := gb266) (o := .cells #[.slice (some ad273) l0_0.length c0_0, .slice A0_1 l0_1.length c0_1] 43 (0, 0)) (by (with_reducible repeat (first | refine bN ?_ _ | refine bD ?_ | refine bA ?_ _)); refine blk_far ?_ NB266_293.out _; (with_reducible repeat (first | refine bN ?_ _ | refine bD ?_ | refine bA ?_ _)); refine blk_far ?_ NB266_293.out _; (with_reducible repeat (first | refine bN ?_ _ | refine bD ?_ | refine bA ?_ _)); exact BK266.out) k_ hk_.2.1), (Kd.freshB (g := gb293) (o := .cells #[.slice Ao49 t287.length co49, .slice Ao51 t290.length co51] 43 (0, 0)) (by (with_reducible repeat (first | refine bN ?_ _ | refine bD ?_ | refine bA ?_ _)); refine blk_put (cs := #[.slice Ao49 t287.length co49, .slice none 0 0]) ?_ 1 _ rfl; (with_reducible repeat (first | refine bN ?_ _ | refine bD ?_ | refine bA ?_ _)); refine blk_put (cs := #[.slice none 0 0, .slice none 0 0]) ?_ 0 _ rfl; (with_reducible repeat (first | refine bN ?_ _ | refine bD ?_ | refine bA ?_ _)); exact BK293.out) k_ hk_.2.1)⟩)) (below_size (xG2 HB.out GE266.out GE293.out))); replace HO_5 := aM (Kd.N_elder' (zN (Kd.N_mono (Kd.N_far (p := ⟨gb293, 1, none⟩) (Kd.N_far (p := ⟨gb293, 0, none⟩) (Kd.N_mono HO_5.out (fun k_ hk => (⟨hk, hk.2.2.2.2⟩ : _ ∧ k_ ≠ gb293))) (fun _ hk => hk.2) (.slice Ao49 t287.length co49)) (fun _ hk => hk.2) (.slice Ao51 t290.length co51)) (fun _ h_ => h_.1))) (by first | exact Kd.N_base ho0 | exact Kd.S_base ho0 | exact Kd.R_base ho0) hb); replace HO289 := aM (Kd.N_elder' (zN (Kd.N_mono (Kd.N_far (p := ⟨gb293, 1, none⟩) (Kd.N_far (p := ⟨gb293, 0, none⟩) (Kd.N_mono HO289.out (fun k_ hk => (⟨hk, hk.2.2.2.2⟩ : _ ∧ k_ ≠ gb293))) (fun _ hk => hk.2) (.slice Ao49 t287.length co49)) (fun _ hk => hk.2) (.slice Ao51 t290.length co51)) (fun _ h_ => h_.1))) (by first | exact Kd.N_base ho0 | exact Kd.S_base ho0 | exact Kd.R_base ho0) hb); replace HO292 := aM (Kd.R_below (zR (rM (Kd.R_far (p := ⟨gb293, 1, none⟩) (Kd.R_far (p := ⟨gb293, 0, none⟩) (Kd.R_types HO292.out BK293.out (by decide)) (fun _ hk => hk.2) (.slice Ao49 t287.length co49)) (fun _ hk => hk.2) (.slice Ao51 t290.length co51)) (fun _ h_ => h_.1))) hb); replace BK266 := yK1 BK266 NB266_293 hb; replace BK293 := aM (bB (g := gb293) (o := .cells #[.slice Ao49 t287.length co49, .slice Ao51 t290.length co51] 43 (0, 0)) (by (with_reducible repeat (first | refine bN ?_ _ | refine bD ?_ | refine bA ?_ _)); refine blk_put (cs := #[.slice Ao49 t287.length co49, .slice none 0 0]) ?_ 1 _ rfl; (with_reducible repeat (first | refine bN ?_ _ | refine bD ?_ | refine bA ?_ _)); refine blk_put (cs := #[.slice none 0 0, .slice none 0 0]) ?_ 0 _ rfl; (with_reducible repeat (first | refine bN ?_ _ | refine bD ?_ | refine bA ?_ _)); exact BK293.out) hb); replace HB := yS2 HB GE266 GE293 hb; (try clear hb; try clear hk; try clear ho0); obtain ⟨Ao56, co56, eo56⟩ := Kd.N_slice HO296.out; subst eo56) | (refine yL 51 Try.func73 #[.slice Ao56 t294.length co56, .int .i64 x4_1] ?_; (with_reducible refine (spec_l4Relation.calls k2 _ _ t294 x4_1 t297 true _ ?side1 ?side2 A23.out).mono ?_); (case side1 => repeat (first | exact (Kd.N_reads' HO296.out).2.2 | (with_reducible refine Kd.C_alloc ?_ _) | (with_reducible refine Kd.C_drewN ?_ _) | (with_reducible refine Kd.C_drew ?_))); (case side2 => exact (Kd.N_reads' HO296.out).2.1); rintro e w57 ⟨v299, rfl, ho0, hb⟩; refine ⟨_, rfl, ?_⟩; replace HO_5 := aM (Kd.N_elder' (xN HO_5.out) (Kd.R_base ho0) hb); replace HL286_0 := aM (Kd.V_elder' (xV HL286_0.out) (Kd.R_base ho0) hb); replace HO289 := aM (Kd.N_elder' (xN HO289.out) (Kd.R_base ho0) hb); replace HO296 := aM (Kd.N_elder' (xN HO296.out) (Kd.R_base ho0) hb); have HO300 := aM (Kd.R_lower (Kd.R_new' (Kd.R_newM (M := fun k_ => (w.heap.size ≤ k_)) ho0 (below_size (xG2 HB.out GE266.out GE293.out)) (fun k_ h_ => h_)) (Kd.R_lt (xR HO292.out))) (below_size (xG2 HB.out GE266.out GE293.out))); replace HO292 := aM (Kd.R_elder' (xR HO292.out) (Kd.R_base ho0) hb); replace BK266 := yK BK266 hb; replace BK293 := yK BK293 hb; replace HB := yS2 HB GE266 GE293 hb; (try clear hb; try clear hk; try clear ho0); obtain ⟨hcz58_0, hcz58_1, hfz58_0, hfz58_1⟩ := yD2 BK293; obtain ⟨Ao59, co59, eo59⟩ := Kd.R_slice HO300.out; subst eo59) | (refine yL 60 Try.func75 #[.slice Ao59 t297.length co59, .slice Ao51 t290.length co51] ?_; (with_reducible refine (spec_l4Signs.calls k2 _ _ t297 _ _ t290 t301 false _ ?side1 ?side2 ?side3 ?side4 A25.out).mono ?_); (case side1 => exact xC (Kd.R_reads' HO300.out).2.2); (case side2 => exact (Kd.R_reads' HO300.out).2.1); (case side3 => exact xC (Kd.R_reads' HO292.out).2.2); (case side4 => exact (Kd.R_reads' HO292.out).2.1); rintro e w60 ⟨v303, rfl, ho0, hb⟩; refine ⟨_, rfl, ?_⟩; replace HO_5 := aM (Kd.N_elder' (xN HO_5.out) (Kd.R_base ho0) hb); replace HL286_0 := aM (Kd.V_elder' (xV HL286_0.out) (Kd.R_base ho0) hb); replace HO289 := aM (Kd.N_elder' (xN HO289.out) (Kd.R_base ho0) hb); replace HO296 := aM (Kd.N_elder' (xN HO296.out) (Kd.R_base ho0) hb); have HO304 := aM (Kd.R_lower (Kd.R_new' (Kd.R_new' (Kd.R_newM (M := fun k_ => (w.heap.size ≤ k_)) ho0 (below_size (xG2 HB.out GE266.out GE293.out)) (fun k_ h_ => h_)) (Kd.R_lt (xR HO292.out))) (Kd.R_lt (xR HO300.out))) (below_size (xG2 HB.out GE266.out GE293.out))); replace HO292 := aM (Kd.R_elder' (xR HO292.out) (Kd.R_base ho0) hb); replace HO300 := aM (Kd.R_elder' (xR HO300.out) (Kd.R_base ho0) hb); replace BK266 := yK BK266 hb; replace BK293 := yK BK293 hb; replace HB := yS2 HB GE266 GE293 hb; (try clear hb; try clear hk; try clear ho0)))
      go_roundg k2
      case measure => have := HK1.out; have := HK2.out; omega
      case rel => exact ⟨(wrap64 (x6_2 + 1)), yZ, H', ⟨by have := HK1.out; have := HK2.out; omega⟩, ⟨zN (Kd.N_mono HO_5.out (fun _ hk => ⟨hk.1.1.1.1, hk.1.1.1.2.2.2.1⟩))⟩, ⟨xB BK266.out⟩, ⟨xG2 HB.out GE266.out GE293.out⟩⟩
     subst c26
     rw [if_pos rfl] at H
     simp only [Option.some.injEq, Prod.mk.injEq] at H
     obtain ⟨rfl, rfl⟩ := H
     obtain ⟨Ao27, co27, eo27⟩ := Kd.N_slice HO_5.out
     subst eo27
     try go_wp2
     replace HO_5 := aM (Kd.N_drew HO_5.out)
     replace BK266 := aM (bD BK266.out)
     replace HB := aM (eD HB.out)
     have p286 : 0 ≤ (x6_2 : Int) := yA
     have q286 : x6_2 < (t283.length : Int) := yA
     obtain ⟨ad286, A286_0, c286_0, e286, hx286_0, hl286_0, hi286_0⟩ := at_L1 (Kd.N_reads' HO_5.out).2.2 x6_2 p286 q286
     cases e286
     obtain ⟨ce286, hce286, hMe286, hcc286⟩ := Kd.N_get HO_5.out [] x6_2 p286 (by first | exact q286 | exact yA | (have e_ := (Kd.N_reads' HO_5.out).1; omega))
     obtain ⟨ua286_0, uc286_0, rfl, ul286_0, ge286_0⟩ := Kd.FK_slice_open hMe286
     have hv286_0 := hcc286 0 _ rfl
     rw [Nat.add_zero, show ((Kd.slice 3 (Kd.int .i64))).sz = 1 from rfl, Nat.mul_one] at hv286_0
     replace hv286_0 := Option.some.inj (hv286_0.symm.trans hx286_0)
     injection hv286_0 with hva_ hvn_ hvc_
     rw [hva_] at ge286_0
     rw [hvc_] at ul286_0
     have HL286_0 := aM (show Kd.V (Kd.int .i64) 3 _ w.heap.size _ _ (rd_L1 t283 x6_2) from Kd.V_mk ul286_0 ge286_0)
     clear hva_ hvn_ hvc_ ge286_0 ul286_0 hcc286 hce286
     have HR286_0 := aM hi286_0
     have HC286_0 := aM hl286_0
     clear hi286_0 hl286_0
     replace p286 := eq_true p286
     replace q286 := eq_true q286
     refine start_ (n := 8) (S := fun w' => w'.cell? ⟨gb266, 0, none⟩ = some (.slice (some ad273) l0_0.length c0_0) ∧ w'.cell? ⟨gb266, 1, none⟩ = some (.slice A0_1 l0_1.length c0_1) ∧ w'.cell? (ad286.add (x6_2).toNat) = some (.slice A286_0 (rd_L1 t283 x6_2).length c286_0)) (ds := []) (bm 8 0) (by kernel_rfl) rfl rfl ⟨(bC BK266.out 0).trans rfl, (bC BK266.out 1).trans rfl, hx286_0⟩ (fun hHeld => ?_); refine with_tabW spec_l4Find.tab10 spec_l4Find.bits10 (fun HT_ HW_ => ?_)
     generalize wr.drew = w28 at HO_5 BK266 HB HL286_0 HR286_0 hx286_0 hHeld ⊢
     refine yP 1 41 (bm 8 2) HT_ ?_
     refine yP 2 42 (bm 8 6) HT_ ?_
     refine yP 3 43 (bm 8 14) HT_ ?_
     refine yT3 0 40 (bm 8 15) HT_ HW_ hHeld ?_
     refine yT3 4 44 (bm 8 31) HT_ HW_ hHeld ?_
     refine join_ (σ := Value × Value × Nat) 1 (bm 8 127) (fun s_ => [(45, .agg #[s_.1, s_.2.1]), (7, .pointer (some ⟨s_.2.2, 0, none⟩))]) (fun s_ w' => (w'.cell? ⟨gb266, 0, none⟩ = some (.slice (some ad273) l0_0.length c0_0) ∧ w'.cell? ⟨gb266, 1, none⟩ = some (.slice A0_1 l0_1.length c0_1) ∧ w'.cell? (ad286.add (x6_2).toNat) = some (.slice A286_0 (rd_L1 t283 x6_2).length c286_0)) ∧ (Kd.V (Kd.int .i64) 3 w' w.heap.size (fun k_ => (w.heap.size ≤ k_) ∧ some k_ ≠ (s_.1 : Value).ownBlock ∧ some k_ ≠ (s_.2.1 : Value).ownBlock ∧ some k_ ≠ (.slice (some ad286) t283.length co27 : Value).ownBlock ∧ k_ ≠ gb266 ∧ k_ ≠ s_.2.2) (.slice A286_0 (rd_L1 t283 x6_2).length c286_0) (rd_L1 t283 x6_2)) ∧ (Kd.N (Kd.slice 3 (Kd.int .i64)) 22 w' w.heap.size (fun k_ => (w.heap.size ≤ k_) ∧ some k_ ≠ (s_.2.1 : Value).ownBlock ∧ some k_ ≠ (.slice (some ad286) t283.length co27 : Value).ownBlock ∧ k_ ≠ gb266 ∧ k_ ≠ s_.2.2) s_.1 t287) ∧ (Kd.R (Kd.int .i64) 3 w' w.heap.size (fun k_ => (w.heap.size ≤ k_)) s_.2.1 t290) ∧ (Kd.N (Kd.slice 3 (Kd.int .i64)) 22 w' w.heap.size (fun k_ => (w.heap.size ≤ k_) ∧ some k_ ≠ (s_.1 : Value).ownBlock ∧ some k_ ≠ (s_.2.1 : Value).ownBlock ∧ k_ ≠ gb266 ∧ k_ ≠ s_.2.2) (.slice (some ad286) t283.length co27) t283) ∧ (w'.heap[gb266]? = some (.cells #[.slice (some ad273) l0_0.length c0_0, .slice A0_1 l0_1.length c0_1] 43 (0, 0))) ∧ (w'.heap[s_.2.2]? = some (.cells #[.slice none 0 0, .slice none 0 0] 43 (0, 0))) ∧ (w.heap.size ≤ s_.2.2) ∧ (w.heap.size ≤ s_.2.2) ∧ (gb266 ≠ s_.2.2) ∧ (s_.2.2 ≠ gb266) ∧ (Below w.heap.size w w')) ?_ ?_
     rotate_left
     ·
      intro hCont
      refine two_ (i := 5) (j := 6) (Ni := some 45) (Nj := some 7) (bm 8 63) (bm 8 95) rfl rfl rfl rfl (two_of HT_.out (by kernel_rfl)) (by decide) (by decide) (fun K hK => ?_) (fun K hK => ?_)
      ·
       skip
       refine yG Try.func72 #[.agg #[.slice (some ad273) l0_0.length c0_0, .slice A0_1 l0_1.length c0_1], .slice A286_0 (rd_L1 t283 x6_2).length c286_0] ?_
       with_reducible refine (spec_l2Part.calls k2 _ _ l0_0 _ _ l0_1 _ _ (rd_L1 t283 x6_2) t287 t290 _ ?side1 ?side2 ?side3 ?side4 ?side5 ?side6 A21.out).mono ?_
       (case side1 => exact xC (Kd.C_below HR0_0.out HB.out))
       (case side2 => exact HC0_0.out)
       (case side3 => exact xC (Kd.C_below HR0_1.out HB.out))
       (case side4 => exact HC0_1.out)
       (case side5 => repeat (first | exact (by repeat (first | (with_reducible exact HR286_0.out) | (with_reducible refine Kd.C_alloc ?_ _) | (with_reducible refine Kd.C_drewN ?_ _) | (with_reducible refine Kd.C_drew ?_) | exact HR286_0.out)) | (with_reducible refine Kd.C_alloc ?_ _) | (with_reducible refine Kd.C_drewN ?_ _) | (with_reducible refine Kd.C_drew ?_)))
       (case side6 => exact HC286_0.out)
       rintro e w29 ⟨v288, v291, rfl, ho0, ho1, hb⟩
       have HS2_ := (hb.cell (World.block_lt_of_cell? _ _ (hHeld.2.2))).trans (hHeld.2.2)
       refine ⟨_, rfl, ?_⟩
       replace HL286_0 := aM (Kd.V_mono (Kd.V_told (Kd.V_told (Kd.V_old (xV HL286_0.out) hb) (by first | exact Kd.N_base ho0 | exact Kd.S_base ho0 | exact Kd.R_base ho0)) (Kd.R_base ho1)) (fun _ h_ => h_.1))
       have HO289 := aM (Kd.N_lower (Kd.N_mono (ok' := fun k_ => (w.heap.size ≤ k_) ∧ some k_ ≠ (v291 : Value).ownBlock ∧ some k_ ≠ (.slice (some ad286) t283.length co27 : Value).ownBlock ∧ k_ ≠ gb266) (Kd.S_N (Kd.S_bound ho0)) (fun k_ hk_ => ⟨(Nat.le_trans (below_size (xG1 HB.out GE266.out)) hk_.2.1), hk_.1, (Kd.fresh' (Kd.N_lt (xN HO_5.out)) k_ hk_.2.1), (Kd.freshB (g := gb266) (o := .cells #[.slice (some ad273) l0_0.length c0_0, .slice A0_1 l0_1.length c0_1] 43 (0, 0)) (xB BK266.out) k_ hk_.2.1)⟩)) (below_size (xG1 HB.out GE266.out)))
       replace HO_5 := aM (Kd.N_mono (Kd.N_told (Kd.N_told (Kd.N_old (xN HO_5.out) hb) (by first | exact Kd.N_base ho0 | exact Kd.S_base ho0 | exact Kd.R_base ho0)) (Kd.R_base ho1)) (fun _ h_ => h_.1))
       have HO292 := aM (Kd.R_lower (Kd.R_newM (M := fun k_ => (w.heap.size ≤ k_)) ho1 (below_size (xG1 HB.out GE266.out)) (fun k_ h_ => h_)) (below_size (xG1 HB.out GE266.out)))
       replace BK266 := yK BK266 hb
       replace HR286_0 := aM (Kd.C_below (by repeat (first | (with_reducible exact HR286_0.out) | (with_reducible refine Kd.C_alloc ?_ _) | (with_reducible refine Kd.C_drewN ?_ _) | (with_reducible refine Kd.C_drew ?_) | exact HR286_0.out)) hb)
       replace HB := yS1 HB GE266 hb
       (try clear hb)
       (try clear hb2)
       (try clear hk)
       (try clear hi)
       (try clear ho0)
       (try clear ho1)
       refine hK.out _ _ ⟨(bC BK266.out 0).trans rfl, (bC BK266.out 1).trans rfl, HS2_⟩ (fun hHeld => ?_)
       clear hK K
       refine norm_ (a' := ?_) ?_ ?_
       rotate_left
       ·
        show Act.put _ (some 45) _ = _
        simp only [Act.put, sA, sZ, sU, i64_w, i32_w]
        rfl
       refine yO 6 7 (bm 8 127) HT_ (fun K hK => ?_)
       refine box_step ?hg (N := 7) ?hd (cs := #[.slice none 0 0, .slice none 0 0]) (t := 43) ?hr ?_; (case hd => rfl); (case hg => rfl); (case hr => first | (go_simp; done) | (go_simp; rfl))
       intro gb293 hg w30 hbox hb
       have HS2_ := (hb.cell (World.block_lt_of_cell? _ _ (hHeld.2.2))).trans (hHeld.2.2)
       replace HO_5 := aM (Kd.N_below (Kd.N_elderB (xN HO_5.out) gb293 (Nat.le_of_eq hg.symm)) hb)
       replace HL286_0 := aM (Kd.V_below (Kd.V_elderB (xV HL286_0.out) gb293 (Nat.le_of_eq hg.symm)) hb)
       replace HO289 := aM (Kd.N_below (Kd.N_elderB (xN HO289.out) gb293 (Nat.le_of_eq hg.symm)) hb)
       replace HO292 := aM (Kd.R_below (xR HO292.out) hb)
       replace HR286_0 := aM (Kd.C_below (by repeat (first | (with_reducible exact HR286_0.out) | (with_reducible refine Kd.C_alloc ?_ _) | (with_reducible refine Kd.C_drewN ?_ _) | (with_reducible refine Kd.C_drew ?_) | exact HR286_0.out)) hb)
       have BK293 := aM (hbox)
       have GW293 := yV1 hg HB GE266
       have GE293 := yV1 hg HB GE266
       replace HB := yS1 HB GE266 hb
       have NB266_293 := yX hg BK266
       have NB293_266 := yY (yX hg BK266)
       replace BK266 := yK BK266 hb
       clear hb hbox hg
       refine hK.out _ _ ⟨(bC BK266.out 0).trans rfl, (bC BK266.out 1).trans rfl, HS2_⟩ (fun hHeld => ?_)
       clear hK K
       refine norm_ (a' := ?_) ?_ ?_
       rotate_left
       ·
        show Act.put _ (some 7) _ = _
        simp only [Act.put, sA, sZ, sU, i64_w, i32_w]
        rfl
       exact norm_ (by simp only [putAll, Act.put, sA, sZ, sU]) (hCont (v288, v291, gb293) _ ⟨hHeld, (by (with_reducible repeat (first | apply Kd.V_alloc | apply Kd.V_drewN | apply Kd.V_drew)); exact Kd.V_mono HL286_0.out (fun _ hk => ⟨hk.1.1.1.1.1, ⟨hk.1.1.2, ⟨hk.1.2, ⟨hk.1.1.1.2, ⟨hk.1.1.1.1.2, hk.2⟩⟩⟩⟩⟩)), (zN (Kd.N_mono HO289.out (fun _ hk => ⟨hk.1.1, ⟨hk.1.2.1, ⟨hk.1.2.2.1, ⟨hk.1.2.2.2, hk.2⟩⟩⟩⟩))), (zR (rM HO292.out (fun _ hk => hk.1))), (zN (Kd.N_mono HO_5.out (fun _ hk => ⟨hk.1.1.1.1, ⟨hk.1.1.2, ⟨hk.1.2, ⟨hk.1.1.1.2, hk.2⟩⟩⟩⟩))), (xB BK266.out), (xB BK293.out), GW293.out, GE293.out, NB266_293.out, NB293_266.out, (xG2 HB.out GE266.out GE293.out)⟩)
      ·
       skip
       refine box_step ?hg (N := 7) ?hd (cs := #[.slice none 0 0, .slice none 0 0]) (t := 43) ?hr ?_; (case hd => rfl); (case hg => rfl); (case hr => first | (go_simp; done) | (go_simp; rfl))
       intro gb293 hg w29 hbox hb
       have HS2_ := (hb.cell (World.block_lt_of_cell? _ _ (hHeld.2.2))).trans (hHeld.2.2)
       replace HO_5 := aM (Kd.N_below (Kd.N_elderB (xN HO_5.out) gb293 (Nat.le_of_eq hg.symm)) hb)
       replace HL286_0 := aM (Kd.V_below (Kd.V_elderB (xV HL286_0.out) gb293 (Nat.le_of_eq hg.symm)) hb)
       replace HR286_0 := aM (Kd.C_below (by repeat (first | (with_reducible exact HR286_0.out) | (with_reducible refine Kd.C_alloc ?_ _) | (with_reducible refine Kd.C_drewN ?_ _) | (with_reducible refine Kd.C_drew ?_) | exact HR286_0.out)) hb)
       have BK293 := aM (hbox)
       have GW293 := yV1 hg HB GE266
       have GE293 := yV1 hg HB GE266
       replace HB := yS1 HB GE266 hb
       have NB266_293 := yX hg BK266
       have NB293_266 := yY (yX hg BK266)
       replace BK266 := yK BK266 hb
       clear hb hbox hg
       refine hK.out _ _ ⟨(bC BK266.out 0).trans rfl, (bC BK266.out 1).trans rfl, HS2_⟩ (fun hHeld => ?_)
       clear hK K
       refine norm_ (a' := ?_) ?_ ?_
       rotate_left
       ·
        show Act.put _ (some 7) _ = _
        simp only [Act.put, sA, sZ, sU, i64_w, i32_w]
        rfl
       refine yO 5 45 (bm 8 127) HT_ (fun K hK => ?_)
       refine yG Try.func72 #[.agg #[.slice (some ad273) l0_0.length c0_0, .slice A0_1 l0_1.length c0_1], .slice A286_0 (rd_L1 t283 x6_2).length c286_0] ?_
       with_reducible refine (spec_l2Part.calls k2 _ _ l0_0 _ _ l0_1 _ _ (rd_L1 t283 x6_2) t287 t290 _ ?side1 ?side2 ?side3 ?side4 ?side5 ?side6 A21.out).mono ?_
       (case side1 => exact xC (Kd.C_below HR0_0.out HB.out))
       (case side2 => exact HC0_0.out)
       (case side3 => exact xC (Kd.C_below HR0_1.out HB.out))
       (case side4 => exact HC0_1.out)
       (case side5 => repeat (first | exact (by repeat (first | (with_reducible exact HR286_0.out) | (with_reducible refine Kd.C_alloc ?_ _) | (with_reducible refine Kd.C_drewN ?_ _) | (with_reducible refine Kd.C_drew ?_) | exact HR286_0.out)) | (with_reducible refine Kd.C_alloc ?_ _) | (with_reducible refine Kd.C_drewN ?_ _) | (with_reducible refine Kd.C_drew ?_)))
       (case side6 => exact HC286_0.out)
       rintro e w30 ⟨v288, v291, rfl, ho0, ho1, hb⟩
       have HS2_ := (hb.cell (World.block_lt_of_cell? _ _ (hHeld.2.2))).trans (hHeld.2.2)
       refine ⟨_, rfl, ?_⟩
       replace HL286_0 := aM (Kd.V_mono (Kd.V_told (Kd.V_told (Kd.V_old (xV HL286_0.out) hb) (by first | exact Kd.N_base ho0 | exact Kd.S_base ho0 | exact Kd.R_base ho0)) (Kd.R_base ho1)) (fun _ h_ => h_.1))
       have HO289 := aM (Kd.N_lower (Kd.N_mono (ok' := fun k_ => (w.heap.size ≤ k_) ∧ some k_ ≠ (v291 : Value).ownBlock ∧ some k_ ≠ (.slice (some ad286) t283.length co27 : Value).ownBlock ∧ k_ ≠ gb266 ∧ k_ ≠ gb293) (Kd.S_N (Kd.S_bound ho0)) (fun k_ hk_ => ⟨(Nat.le_trans (below_size (xG2 HB.out GE266.out GE293.out)) hk_.2.1), hk_.1, (Kd.fresh' (Kd.N_lt (xN HO_5.out)) k_ hk_.2.1), (Kd.freshB (g := gb266) (o := .cells #[.slice (some ad273) l0_0.length c0_0, .slice A0_1 l0_1.length c0_1] 43 (0, 0)) (xB BK266.out) k_ hk_.2.1), (Kd.freshB (g := gb293) (o := .cells #[.slice none 0 0, .slice none 0 0] 43 (0, 0)) (xB BK293.out) k_ hk_.2.1)⟩)) (below_size (xG2 HB.out GE266.out GE293.out)))
       replace HO_5 := aM (Kd.N_mono (Kd.N_told (Kd.N_told (Kd.N_old (xN HO_5.out) hb) (by first | exact Kd.N_base ho0 | exact Kd.S_base ho0 | exact Kd.R_base ho0)) (Kd.R_base ho1)) (fun _ h_ => h_.1))
       have HO292 := aM (Kd.R_lower (Kd.R_newM (M := fun k_ => (w.heap.size ≤ k_)) ho1 (below_size (xG2 HB.out GE266.out GE293.out)) (fun k_ h_ => h_)) (below_size (xG2 HB.out GE266.out GE293.out)))
       replace BK266 := yK BK266 hb
       replace HR286_0 := aM (Kd.C_below (by repeat (first | (with_reducible exact HR286_0.out) | (with_reducible refine Kd.C_alloc ?_ _) | (with_reducible refine Kd.C_drewN ?_ _) | (with_reducible refine Kd.C_drew ?_) | exact HR286_0.out)) hb)
       replace BK293 := yK BK293 hb
       replace HB := yS2 HB GE266 GE293 hb
       (try clear hb)
       (try clear hb2)
       (try clear hk)
       (try clear hi)
       (try clear ho0)
       (try clear ho1)
       refine hK.out _ _ ⟨(bC BK266.out 0).trans rfl, (bC BK266.out 1).trans rfl, HS2_⟩ (fun hHeld => ?_)
       clear hK K
       refine norm_ (a' := ?_) ?_ ?_
       rotate_left
       ·
        show Act.put _ (some 45) _ = _
        simp only [Act.put, sA, sZ, sU, i64_w, i32_w]
        rfl
       exact norm_ (by simp only [putAll, Act.put, sA, sZ, sU]) (hCont (v288, v291, gb293) _ ⟨hHeld, (by (with_reducible repeat (first | apply Kd.V_alloc | apply Kd.V_drewN | apply Kd.V_drew)); exact Kd.V_mono HL286_0.out (fun _ hk => ⟨hk.1.1.1.1.1, ⟨hk.1.2, ⟨hk.2, ⟨hk.1.1.1.2, ⟨hk.1.1.1.1.2, hk.1.1.2⟩⟩⟩⟩⟩)), (xN HO289.out), (zR (rM HO292.out (fun _ hk => hk.1))), (zN (Kd.N_mono HO_5.out (fun _ hk => ⟨hk.1.1.1.1, ⟨hk.1.2, ⟨hk.2, ⟨hk.1.1.1.2, hk.1.1.2⟩⟩⟩⟩))), (xB BK266.out), (xB BK293.out), GW293.out, GE293.out, NB266_293.out, NB293_266.out, (xG2 HB.out GE266.out GE293.out)⟩)
     rintro ⟨v288, v291, gb293⟩ w31 ⟨hS_, h0_, h1_, h2_, h3_, h4_, h5_, h6_, h7_, h8_, h9_, h10_⟩
     have n0_ : Aside0 (Kd.V (Kd.int .i64) 3 w31 w.heap.size (fun k_ => (w.heap.size ≤ k_) ∧ some k_ ≠ (v288 : Value).ownBlock ∧ some k_ ≠ (v291 : Value).ownBlock ∧ some k_ ≠ (.slice (some ad286) t283.length co27 : Value).ownBlock ∧ k_ ≠ gb266 ∧ k_ ≠ gb293) (.slice A286_0 (rd_L1 t283 x6_2).length c286_0) (rd_L1 t283 x6_2)) := ⟨h0_⟩
     have n1_ : Aside0 (Kd.N (Kd.slice 3 (Kd.int .i64)) 22 w31 w.heap.size (fun k_ => (w.heap.size ≤ k_) ∧ some k_ ≠ (v291 : Value).ownBlock ∧ some k_ ≠ (.slice (some ad286) t283.length co27 : Value).ownBlock ∧ k_ ≠ gb266 ∧ k_ ≠ gb293) v288 t287) := ⟨h1_⟩
     have n2_ : Aside0 (Kd.R (Kd.int .i64) 3 w31 w.heap.size (fun k_ => (w.heap.size ≤ k_)) v291 t290) := ⟨h2_⟩
     have n3_ : Aside0 (Kd.N (Kd.slice 3 (Kd.int .i64)) 22 w31 w.heap.size (fun k_ => (w.heap.size ≤ k_) ∧ some k_ ≠ (v288 : Value).ownBlock ∧ some k_ ≠ (v291 : Value).ownBlock ∧ k_ ≠ gb266 ∧ k_ ≠ gb293) (.slice (some ad286) t283.length co27) t283) := ⟨h3_⟩
     have n4_ : Aside0 (w31.heap[gb266]? = some (.cells #[.slice (some ad273) l0_0.length c0_0, .slice A0_1 l0_1.length c0_1] 43 (0, 0))) := ⟨h4_⟩
     have n5_ : Aside0 (w31.heap[gb293]? = some (.cells #[.slice none 0 0, .slice none 0 0] 43 (0, 0))) := ⟨h5_⟩
     have n6_ : Aside0 (w.heap.size ≤ gb293) := ⟨h6_⟩
     have n7_ : Aside0 (w.heap.size ≤ gb293) := ⟨h7_⟩
     have n8_ : Aside0 (gb266 ≠ gb293) := ⟨h8_⟩
     have n9_ : Aside0 (gb293 ≠ gb266) := ⟨h9_⟩
     have n10_ : Aside0 (Below w.heap.size w w31) := ⟨h10_⟩
     clear HO_5 BK266 HB h0_ h1_ h2_ h3_ h4_ h5_ h6_ h7_ h8_ h9_ h10_
     have HL286_0 := n0_
     have HO289 := n1_
     have HO292 := n2_
     have HO_5 := n3_
     have BK266 := n4_
     have BK293 := n5_
     have GW293 := n6_
     have GE293 := n7_
     have NB266_293 := n8_
     have NB293_266 := n9_
     have HB := n10_
     clear n0_ n1_ n2_ n3_ n4_ n5_ n6_ n7_ n8_ n9_ n10_
     have hHeld : w31.cell? ⟨gb266, 0, none⟩ = some (.slice (some ad273) l0_0.length c0_0) ∧ w31.cell? ⟨gb266, 1, none⟩ = some (.slice A0_1 l0_1.length c0_1) ∧ w31.cell? (ad286.add (x6_2).toNat) = some (.slice A286_0 (rd_L1 t283 x6_2).length c286_0) := hS_
     obtain ⟨Ao32, co32, eo32⟩ := Kd.N_slice HO289.out
     (first | subst eo32 | (injection eo32 with f1_ f2_ f3_; have f4_ := f1_.symm; have f5_ := f3_.symm; clear f1_ f2_ f3_; subst f4_; subst f5_))
     obtain ⟨Ao34, co34, eo34⟩ := Kd.R_slice HO292.out
     (first | subst eo34 | (injection eo34 with f1_ f2_ f3_; have f4_ := f1_.symm; have f5_ := f3_.symm; clear f1_ f2_ f3_; subst f4_; subst f5_))
     refine norm_ (a' := ?_) ?_ ?_
     rotate_left
     ·
      simp only [putAll, Act.put, sA, sZ, sU]
      rfl
     refine one_ (i := 7) (N := none) (bm 8 255) rfl rfl (one_of HT_.out (by kernel_rfl)) (by decide) (fun K hK => ?_)
     have hs33 : w31.cell? ⟨gb293, 0, none⟩ = some (.slice none 0 0) := (bC BK293.out 0).trans rfl
     have hfs33 := bF BK293.out 0
     have hns33_0 := NB266_293.out
     have hms33_0 := NB293_266.out
     have hs35 : w31.cell? ⟨gb293, 1, none⟩ = some (.slice none 0 0) := (bC BK293.out 1).trans rfl
     have hfs35 := bF BK293.out 1
     have hns35_0 := NB266_293.out
     have hms35_0 := NB293_266.out
     refine skip_ (w1 := ?_) (by rfl) rfl ?_ ?_
     rotate_left
     ·
      go_simp
      rfl
     refine hK.out _ _ ⟨((cell_far (p := ⟨gb293, _, none⟩) NB266_293.out _).trans (((cell_far (p := ⟨gb293, _, none⟩) NB266_293.out _).trans (hHeld.1)))), ((cell_far (p := ⟨gb293, _, none⟩) NB266_293.out _).trans (((cell_far (p := ⟨gb293, _, none⟩) NB266_293.out _).trans (hHeld.2.1)))), ((cell_far (p := ⟨gb293, _, none⟩) (by first | exact Kd.own_blk (Kd.N_away HO_5.out (fun _ hk => hk.2.2.2.2)) | (rw [add_block]; exact Kd.own_blk (Kd.N_away HO_5.out (fun _ hk => hk.2.2.2.2))) | (show (Addr.add _ _).block ≠ _; rw [add_block]; exact Kd.own_blk (Kd.N_away HO_5.out (fun _ hk => hk.2.2.2.2))) | (dsimp only; exact Kd.own_blk (Kd.N_away HO_5.out (fun _ hk => hk.2.2.2.2)))) _).trans (((cell_far (p := ⟨gb293, _, none⟩) (by first | exact Kd.own_blk (Kd.N_away HO_5.out (fun _ hk => hk.2.2.2.2)) | (rw [add_block]; exact Kd.own_blk (Kd.N_away HO_5.out (fun _ hk => hk.2.2.2.2))) | (show (Addr.add _ _).block ≠ _; rw [add_block]; exact Kd.own_blk (Kd.N_away HO_5.out (fun _ hk => hk.2.2.2.2))) | (dsimp only; exact Kd.own_blk (Kd.N_away HO_5.out (fun _ hk => hk.2.2.2.2)))) _).trans (hHeld.2.2))))⟩ (fun hHeld => ?_)
     clear hK K
     refine done_ (done_of HT_.out (by kernel_rfl)) ?_
     have hnb36 := NB293_266.out
     have hnc36 := NB266_293.out
     have hcz37_0 := yC0 BK293
     have hcz37_1 := yC1 BK293
     have hfz37_0 := bF BK293.out 0
     have hfz37_1 := bF BK293.out 1
     try go_wp2_with (first | (refine yL 49 Try.func74 #[.slice Ao32 t287.length co32] ?_; (with_reducible refine (spec_l4Equations.calls k2 _ _ t287 t294 _ ?side1 ?side2 A22.out).mono ?_); (case side1 => refine (Kd.N_reads' (e := 22) (base := w.heap.size) (ok := fun k_ => ((w.heap.size ≤ k_) ∧ (some k_ ≠ (.slice Ao34 t290.length co34 : Value).ownBlock ∧ (some k_ ≠ (.slice (some ad286) t283.length co27 : Value).ownBlock ∧ (k_ ≠ gb266 ∧ k_ ≠ gb293))))) (n := t287.length) (c := co32) ?_).2.2; exact (zN (Kd.N_mono (Kd.N_far (p := ⟨gb293, 1, none⟩) (Kd.N_far (p := ⟨gb293, 0, none⟩) (Kd.N_mono HO289.out (fun k_ hk => (⟨hk, hk.2.2.2.2⟩ : _ ∧ k_ ≠ gb293))) (fun _ hk => hk.2) (.slice Ao32 t287.length co32)) (fun _ hk => hk.2) (.slice Ao34 t290.length co34)) (fun _ h_ => h_.1)))); (case side2 => exact (Kd.N_reads' HO289.out).2.1); rintro e w38 ⟨v295, rfl, ho0, hb⟩; refine ⟨_, rfl, ?_⟩; replace HL286_0 := aM (Kd.V_elder' (by (with_reducible repeat (first | apply Kd.V_alloc | apply Kd.V_drewN | apply Kd.V_drew)); exact (Kd.V_mono (Kd.V_far (p := ⟨gb293, 1, none⟩) (Kd.V_far (p := ⟨gb293, 0, none⟩) (Kd.V_mono HL286_0.out (fun k_ hk => (⟨hk, hk.2.2.2.2.2⟩ : _ ∧ k_ ≠ gb293))) (fun _ hk => hk.2) (.slice Ao32 t287.length co32)) (fun _ hk => hk.2) (.slice Ao34 t290.length co34)) (fun _ h_ => h_.1))) (by first | exact Kd.N_base ho0 | exact Kd.S_base ho0 | exact Kd.R_base ho0) hb); have HO296 := aM (Kd.N_lower (Kd.N_mono (ok' := fun k_ => (w.heap.size ≤ k_) ∧ some k_ ≠ (.slice (some ad286) t283.length co27 : Value).ownBlock ∧ some k_ ≠ (.slice Ao32 t287.length co32 : Value).ownBlock ∧ some k_ ≠ (.slice Ao34 t290.length co34 : Value).ownBlock ∧ k_ ≠ gb266 ∧ k_ ≠ gb293) (Kd.S_N (Kd.S_bound ho0)) (fun k_ hk_ => ⟨(Nat.le_trans (below_size (xG2 HB.out GE266.out GE293.out)) hk_.2.1), (Kd.fresh' (Kd.N_lt (zN (Kd.N_mono (Kd.N_far (p := ⟨gb293, 1, none⟩) (Kd.N_far (p := ⟨gb293, 0, none⟩) (Kd.N_mono HO_5.out (fun k_ hk => (⟨hk, hk.2.2.2.2⟩ : _ ∧ k_ ≠ gb293))) (fun _ hk => hk.2) (.slice Ao32 t287.length co32)) (fun _ hk => hk.2) (.slice Ao34 t290.length co34)) (fun _ h_ => h_.1)))) k_ hk_.2.1), (Kd.fresh' (Kd.N_lt (zN (Kd.N_mono (Kd.N_far (p := ⟨gb293, 1, none⟩) (Kd.N_far (p := ⟨gb293, 0, none⟩) (Kd.N_mono HO289.out (fun k_ hk => (⟨hk, hk.2.2.2.2⟩ : _ ∧ k_ ≠ gb293))) (fun _ hk => hk.2) (.slice Ao32 t287.length co32)) (fun _ hk => hk.2) (.slice Ao34 t290.length co34)) (fun _ h_ => h_.1)))) k_ hk_.2.1), (Kd.fresh' (Kd.R_lt (zR (rM (Kd.R_far (p := ⟨gb293, 1, none⟩) (Kd.R_far (p := ⟨gb293, 0, none⟩) (Kd.R_types HO292.out BK293.out (by decide)) (fun _ hk => hk.2) (.slice Ao32 t287.length co32)) (fun _ hk => hk.2) (.slice Ao34 t290.length co34)) (fun _ h_ => h_.1)))) k_ hk_.2.1), (Kd.freshB (g := gb266) (o := .cells #[.slice (some ad273) l0_0.length c0_0, .slice A0_1 l0_1.length c0_1] 43 (0, 0)) (by (with_reducible repeat (first | refine bN ?_ _ | refine bD ?_ | refine bA ?_ _)); refine blk_far ?_ NB266_293.out _; (with_reducible repeat (first | refine bN ?_ _ | refine bD ?_ | refine bA ?_ _)); refine blk_far ?_ NB266_293.out _; (with_reducible repeat (first | refine bN ?_ _ | refine bD ?_ | refine bA ?_ _)); exact BK266.out) k_ hk_.2.1), (Kd.freshB (g := gb293) (o := .cells #[.slice Ao32 t287.length co32, .slice Ao34 t290.length co34] 43 (0, 0)) (by (with_reducible repeat (first | refine bN ?_ _ | refine bD ?_ | refine bA ?_ _)); refine blk_put (cs := #[.slice Ao32 t287.length co32, .slice none 0 0]) ?_ 1 _ rfl; (with_reducible repeat (first | refine bN ?_ _ | refine bD ?_ | refine bA ?_ _)); refine blk_put (cs := #[.slice none 0 0, .slice none 0 0]) ?_ 0 _ rfl; (with_reducible repeat (first | refine bN ?_ _ | refine bD ?_ | refine bA ?_ _)); exact BK293.out) k_ hk_.2.1)⟩)) (below_size (xG2 HB.out GE266.out GE293.out))); replace HO_5 := aM (Kd.N_elder' (zN (Kd.N_mono (Kd.N_far (p := ⟨gb293, 1, none⟩) (Kd.N_far (p := ⟨gb293, 0, none⟩) (Kd.N_mono HO_5.out (fun k_ hk => (⟨hk, hk.2.2.2.2⟩ : _ ∧ k_ ≠ gb293))) (fun _ hk => hk.2) (.slice Ao32 t287.length co32)) (fun _ hk => hk.2) (.slice Ao34 t290.length co34)) (fun _ h_ => h_.1))) (by first | exact Kd.N_base ho0 | exact Kd.S_base ho0 | exact Kd.R_base ho0) hb); replace HO289 := aM (Kd.N_elder' (zN (Kd.N_mono (Kd.N_far (p := ⟨gb293, 1, none⟩) (Kd.N_far (p := ⟨gb293, 0, none⟩) (Kd.N_mono HO289.out (fun k_ hk => (⟨hk, hk.2.2.2.2⟩ : _ ∧ k_ ≠ gb293))) (fun _ hk => hk.2) (.slice Ao32 t287.length co32)) (fun _ hk => hk.2) (.slice Ao34 t290.length co34)) (fun _ h_ => h_.1))) (by first | exact Kd.N_base ho0 | exact Kd.S_base ho0 | exact Kd.R_base ho0) hb); replace HO292 := aM (Kd.R_below (zR (rM (Kd.R_far (p := ⟨gb293, 1, none⟩) (Kd.R_far (p := ⟨gb293, 0, none⟩) (Kd.R_types HO292.out BK293.out (by decide)) (fun _ hk => hk.2) (.slice Ao32 t287.length co32)) (fun _ hk => hk.2) (.slice Ao34 t290.length co34)) (fun _ h_ => h_.1))) hb); replace BK266 := yK1 BK266 NB266_293 hb; replace BK293 := aM (bB (g := gb293) (o := .cells #[.slice Ao32 t287.length co32, .slice Ao34 t290.length co34] 43 (0, 0)) (by (with_reducible repeat (first | refine bN ?_ _ | refine bD ?_ | refine bA ?_ _)); refine blk_put (cs := #[.slice Ao32 t287.length co32, .slice none 0 0]) ?_ 1 _ rfl; (with_reducible repeat (first | refine bN ?_ _ | refine bD ?_ | refine bA ?_ _)); refine blk_put (cs := #[.slice none 0 0, .slice none 0 0]) ?_ 0 _ rfl; (with_reducible repeat (first | refine bN ?_ _ | refine bD ?_ | refine bA ?_ _)); exact BK293.out) hb); replace HB := yS2 HB GE266 GE293 hb; (try clear hb; try clear hk; try clear ho0); obtain ⟨Ao39, co39, eo39⟩ := Kd.N_slice HO296.out; subst eo39) | (refine yL 51 Try.func73 #[.slice Ao39 t294.length co39, .int .i64 x4_1] ?_; (with_reducible refine (spec_l4Relation.calls k2 _ _ t294 x4_1 t297 true _ ?side1 ?side2 A23.out).mono ?_); (case side1 => repeat (first | exact (Kd.N_reads' HO296.out).2.2 | (with_reducible refine Kd.C_alloc ?_ _) | (with_reducible refine Kd.C_drewN ?_ _) | (with_reducible refine Kd.C_drew ?_))); (case side2 => exact (Kd.N_reads' HO296.out).2.1); rintro e w40 ⟨v299, rfl, ho0, hb⟩; refine ⟨_, rfl, ?_⟩; replace HO_5 := aM (Kd.N_elder' (xN HO_5.out) (Kd.R_base ho0) hb); replace HL286_0 := aM (Kd.V_elder' (xV HL286_0.out) (Kd.R_base ho0) hb); replace HO289 := aM (Kd.N_elder' (xN HO289.out) (Kd.R_base ho0) hb); replace HO296 := aM (Kd.N_elder' (xN HO296.out) (Kd.R_base ho0) hb); have HO300 := aM (Kd.R_lower (Kd.R_new' (Kd.R_newM (M := fun k_ => (w.heap.size ≤ k_)) ho0 (below_size (xG2 HB.out GE266.out GE293.out)) (fun k_ h_ => h_)) (Kd.R_lt (xR HO292.out))) (below_size (xG2 HB.out GE266.out GE293.out))); replace HO292 := aM (Kd.R_elder' (xR HO292.out) (Kd.R_base ho0) hb); replace BK266 := yK BK266 hb; replace BK293 := yK BK293 hb; replace HB := yS2 HB GE266 GE293 hb; (try clear hb; try clear hk; try clear ho0); obtain ⟨hcz41_0, hcz41_1, hfz41_0, hfz41_1⟩ := yD2 BK293; obtain ⟨Ao42, co42, eo42⟩ := Kd.R_slice HO300.out; subst eo42) | (refine yL 60 Try.func75 #[.slice Ao42 t297.length co42, .slice Ao34 t290.length co34] ?_; (with_reducible refine (spec_l4Signs.calls k2 _ _ t297 _ _ t290 t301 true _ ?side1 ?side2 ?side3 ?side4 A25.out).mono ?_); (case side1 => exact xC (Kd.R_reads' HO300.out).2.2); (case side2 => exact (Kd.R_reads' HO300.out).2.1); (case side3 => exact xC (Kd.R_reads' HO292.out).2.2); (case side4 => exact (Kd.R_reads' HO292.out).2.1); rintro e w43 ⟨v303, rfl, ho0, hb⟩; refine ⟨_, rfl, ?_⟩; replace HO_5 := aM (Kd.N_elder' (xN HO_5.out) (Kd.R_base ho0) hb); replace HL286_0 := aM (Kd.V_elder' (xV HL286_0.out) (Kd.R_base ho0) hb); replace HO289 := aM (Kd.N_elder' (xN HO289.out) (Kd.R_base ho0) hb); replace HO296 := aM (Kd.N_elder' (xN HO296.out) (Kd.R_base ho0) hb); have HO304 := aM (Kd.R_lower (Kd.R_new' (Kd.R_new' (Kd.R_newM (M := fun k_ => (w.heap.size ≤ k_)) ho0 (below_size (xG2 HB.out GE266.out GE293.out)) (fun k_ h_ => h_)) (Kd.R_lt (xR HO292.out))) (Kd.R_lt (xR HO300.out))) (below_size (xG2 HB.out GE266.out GE293.out))); replace HO292 := aM (Kd.R_elder' (xR HO292.out) (Kd.R_base ho0) hb); replace HO300 := aM (Kd.R_elder' (xR HO300.out) (Kd.R_base ho0) hb); replace BK266 := yK BK266 hb; replace BK293 := yK BK293 hb; replace HB := yS2 HB GE266 GE293 hb; (try clear hb; try clear hk; try clear ho0); have p305 : 0 ≤ (x6_2 : Int) := yA; have q305 : x6_2 < (t283.length : Int) := yA; obtain ⟨ad305, A305_0, c305_0, e305, hx305_0, hl305_0, hi305_0⟩ := at_L1 (Kd.N_reads' HO_5.out).2.2 x6_2 p305 q305; obtain rfl : ad286 = ad305 := (by injection e305); obtain ⟨ce305, hce305, hMe305, hcc305⟩ := Kd.N_get HO_5.out [] x6_2 p305 (by first | exact q305 | exact yA | (have e_ := (Kd.N_reads' HO_5.out).1; omega)); obtain ⟨ua305_0, uc305_0, rfl, ul305_0, ge305_0⟩ := Kd.FK_slice_open hMe305; have hv305_0 := hcc305 0 _ rfl; rw [Nat.add_zero, show ((Kd.slice 3 (Kd.int .i64))).sz = 1 from rfl, Nat.mul_one] at hv305_0; replace hv305_0 := Option.some.inj (hv305_0.symm.trans hx305_0); injection hv305_0 with hva_ hvn_ hvc_; rw [hva_] at ge305_0; rw [hvc_] at ul305_0; have HL305_0 := aM (show Kd.V (Kd.int .i64) 3 _ w.heap.size _ _ (rd_L1 t283 x6_2) from Kd.V_mk ul305_0 ge305_0); clear hva_ hvn_ hvc_ ge305_0 ul305_0; clear hcc305 hce305; have HR305_0 := aM hi305_0; have HC305_0 := aM hl305_0; clear hi305_0 hl305_0; replace p305 := eq_true p305; replace q305 := eq_true q305))
     go_ret2
     exact ⟨_, _, yF, by (with_reducible repeat (first | apply Kd.V_alloc | apply Kd.V_drewN | apply Kd.V_drew)); exact Kd.V_mono HL305_0.out (fun _ hk => ⟨hk.1.1.1.1.1, hk.1.2⟩), zR (rM HO304.out (fun _ hk => hk.1.1.1)), xG2 HB.out GE266.out GE293.out⟩
end Go.Proofs.Ytgidnmpppbkamaa.PFnExactPlaneClass
