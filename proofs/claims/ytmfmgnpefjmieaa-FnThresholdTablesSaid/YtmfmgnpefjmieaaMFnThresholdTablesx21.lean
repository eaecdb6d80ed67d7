-- Laid for this claim by a program of the session's own (wip/tool/myprint.py).
import Derived.Test.YtmfmgnpefjmieaaMFnThresholdTablesx20
namespace Go.Proofs.Ytmfmgnpefjmieaa.PFnThresholdTables
open Go.RowKit Go.Proofs.YtmfmgnpefjmieaaW.PrintWords Go.Proofs.YtmfmgnpefjmieaaW.PrintLast Go.Proofs.YtmfmgnpefjmieaaW.PrintMore
attribute [local go_sem] max2_int min2_int max_two min_two max_three min_three max_four min_four
set_option linter.unusedVariables false
set_option maxHeartbeats 8000000
set_option maxRecDepth 100000
set_option linter.unusedSimpArgs false
def impl_PlaneTable.f (k : Nat) (l0_0 : List Int) (a0_1 : Int) : Option (List Int × Bool) := (impl_IsPlane.f k l0_0 a0_1).bind fun t617 => (if t617 = true then ((impl_Plane_table.f k l0_0 a0_1).bind fun t618 => (some (t618, true))) else (some (([] : List Int), false)))
theorem impl_PlaneTable.calls (k : Nat) (A0_0 : Option Addr) (c0_0 : Nat) (l0_0 : List Int) (a0_1 : Int) (r1 : List Int) (r2 : Bool) (w : World) (hr0_0 : Kd.C (Kd.int .i64) w A0_0 l0_0.length l0_0) (hc0_0 : l0_0.length ≤ c0_0) (h : impl_PlaneTable.f k l0_0 a0_1 = some (r1, r2)) :
    Calls Try.prog 27 #[.agg #[.slice A0_0 l0_0.length c0_0, .int .i64 a0_1]] w fun e w' => ∃ v0_ : Value, e = .returned (.tuple #[v0_, .bool r2]) ∧ Kd.R (Kd.int .i64) 3 w' w.heap.size (fun _ => True) v0_ r1 ∧ Below w.heap.size w w' := by
 have hu28 := Try.underlying28
 have HR0_0 := aM hr0_0
 have HC0_0 := aM hc0_0
 clear hr0_0 hc0_0
 have HB := aM (Below.refl w.heap.size w)
 have H : ((impl_IsPlane.f k l0_0 a0_1).bind fun t617 => (if t617 = true then ((impl_Plane_table.f k l0_0 a0_1).bind fun t618 => (some (t618, true))) else (some (([] : List Int), false)))) = some (r1, r2) := h
 clear h
 replace H := oB.mp H
 obtain ⟨t617, A20, H⟩ := H
 have A2 := aM A20
 clear A20
 by_cases c3 : t617 = true
 rotate_left
 ·
  replace c3 := Bool.eq_false_iff.mpr c3
  subst c3
  rw [if_neg (show ¬ (false = true) by decide)] at H
  simp only [Option.some.injEq, Prod.mk.injEq] at H
  obtain ⟨rfl, rfl⟩ := H
  go_enter Try.func27, Try.ntmps27
  go_wp2_with (first | (refine yB 1 #[.slice A0_0 l0_0.length c0_0, .int .i64 a0_1] 28 ?_; intro gb616 hg w10 hbox hb; have BK616 := aM (hbox); have GW616 := yV0 hg HB; have GE616 := yV0 hg HB; replace HB := yS0 HB hb; clear hb hbox hg; obtain ⟨hcz11_0, hcz11_1, hfz11_0, hfz11_1⟩ := yD2 BK616) | (refine yL 5 Try.func93 #[.agg #[.slice A0_0 l0_0.length c0_0, .int .i64 a0_1]] ?_; (with_reducible refine (impl_IsPlane.calls k _ _ l0_0 a0_1 false _ (xC (Kd.C_below HR0_0.out HB.out)) HC0_0.out A2.out).mono ?_); rintro e w12 ⟨rfl, hb⟩; refine ⟨_, rfl, ?_⟩; replace BK616 := yK BK616 hb; replace HB := yS1 HB GE616 hb; (try clear hb)))
  go_ret2
  exact ⟨_, yF, yNi, xG1 HB.out GE616.out⟩
 subst c3
 rw [if_pos rfl] at H
 replace H := oB.mp H
 obtain ⟨t618, A40, H⟩ := H
 have A4 := aM A40
 clear A40
 simp only [Option.some.injEq, Prod.mk.injEq] at H
 obtain ⟨rfl, rfl⟩ := H
 go_enter Try.func27, Try.ntmps27
 go_wp2_with (first | (refine yB 1 #[.slice A0_0 l0_0.length c0_0, .int .i64 a0_1] 28 ?_; intro gb616 hg w5 hbox hb; have BK616 := aM (hbox); have GW616 := yV0 hg HB; have GE616 := yV0 hg HB; replace HB := yS0 HB hb; clear hb hbox hg; obtain ⟨hcz6_0, hcz6_1, hfz6_0, hfz6_1⟩ := yD2 BK616) | (refine yL 5 Try.func93 #[.agg #[.slice A0_0 l0_0.length c0_0, .int .i64 a0_1]] ?_; (with_reducible refine (impl_IsPlane.calls k _ _ l0_0 a0_1 true _ (xC (Kd.C_below HR0_0.out HB.out)) HC0_0.out A2.out).mono ?_); rintro e w7 ⟨rfl, hb⟩; refine ⟨_, rfl, ?_⟩; replace BK616 := yK BK616 hb; replace HB := yS1 HB GE616 hb; (try clear hb); obtain ⟨hcz8_0, hcz8_1, hfz8_0, hfz8_1⟩ := yD2 BK616) | (refine yL 8 Try.func94 #[.agg #[.slice A0_0 l0_0.length c0_0, .int .i64 a0_1]] ?_; (with_reducible refine (impl_Plane_table.calls k _ _ l0_0 a0_1 t618 _ (xC (Kd.C_below HR0_0.out HB.out)) HC0_0.out A4.out).mono ?_); rintro e w9 ⟨v619, rfl, ho0, hb⟩; refine ⟨_, rfl, ?_⟩; have HO620 := aM (Kd.R_lower ho0 (below_size (xG1 HB.out GE616.out))); replace BK616 := yK BK616 hb; replace HB := yS1 HB GE616 hb; (try clear hb; try clear ho0)))
 go_ret2
 exact ⟨_, yF, xR HO620.out, xG1 HB.out GE616.out⟩
end Go.Proofs.Ytmfmgnpefjmieaa.PFnThresholdTables
