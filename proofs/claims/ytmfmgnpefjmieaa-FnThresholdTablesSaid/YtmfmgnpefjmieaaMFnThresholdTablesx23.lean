-- Laid for this claim by a program of the session's own (wip/tool/myprint.py).
import Derived.Test.YtmfmgnpefjmieaaMFnThresholdTablesx22
import Derived.Test.YtmfmgnpefjmieaaMFnThresholdTablesx22
import Derived.Test.YtmfmgnpefjmieaaMFnThresholdTablesx22
import Derived.Test.YtmfmgnpefjmieaaMFnThresholdTablesx22
import Derived.Test.YtmfmgnpefjmieaaMFnThresholdTablesx22
import Derived.Test.YtmfmgnpefjmieaaMFnThresholdTablesx22
import Derived.Test.YtmfmgnpefjmieaaMFnThresholdTablesx22
import Derived.Test.YtmfmgnpefjmieaaMFnThresholdTablesx22
import Derived.Test.YtmfmgnpefjmieaaMFnThresholdTablesx22
import Derived.Test.YtmfmgnpefjmieaaMFnThresholdTablesx22
import Derived.Test.YtmfmgnpefjmieaaMFnThresholdTablesx22
import Derived.Test.YtmfmgnpefjmieaaMFnThresholdTablesx22
import Derived.Test.YtmfmgnpefjmieaaMFnThresholdTablesx22
namespace Go.Proofs.Ytmfmgnpefjmieaa.PFnThresholdTables
open Go.RowKit Go.Proofs.YtmfmgnpefjmieaaW.PrintWords Go.Proofs.YtmfmgnpefjmieaaW.PrintLast Go.Proofs.YtmfmgnpefjmieaaW.PrintMore
attribute [local go_sem] max2_int min2_int max_two min_two max_three min_three max_four min_four
set_option linter.unusedVariables false
set_option maxHeartbeats 80000000
set_option maxRecDepth 100000
set_option linter.unusedSimpArgs false
theorem laws_FnThresholdTables.calls (k : Nat) (A0 : Option Addr) (c0 : Nat) (l0 : List Int) (r : Bool) (w : World) (hr0 : Kd.C (Kd.int .u8) w A0 l0.length l0) (hc0 : l0.length ≤ c0) (h : laws_FnThresholdTables.f k l0 = some r) :
  Calls Try.prog 3 #[.slice A0 l0.length c0] w fun e w' => e = .returned (.bool r) ∧ Below w.heap.size w w' := by
 have hu28 := Try.underlying28
 have hu46 := Try.underlying46
 have HR0 := aM hr0
 have HC0 := aM hc0
 clear hr0 hc0
 have HB := aM (Below.refl w.heap.size w)
 have H : ((laws_vBig.f l0).bind fun t621 => (if t621 = true then (some true) else ((spec_DrawLeastPlane.f k l0).bind fun bt622 => ((impl_LeastPlane.f k bt622.1 bt622.2).bind fun bt626 => ((spec_LeastPlane.f k bt622.1 bt622.2).bind fun bt632 => ((impl_IsThreshold.f k bt622.1 bt622.2).bind fun bt638 => ((spec_IsThreshold.f k bt622.1 bt622.2).bind fun bt640 => ((impl_SizeOf.f k bt622.1 bt622.2).bind fun bt642 => ((spec_SizeOf.f k bt622.1 bt622.2).bind fun bt644 => ((impl_FindTrade.f k bt622.1 bt622.2).bind fun bt646 => ((spec_FindTrade.f k bt622.1 bt622.2).bind fun bt650 => ((laws_vCut.f l0 1).bind fun t654 => ((spec_DrawIsTrade.f k t654).bind fun bt657 => ((impl_IsTrade.f k bt657.1 bt657.2.1 bt657.2.2).bind fun bt664 => ((spec_IsTrade.f k bt657.1 bt657.2.1 bt657.2.2).bind fun bt666 => (if (bt626.2.2 != bt632.2.2) = true then (laws_FnThresholdTables.j0 k bt622.1 bt622.2 bt626.2.2 bt638.1 bt638.2 bt642.1 bt642.2 bt646.1 bt646.2 bt657.1 bt657.2.1 bt664.1 bt664.2 true bt626.1 bt626.2.1) else ((laws_vPlane.f k bt626.1 bt626.2.1 bt632.1 bt632.2.1).bind fun t668 => (if t668 = true then (if (bt638.1 != bt640.1) = true then (laws_FnThresholdTables.j0 k bt622.1 bt622.2 bt626.2.2 bt638.1 bt638.2 bt642.1 bt642.2 bt646.1 bt646.2 bt657.1 bt657.2.1 bt664.1 bt664.2 true bt626.1 bt626.2.1) else (if (bt638.2 != bt640.2) = true then (laws_FnThresholdTables.j0 k bt622.1 bt622.2 bt626.2.2 bt638.1 bt638.2 bt642.1 bt642.2 bt646.1 bt646.2 bt657.1 bt657.2.1 bt664.1 bt664.2 true bt626.1 bt626.2.1) else (if bt642.1 = bt644.1 then (if (bt642.2 != bt644.2) = true then (laws_FnThresholdTables.j0 k bt622.1 bt622.2 bt626.2.2 bt638.1 bt638.2 bt642.1 bt642.2 bt646.1 bt646.2 bt657.1 bt657.2.1 bt664.1 bt664.2 true bt626.1 bt626.2.1) else (if (bt646.2 != bt650.2) = true then (laws_FnThresholdTables.j0 k bt622.1 bt622.2 bt626.2.2 bt638.1 bt638.2 bt642.1 bt642.2 bt646.1 bt646.2 bt657.1 bt657.2.1 bt664.1 bt664.2 true bt626.1 bt626.2.1) else ((laws_vInts.f k bt646.1 bt650.1).bind fun t669 => (if t669 = true then (if (bt664.1 != bt666.1) = true then (laws_FnThresholdTables.j0 k bt622.1 bt622.2 bt626.2.2 bt638.1 bt638.2 bt642.1 bt642.2 bt646.1 bt646.2 bt657.1 bt657.2.1 bt664.1 bt664.2 true bt626.1 bt626.2.1) else (if (bt664.2 != bt666.2) = true then (laws_FnThresholdTables.j0 k bt622.1 bt622.2 bt626.2.2 bt638.1 bt638.2 bt642.1 bt642.2 bt646.1 bt646.2 bt657.1 bt657.2.1 bt664.1 bt664.2 true bt626.1 bt626.2.1) else ((impl_IsTable.f k bt622.1 bt622.2).bind fun t670 => ((spec_IsTable.f k bt622.1 bt622.2).bind fun t671 => (if (t670 != t671) = true then (laws_FnThresholdTables.j0 k bt622.1 bt622.2 bt626.2.2 bt638.1 bt638.2 bt642.1 bt642.2 bt646.1 bt646.2 bt657.1 bt657.2.1 bt664.1 bt664.2 true bt626.1 bt626.2.1) else ((impl_IsTable.f k bt622.1 bt622.2).bind fun t672 => (laws_FnThresholdTables.j0 k bt622.1 bt622.2 bt626.2.2 bt638.1 bt638.2 bt642.1 bt642.2 bt646.1 bt646.2 bt657.1 bt657.2.1 bt664.1 bt664.2 (bt638.2 != t672) bt626.1 bt626.2.1))))))) else (laws_FnThresholdTables.j0 k bt622.1 bt622.2 bt626.2.2 bt638.1 bt638.2 bt642.1 bt642.2 bt646.1 bt646.2 bt657.1 bt657.2.1 bt664.1 bt664.2 true bt626.1 bt626.2.1))))) else (laws_FnThresholdTables.j0 k bt622.1 bt622.2 bt626.2.2 bt638.1 bt638.2 bt642.1 bt642.2 bt646.1 bt646.2 bt657.1 bt657.2.1 bt664.1 bt664.2 true bt626.1 bt626.2.1)))) else (laws_FnThresholdTables.j0 k bt622.1 bt622.2 bt626.2.2 bt638.1 bt638.2 bt642.1 bt642.2 bt646.1 bt646.2 bt657.1 bt657.2.1 bt664.1 bt664.2 true bt626.1 bt626.2.1))))))))))))))))))) = some r := h
 clear h
 replace H := oB.mp H
 obtain ⟨t621, A20, H⟩ := H
 have A2 := aM A20
 clear A20
 by_cases c3 : t621 = true
 ·
  subst c3
  rw [if_pos rfl] at H
  obtain rfl := Option.some.inj H
  go_enter Try.func3, Try.ntmps3
  go_wp2_with (first | (refine yL 41 Try.func7 #[.slice A0 l0.length c0] ?_; (with_reducible refine (laws_vBig.calls _ _ l0 true _ (xC HR0.out) HC0.out A2.out).mono ?_); rintro e w' ⟨rfl, ⟨nd, rfl⟩⟩; refine ⟨_, rfl, ?_⟩))
  go_ret
  exact ⟨yF, xH HB.out⟩
 as_aux_lemma =>
  replace c3 := Bool.eq_false_iff.mpr c3
  subst c3
  rw [if_neg (show ¬ (false = true) by decide)] at H
  replace H := oB.mp H
  obtain ⟨⟨t622, t623⟩, A40, H⟩ := H
  (try dsimp only at H)
  have A4 := aM A40
  clear A40
  replace H := oB.mp H
  obtain ⟨⟨t626, t629, t630⟩, A50, H⟩ := H
  (try dsimp only at H)
  have A5 := aM A50
  clear A50
  replace H := oB.mp H
  obtain ⟨⟨t632, t635, t636⟩, A60, H⟩ := H
  (try dsimp only at H)
  have A6 := aM A60
  clear A60
  replace H := oB.mp H
  obtain ⟨⟨t638, t639⟩, A70, H⟩ := H
  (try dsimp only at H)
  have A7 := aM A70
  clear A70
  replace H := oB.mp H
  obtain ⟨⟨t640, t641⟩, A80, H⟩ := H
  (try dsimp only at H)
  have A8 := aM A80
  clear A80
  replace H := oB.mp H
  obtain ⟨⟨t642, t643⟩, A90, H⟩ := H
  (try dsimp only at H)
  have A9 := aM A90
  clear A90
  replace H := oB.mp H
  obtain ⟨⟨t644, t645⟩, A100, H⟩ := H
  (try dsimp only at H)
  have A10 := aM A100
  clear A100
  replace H := oB.mp H
  obtain ⟨⟨t646, t647⟩, A110, H⟩ := H
  (try dsimp only at H)
  have A11 := aM A110
  clear A110
  replace H := oB.mp H
  obtain ⟨⟨t650, t651⟩, A120, H⟩ := H
  (try dsimp only at H)
  have A12 := aM A120
  clear A120
  replace H := oB.mp H
  obtain ⟨t654, A130, H⟩ := H
  have A13 := aM A130
  clear A130
  replace H := oB.mp H
  obtain ⟨⟨t657, t658, t659⟩, A140, H⟩ := H
  (try dsimp only at H)
  have A14 := aM A140
  clear A140
  replace H := oB.mp H
  obtain ⟨⟨t664, t665⟩, A150, H⟩ := H
  (try dsimp only at H)
  have A15 := aM A150
  clear A150
  replace H := oB.mp H
  obtain ⟨⟨t666, t667⟩, A160, H⟩ := H
  (try dsimp only at H)
  have A16 := aM A160
  clear A160
  have HC17 := aM H
  clear H
  go_enter Try.func3, Try.ntmps3
  go_upto_region 15 with (first | (refine yL 41 Try.func7 #[.slice A0 l0.length c0] ?_; (with_reducible refine (laws_vBig.calls _ _ l0 false _ (xC HR0.out) HC0.out A2.out).mono ?_); rintro e w' ⟨rfl, ⟨nd, rfl⟩⟩; refine ⟨_, rfl, ?_⟩) | (refine yL 44 Try.func8 #[.slice A0 l0.length c0] ?_; (with_reducible refine (spec_DrawLeastPlane.calls k _ _ l0 t622 t623 _ (xC HR0.out) HC0.out A4.out).mono ?_); rintro e w18 ⟨v624, rfl, ho0, hb⟩; refine ⟨_, rfl, ?_⟩; have HO625 := aM (Kd.R_lower ho0 (below_size (xH HB.out))); replace HB := yS0 HB hb; (try clear hb; try clear ho0); obtain ⟨Ao19, co19, eo19⟩ := Kd.R_slice HO625.out; subst eo19) | (refine yL 50 Try.func9 #[.int .i64 t622, .slice Ao19 t623.length co19] ?_; (with_reducible refine (impl_LeastPlane.calls k t622 _ _ t623 t626 t629 t630 _ (xC (Kd.R_reads' HO625.out).2.2) ((Kd.R_reads' HO625.out).2.1) A5.out).mono ?_); rintro e w20 ⟨v627, rfl, ho0, hb⟩; refine ⟨_, rfl, ?_⟩; have HO628 := aM (Kd.R_lower (Kd.R_new' ho0 (Kd.R_lt (xR HO625.out))) (below_size (xH HB.out))); replace HO625 := aM (Kd.R_elder' (xR HO625.out) (Kd.R_base ho0) hb); replace HB := yS0 HB hb; (try clear hb; try clear ho0)) | (refine yB 5 #[.slice none 0 0, .int .i64 0] 28 ?_; intro gb631 hg w21 hbox hb; replace HO625 := aM (Kd.R_below (xR HO625.out) hb); replace HO628 := aM (Kd.R_below (xR HO628.out) hb); have BK631 := aM (hbox); have GW631 := yV0 hg HB; have GE631 := yV0 hg HB; replace HB := yS0 HB hb; clear hb hbox hg; obtain ⟨Ao22, co22, eo22⟩ := Kd.R_slice HO628.out; subst eo22; obtain ⟨hcz23_0, hcz23_1, hfz23_0, hfz23_1⟩ := yD2 BK631) | (refine yL 56 Try.func10 #[.int .i64 t622, .slice Ao19 t623.length co19] ?_; (with_reducible refine (spec_LeastPlane.calls k t622 _ _ t623 t632 t635 t636 _ ?side1 ?side2 A6.out).mono ?_); (case side1 => refine (Kd.R_reads' (e := 3) (base := w.heap.size) (ok := fun k_ => (True ∧ some k_ ≠ (.slice Ao22 t626.length co22 : Value).ownBlock)) (n := t623.length) (c := co19) ?_).2.2; exact (zR (rM (Kd.R_far (p := ⟨gb631, 1, none⟩) (Kd.R_far (p := ⟨gb631, 0, none⟩) (Kd.R_types HO625.out BK631.out (by decide)) (fun _ hk => hk.2) (.slice Ao22 t626.length co22)) (fun _ hk => hk.2) (.int .i64 t629)) (fun _ h_ => h_.1)))); (case side2 => exact (Kd.R_reads' HO625.out).2.1); rintro e w24 ⟨v633, rfl, ho0, hb⟩; refine ⟨_, rfl, ?_⟩; have HO634 := aM (Kd.V_lower (Kd.V_mono (ok' := fun k_ => some k_ ≠ (.slice Ao19 t623.length co19 : Value).ownBlock ∧ some k_ ≠ (.slice Ao22 t626.length co22 : Value).ownBlock ∧ k_ ≠ gb631) ho0 (fun k_ hk_ => ⟨(Kd.fresh' (Kd.R_lt (zR (rM (Kd.R_far (p := ⟨gb631, 1, none⟩) (Kd.R_far (p := ⟨gb631, 0, none⟩) (Kd.R_types HO625.out BK631.out (by decide)) (fun _ hk => hk.2) (.slice Ao22 t626.length co22)) (fun _ hk => hk.2) (.int .i64 t629)) (fun _ h_ => h_.1)))) k_ hk_), (Kd.fresh' (Kd.R_lt (zR (rM (Kd.R_far (p := ⟨gb631, 1, none⟩) (Kd.R_far (p := ⟨gb631, 0, none⟩) (Kd.R_types HO628.out BK631.out (by decide)) (fun _ hk => hk.2) (.slice Ao22 t626.length co22)) (fun _ hk => hk.2) (.int .i64 t629)) (fun _ h_ => h_.1)))) k_ hk_), (Kd.freshB (g := gb631) (o := .cells #[.slice Ao22 t626.length co22, .int .i64 t629] 28 (0, 0)) (by (with_reducible repeat (first | refine bN ?_ _ | refine bD ?_ | refine bA ?_ _)); refine blk_put (cs := #[.slice Ao22 t626.length co22, .int .i64 0]) ?_ 1 _ rfl; (with_reducible repeat (first | refine bN ?_ _ | refine bD ?_ | refine bA ?_ _)); refine blk_put (cs := #[.slice none 0 0, .int .i64 0]) ?_ 0 _ rfl; (with_reducible repeat (first | refine bN ?_ _ | refine bD ?_ | refine bA ?_ _)); exact BK631.out) k_ hk_)⟩)) (below_size (xG1 HB.out GE631.out))); replace HO625 := aM (Kd.R_below (zR (rM (Kd.R_far (p := ⟨gb631, 1, none⟩) (Kd.R_far (p := ⟨gb631, 0, none⟩) (Kd.R_types HO625.out BK631.out (by decide)) (fun _ hk => hk.2) (.slice Ao22 t626.length co22)) (fun _ hk => hk.2) (.int .i64 t629)) (fun _ h_ => h_.1))) hb); replace HO628 := aM (Kd.R_below (zR (rM (Kd.R_far (p := ⟨gb631, 1, none⟩) (Kd.R_far (p := ⟨gb631, 0, none⟩) (Kd.R_types HO628.out BK631.out (by decide)) (fun _ hk => hk.2) (.slice Ao22 t626.length co22)) (fun _ hk => hk.2) (.int .i64 t629)) (fun _ h_ => h_.1))) hb); replace BK631 := aM (bB (g := gb631) (o := .cells #[.slice Ao22 t626.length co22, .int .i64 t629] 28 (0, 0)) (by (with_reducible repeat (first | refine bN ?_ _ | refine bD ?_ | refine bA ?_ _)); refine blk_put (cs := #[.slice Ao22 t626.length co22, .int .i64 0]) ?_ 1 _ rfl; (with_reducible repeat (first | refine bN ?_ _ | refine bD ?_ | refine bA ?_ _)); refine blk_put (cs := #[.slice none 0 0, .int .i64 0]) ?_ 0 _ rfl; (with_reducible repeat (first | refine bN ?_ _ | refine bD ?_ | refine bA ?_ _)); exact BK631.out) hb); replace HB := yS1 HB GE631 hb; (try clear hb; try clear ho0)) | (refine yB 7 #[.slice none 0 0, .int .i64 0] 28 ?_; intro gb637 hg w25 hbox hb; replace HO625 := aM (Kd.R_below (xR HO625.out) hb); replace HO628 := aM (Kd.R_below (xR HO628.out) hb); replace HO634 := aM (Kd.V_below (Kd.V_elderB (xV HO634.out) gb637 (Nat.le_of_eq hg.symm)) hb); have BK637 := aM (hbox); have GW637 := yV1 hg HB GE631; have GE637 := yV1 hg HB GE631; replace HB := yS1 HB GE631 hb; have NB631_637 := yX hg BK631; have NB637_631 := yY NB631_637; replace BK631 := yK BK631 hb; clear hb hbox hg; obtain ⟨Ao26, co26, eo26⟩ := Kd.V_slice HO634.out; subst eo26; have hnb27 := NB637_631.out; have hnc27 := NB631_637.out; obtain ⟨hcz28_0, hcz28_1, hfz28_0, hfz28_1⟩ := yD2 BK637) | (refine yL 62 Try.func11 #[.int .i64 t622, .slice Ao19 t623.length co19] ?_; (with_reducible refine (impl_IsThreshold.calls k t622 _ _ t623 t638 t639 _ ?side1 ?side2 A7.out).mono ?_); (case side1 => refine (Kd.R_reads' (e := 3) (base := w.heap.size) (ok := fun k_ => (True ∧ some k_ ≠ (.slice Ao22 t626.length co22 : Value).ownBlock)) (n := t623.length) (c := co19) ?_).2.2; exact (zR (rM (Kd.R_far (p := ⟨gb637, 1, none⟩) (Kd.R_far (p := ⟨gb637, 0, none⟩) (Kd.R_types HO625.out BK637.out (by decide)) (fun _ hk => hk.2) (.slice Ao26 t632.length co26)) (fun _ hk => hk.2) (.int .i64 t635)) (fun _ h_ => h_.1)))); (case side2 => exact (Kd.R_reads' HO625.out).2.1); rintro e w29 ⟨rfl, hb⟩; refine ⟨_, rfl, ?_⟩; replace HO625 := aM (Kd.R_below (zR (rM (Kd.R_far (p := ⟨gb637, 1, none⟩) (Kd.R_far (p := ⟨gb637, 0, none⟩) (Kd.R_types HO625.out BK637.out (by decide)) (fun _ hk => hk.2) (.slice Ao26 t632.length co26)) (fun _ hk => hk.2) (.int .i64 t635)) (fun _ h_ => h_.1))) hb); replace HO628 := aM (Kd.R_below (zR (rM (Kd.R_far (p := ⟨gb637, 1, none⟩) (Kd.R_far (p := ⟨gb637, 0, none⟩) (Kd.R_types HO628.out BK637.out (by decide)) (fun _ hk => hk.2) (.slice Ao26 t632.length co26)) (fun _ hk => hk.2) (.int .i64 t635)) (fun _ h_ => h_.1))) hb); replace HO634 := aM (Kd.V_below (by (with_reducible repeat (first | apply Kd.V_alloc | apply Kd.V_drewN | apply Kd.V_drew)); exact (Kd.V_mono (Kd.V_far (p := ⟨gb637, 1, none⟩) (Kd.V_far (p := ⟨gb637, 0, none⟩) (Kd.V_mono HO634.out (fun k_ hk => (⟨hk, hk.2⟩ : _ ∧ k_ ≠ gb637))) (fun _ hk => hk.2) (.slice Ao26 t632.length co26)) (fun _ hk => hk.2) (.int .i64 t635)) (fun _ h_ => h_.1))) hb); replace BK631 := yK1 BK631 NB631_637 hb; replace BK637 := aM (bB (g := gb637) (o := .cells #[.slice Ao26 t632.length co26, .int .i64 t635] 28 (0, 0)) (by (with_reducible repeat (first | refine bN ?_ _ | refine bD ?_ | refine bA ?_ _)); refine blk_put (cs := #[.slice Ao26 t632.length co26, .int .i64 0]) ?_ 1 _ rfl; (with_reducible repeat (first | refine bN ?_ _ | refine bD ?_ | refine bA ?_ _)); refine blk_put (cs := #[.slice none 0 0, .int .i64 0]) ?_ 0 _ rfl; (with_reducible repeat (first | refine bN ?_ _ | refine bD ?_ | refine bA ?_ _)); exact BK637.out) hb); replace HB := yS2 HB GE631 GE637 hb; (try clear hb)) | (refine yL 68 Try.func12 #[.int .i64 t622, .slice Ao19 t623.length co19] ?_; (with_reducible refine (spec_IsThreshold.calls k t622 _ _ t623 t640 t641 _ (xC (Kd.R_reads' HO625.out).2.2) ((Kd.R_reads' HO625.out).2.1) A8.out).mono ?_); rintro e w30 ⟨rfl, hb⟩; refine ⟨_, rfl, ?_⟩; replace HO625 := aM (Kd.R_below (xR HO625.out) hb); replace HO628 := aM (Kd.R_below (xR HO628.out) hb); replace HO634 := aM (Kd.V_below (xV HO634.out) hb); replace BK631 := yK BK631 hb; replace BK637 := yK BK637 hb; replace HB := yS2 HB GE631 GE637 hb; (try clear hb)) | (refine yL 74 Try.func13 #[.int .i64 t622, .slice Ao19 t623.length co19] ?_; (with_reducible refine (impl_SizeOf.calls k t622 _ _ t623 t642 t643 _ (xC (Kd.R_reads' HO625.out).2.2) ((Kd.R_reads' HO625.out).2.1) A9.out).mono ?_); rintro e w31 ⟨rfl, hb⟩; refine ⟨_, rfl, ?_⟩; replace HO625 := aM (Kd.R_below (xR HO625.out) hb); replace HO628 := aM (Kd.R_below (xR HO628.out) hb); replace HO634 := aM (Kd.V_below (xV HO634.out) hb); replace BK631 := yK BK631 hb; replace BK637 := yK BK637 hb; replace HB := yS2 HB GE631 GE637 hb; (try clear hb)) | (refine yL 80 Try.func14 #[.int .i64 t622, .slice Ao19 t623.length co19] ?_; (with_reducible refine (spec_SizeOf.calls k t622 _ _ t623 t644 t645 _ (xC (Kd.R_reads' HO625.out).2.2) ((Kd.R_reads' HO625.out).2.1) A10.out).mono ?_); rintro e w32 ⟨rfl, hb⟩; refine ⟨_, rfl, ?_⟩; replace HO625 := aM (Kd.R_below (xR HO625.out) hb); replace HO628 := aM (Kd.R_below (xR HO628.out) hb); replace HO634 := aM (Kd.V_below (xV HO634.out) hb); replace BK631 := yK BK631 hb; replace BK637 := yK BK637 hb; replace HB := yS2 HB GE631 GE637 hb; (try clear hb)) | (refine yL 86 Try.func15 #[.int .i64 t622, .slice Ao19 t623.length co19] ?_; (with_reducible refine (impl_FindTrade.calls k t622 _ _ t623 t646 t647 _ (xC (Kd.R_reads' HO625.out).2.2) ((Kd.R_reads' HO625.out).2.1) A11.out).mono ?_); rintro e w33 ⟨v648, rfl, ho0, hb⟩; refine ⟨_, rfl, ?_⟩; replace HO634 := aM (Kd.V_elder' (xV HO634.out) (Kd.R_base ho0) hb); have HO649 := aM (Kd.R_lower (Kd.R_new' (Kd.R_new' ho0 (Kd.R_lt (xR HO625.out))) (Kd.R_lt (xR HO628.out))) (below_size (xG2 HB.out GE631.out GE637.out))); replace HO625 := aM (Kd.R_elder' (xR HO625.out) (Kd.R_base ho0) hb); replace HO628 := aM (Kd.R_elder' (xR HO628.out) (Kd.R_base ho0) hb); replace BK631 := yK BK631 hb; replace BK637 := yK BK637 hb; replace HB := yS2 HB GE631 GE637 hb; (try clear hb; try clear ho0)) | (refine yL 92 Try.func16 #[.int .i64 t622, .slice Ao19 t623.length co19] ?_; (with_reducible refine (spec_FindTrade.calls k t622 _ _ t623 t650 t651 _ (xC (Kd.R_reads' HO625.out).2.2) ((Kd.R_reads' HO625.out).2.1) A12.out).mono ?_); rintro e w34 ⟨v652, rfl, ho0, hb⟩; refine ⟨_, rfl, ?_⟩; replace HO634 := aM (Kd.V_elder' (xV HO634.out) (Kd.R_base ho0) hb); have HO653 := aM (Kd.R_lower (Kd.R_new' (Kd.R_new' (Kd.R_new' ho0 (Kd.R_lt (xR HO625.out))) (Kd.R_lt (xR HO628.out))) (Kd.R_lt (xR HO649.out))) (below_size (xG2 HB.out GE631.out GE637.out))); replace HO625 := aM (Kd.R_elder' (xR HO625.out) (Kd.R_base ho0) hb); replace HO628 := aM (Kd.R_elder' (xR HO628.out) (Kd.R_base ho0) hb); replace HO649 := aM (Kd.R_elder' (xR HO649.out) (Kd.R_base ho0) hb); replace BK631 := yK BK631 hb; replace BK637 := yK BK637 hb; replace HB := yS2 HB GE631 GE637 hb; (try clear hb; try clear ho0)) | (refine yL 97 Try.func18 #[.slice A0 l0.length c0, .int .i64 1] ?_; (with_reducible refine (laws_vCut.calls _ _ l0 1 t654 _ (xC (Kd.C_below HR0.out HB.out)) HC0.out A13.out).mono ?_); rintro e w35 ⟨v655, rfl, ho0, hb⟩; refine ⟨_, rfl, ?_⟩; replace HO625 := aM (Kd.R_below (xR HO625.out) hb); replace HO628 := aM (Kd.R_below (xR HO628.out) hb); replace HO634 := aM (Kd.V_elder' (xV HO634.out) (Kd.R_base ho0) hb); replace HO649 := aM (Kd.R_below (xR HO649.out) hb); replace HO653 := aM (Kd.R_below (xR HO653.out) hb); have HO656 := aM (Kd.R_lower ho0 (below_size (xG2 HB.out GE631.out GE637.out))); replace BK631 := yK BK631 hb; replace BK637 := yK BK637 hb; replace HB := yS2 HB GE631 GE637 hb; (try clear hb; try clear ho0); obtain ⟨Ao36, co36, eo36⟩ := Kd.R_slice HO656.out; subst eo36) | (refine yL 98 Try.func17 #[.slice Ao36 t654.length co36] ?_; (with_reducible refine (spec_DrawIsTrade.calls k _ _ t654 t657 t658 t659 _ (xC (Kd.R_reads' HO656.out).2.2) ((Kd.R_reads' HO656.out).2.1) A14.out).mono ?_); rintro e w37 ⟨v660, v662, rfl, ho0, ho1, hb⟩; refine ⟨_, rfl, ?_⟩; replace HO634 := aM (Kd.V_mono (Kd.V_told (Kd.V_told (Kd.V_old (xV HO634.out) hb) (Kd.R_base ho0)) (Kd.R_base ho1)) (fun _ h_ => h_.1)); replace HO656 := aM (Kd.R_below (xR HO656.out) hb); have HO661 := aM (Kd.R_lower (Kd.R_new' (Kd.R_new' (Kd.R_new' (Kd.R_new' ho0 (Kd.R_lt (xR HO625.out))) (Kd.R_lt (xR HO628.out))) (Kd.R_lt (xR HO649.out))) (Kd.R_lt (xR HO653.out))) (below_size (xG2 HB.out GE631.out GE637.out))); have HO663 := aM (Kd.R_lower (Kd.R_new' (Kd.R_new' (Kd.R_new' (Kd.R_new' ho1 (Kd.R_lt (xR HO625.out))) (Kd.R_lt (xR HO628.out))) (Kd.R_lt (xR HO649.out))) (Kd.R_lt (xR HO653.out))) (below_size (xG2 HB.out GE631.out GE637.out))); replace HO625 := aM (rM (Kd.R_told (Kd.R_told (Kd.R_old (xR HO625.out) hb) (Kd.R_base ho0)) (Kd.R_base ho1)) (fun _ h_ => h_.1)); replace HO628 := aM (rM (Kd.R_told (Kd.R_told (Kd.R_old (xR HO628.out) hb) (Kd.R_base ho0)) (Kd.R_base ho1)) (fun _ h_ => h_.1)); replace HO649 := aM (rM (Kd.R_told (Kd.R_told (Kd.R_old (xR HO649.out) hb) (Kd.R_base ho0)) (Kd.R_base ho1)) (fun _ h_ => h_.1)); replace HO653 := aM (rM (Kd.R_told (Kd.R_told (Kd.R_old (xR HO653.out) hb) (Kd.R_base ho0)) (Kd.R_base ho1)) (fun _ h_ => h_.1)); replace BK631 := yK BK631 hb; replace BK637 := yK BK637 hb; replace HB := yS2 HB GE631 GE637 hb; (try clear hb; try clear ho0; try clear ho1); obtain ⟨Ao38, co38, eo38⟩ := Kd.R_slice HO661.out; subst eo38; obtain ⟨Ao39, co39, eo39⟩ := Kd.R_slice HO663.out; subst eo39) | (refine yL 106 Try.func19 #[.int .i64 t657, .slice Ao38 t658.length co38, .slice Ao39 t659.length co39] ?_; (with_reducible refine (impl_IsTrade.calls k t657 _ _ t658 _ _ t659 t664 t665 _ (xC (Kd.R_reads' HO661.out).2.2) ((Kd.R_reads' HO661.out).2.1) (xC (Kd.R_reads' HO663.out).2.2) ((Kd.R_reads' HO663.out).2.1) A15.out).mono ?_); rintro e w40 ⟨rfl, hb⟩; refine ⟨_, rfl, ?_⟩; replace HO625 := aM (Kd.R_below (xR HO625.out) hb); replace HO628 := aM (Kd.R_below (xR HO628.out) hb); replace HO634 := aM (Kd.V_below (xV HO634.out) hb); replace HO649 := aM (Kd.R_below (xR HO649.out) hb); replace HO653 := aM (Kd.R_below (xR HO653.out) hb); replace HO656 := aM (Kd.R_below (xR HO656.out) hb); replace HO661 := aM (Kd.R_below (xR HO661.out) hb); replace HO663 := aM (Kd.R_below (xR HO663.out) hb); replace BK631 := yK BK631 hb; replace BK637 := yK BK637 hb; replace HB := yS2 HB GE631 GE637 hb; (try clear hb)) | (refine yL 113 Try.func20 #[.int .i64 t657, .slice Ao38 t658.length co38, .slice Ao39 t659.length co39] ?_; (with_reducible refine (spec_IsTrade.calls k t657 _ _ t658 _ _ t659 t666 t667 _ (xC (Kd.R_reads' HO661.out).2.2) ((Kd.R_reads' HO661.out).2.1) (xC (Kd.R_reads' HO663.out).2.2) ((Kd.R_reads' HO663.out).2.1) A16.out).mono ?_); rintro e w' ⟨rfl, ⟨nd, rfl⟩⟩; refine ⟨_, rfl, ?_⟩))
  (try simp only [Act.put, sA, sZ, sU])
  go_cut [181] (fun v181 wc => ∃ (kq : Nat) (x181_16 : Bool), v181 = .bool x181_16 ∧ Aside0 (laws_FnThresholdTables.j0 kq t622 t623 t630 t638 t639 t642 t643 t646 t647 t657 t658 t664 t665 x181_16 t626 t629 = some r) ∧ Aside0 (kq ≤ k) ∧ Aside0 (Kd.R (Kd.int .i64) 3 wc w.heap.size (fun k_ => some k_ ≠ (v648 : Value).ownBlock ∧ some k_ ≠ ((.slice Ao38 t658.length co38) : Value).ownBlock ∧ some k_ ≠ ((.slice Ao22 t626.length co22) : Value).ownBlock) (.slice Ao19 t623.length co19) t623) ∧ Aside0 (Kd.R (Kd.int .i64) 3 wc w.heap.size (fun k_ => some k_ ≠ ((.slice Ao19 t623.length co19) : Value).ownBlock ∧ some k_ ≠ ((.slice Ao38 t658.length co38) : Value).ownBlock ∧ some k_ ≠ ((.slice Ao22 t626.length co22) : Value).ownBlock) v648 t646) ∧ Aside0 (Kd.R (Kd.int .i64) 3 wc w.heap.size (fun k_ => some k_ ≠ ((.slice Ao19 t623.length co19) : Value).ownBlock ∧ some k_ ≠ (v648 : Value).ownBlock ∧ some k_ ≠ ((.slice Ao22 t626.length co22) : Value).ownBlock) (.slice Ao38 t658.length co38) t658) ∧ Aside0 (Kd.R (Kd.int .i64) 3 wc w.heap.size (fun k_ => some k_ ≠ ((.slice Ao19 t623.length co19) : Value).ownBlock ∧ some k_ ≠ (v648 : Value).ownBlock ∧ some k_ ≠ ((.slice Ao38 t658.length co38) : Value).ownBlock) (.slice Ao22 t626.length co22) t626) ∧ Aside0 (Kd.V (Kd.int .i64) 3 wc w.heap.size (fun k_ => some k_ ≠ ((.slice Ao19 t623.length co19) : Value).ownBlock ∧ some k_ ≠ (v648 : Value).ownBlock ∧ some k_ ≠ ((.slice Ao38 t658.length co38) : Value).ownBlock ∧ some k_ ≠ ((.slice Ao22 t626.length co22) : Value).ownBlock ∧ k_ ≠ gb631 ∧ k_ ≠ gb637) (.slice Ao26 t632.length co26) t632) ∧ Aside0 (wc.heap[gb631]? = some (.cells #[(.slice Ao22 t626.length co22), .int .i64 t629] 28 (0, 0))) ∧ Aside0 (wc.heap[gb637]? = some (.cells #[(.slice Ao26 t632.length co26), .int .i64 t635] 28 (0, 0))) ∧ Aside0 (Below w.heap.size w wc))
  case first =>
   as_aux_lemma =>
    have H := HC17.out
    clear HC17
    obtain ⟨c41, -, H⟩ | ⟨c41, -, H⟩ := yif H
    ·
     have c41b0 : (t630 != t636) = true := c41
     (try (have c41b1 : decide (t630 = t636) = false := by simpa using c41))
     (try (have c41b2 : (t630 == t636) = false := by simpa using c41))
     (try (have c41b3 : ¬ (t630 = t636) := by simpa using c41))
     clear c41
     (first | rw [c41b0] | (simp only [i64_w, i32_w]; rw [c41b0]) | rw [c41b1] | skip)
     have H' := aM H
     clear H
     go_wp2
     go_meet
     case rel => exact ⟨_, (true), yZ, H', ⟨yM⟩, ⟨zR (rM HO625.out (fun _ hk => ⟨hk.1.1.1.2, ⟨hk.1.2, hk.1.1.1.1.2⟩⟩))⟩, ⟨zR (rM HO649.out (fun _ hk => ⟨hk.1.1.1.1.2, ⟨hk.1.2, hk.1.1.1.2⟩⟩))⟩, ⟨zR (rM HO661.out (fun _ hk => ⟨hk.1.1.1.2, ⟨hk.1.2, hk.1.1.2⟩⟩))⟩, ⟨zR (rM HO628.out (fun _ hk => ⟨hk.1.1.1.1.2, ⟨hk.1.1.1.2, hk.1.2⟩⟩))⟩, ⟨by (with_reducible repeat (first | apply Kd.V_alloc | apply Kd.V_drewN | apply Kd.V_drew)); exact Kd.V_mono HO634.out (fun _ hk => ⟨hk.1.1.1.1.1.1.1, ⟨hk.1.1.1.1.2, ⟨hk.1.2, ⟨hk.1.1.1.1.1.1.2.1, ⟨hk.1.1.1.1.1.1.2.2, hk.1.1.1.1.1.2⟩⟩⟩⟩⟩)⟩, ⟨xB BK631.out⟩, ⟨xB BK637.out⟩, ⟨xG2 HB.out GE631.out GE637.out⟩⟩
    as_aux_lemma =>
     have c41b0 : (t630 != t636) = false := by simpa using c41
     (try (have c41b1 : decide (t630 = t636) = true := by simpa using c41))
     (try (have c41b2 : (t630 == t636) = true := by simpa using c41))
     clear c41
     (first | rw [c41b0] | (simp only [i64_w, i32_w]; rw [c41b0]) | rw [c41b1] | skip)
     replace H := oB.mp H
     obtain ⟨t668, A420, H⟩ := H
     have A42 := aM A420
     clear A420
     by_cases c43 : t668 = true
     rotate_left
     ·
      replace c43 := Bool.eq_false_iff.mpr c43
      subst c43
      rw [if_neg (show ¬ (false = true) by decide)] at H
      have H' := aM H
      clear H
      have hnb107 := NB631_637.out
      have hnc107 := NB637_631.out
      have hcz108_0 := yC0 BK631
      have hcz108_1 := yC1 BK631
      have hfz108_0 := bF BK631.out 0
      have hfz108_1 := bF BK631.out 1
      have hcz109_0 := yC0 BK637
      have hcz109_1 := yC1 BK637
      have hfz109_0 := bF BK637.out 0
      have hfz109_1 := bF BK637.out 1
      go_wp2_with (first | (go_at_call 21; (with_reducible refine (laws_vPlane.calls k _ _ t626 t629 _ _ t632 t635 false _ (xC (Kd.R_reads' HO628.out).2.2) ((Kd.R_reads' HO628.out).2.1) ?side3 ((Kd.V_reads' HO634.out).2.1) A42.out).mono ?_); (case side3 => repeat (first | exact (Kd.V_reads' HO634.out).2.2 | (with_reducible refine Kd.C_alloc ?_ _) | (with_reducible refine Kd.C_drewN ?_ _) | (with_reducible refine Kd.C_drew ?_))); rintro e w110 ⟨rfl, hb⟩; replace HO625 := aM (Kd.R_below (xR HO625.out) hb); replace HO628 := aM (Kd.R_below (xR HO628.out) hb); replace HO634 := aM (Kd.V_below (xV HO634.out) hb); replace HO649 := aM (Kd.R_below (xR HO649.out) hb); replace HO653 := aM (Kd.R_below (xR HO653.out) hb); replace HO656 := aM (Kd.R_below (xR HO656.out) hb); replace HO661 := aM (Kd.R_below (xR HO661.out) hb); replace HO663 := aM (Kd.R_below (xR HO663.out) hb); replace BK631 := yK BK631 hb; replace BK637 := yK BK637 hb; replace HB := yS2 HB GE631 GE637 hb; (try clear hb)))
      go_meet
      case rel => exact ⟨_, (true), yZ, H', ⟨yM⟩, ⟨zR (rM HO625.out (fun _ hk => ⟨hk.1.1.1.2, ⟨hk.1.2, hk.1.1.1.1.2⟩⟩))⟩, ⟨zR (rM HO649.out (fun _ hk => ⟨hk.1.1.1.1.2, ⟨hk.1.2, hk.1.1.1.2⟩⟩))⟩, ⟨zR (rM HO661.out (fun _ hk => ⟨hk.1.1.1.2, ⟨hk.1.2, hk.1.1.2⟩⟩))⟩, ⟨zR (rM HO628.out (fun _ hk => ⟨hk.1.1.1.1.2, ⟨hk.1.1.1.2, hk.1.2⟩⟩))⟩, ⟨by (with_reducible repeat (first | apply Kd.V_alloc | apply Kd.V_drewN | apply Kd.V_drew)); exact Kd.V_mono HO634.out (fun _ hk => ⟨hk.1.1.1.1.1.1.1, ⟨hk.1.1.1.1.2, ⟨hk.1.2, ⟨hk.1.1.1.1.1.1.2.1, ⟨hk.1.1.1.1.1.1.2.2, hk.1.1.1.1.1.2⟩⟩⟩⟩⟩)⟩, ⟨xB BK631.out⟩, ⟨xB BK637.out⟩, ⟨xG2 HB.out GE631.out GE637.out⟩⟩
     as_aux_lemma =>
      subst c43
      rw [if_pos rfl] at H
      obtain ⟨c44, -, H⟩ | ⟨c44, -, H⟩ := yif H
      ·
       have c44b0 : (t638 != t640) = true := c44
       (try (have c44b1 : decide (t638 = t640) = false := by simpa using c44))
       (try (have c44b2 : (t638 == t640) = false := by simpa using c44))
       (try (have c44b3 : ¬ (t638 = t640) := by simpa using c44))
       clear c44
       have H' := aM H
       clear H
       have hnb45 := NB631_637.out
       have hnc45 := NB637_631.out
       have hcz46_0 := yC0 BK631
       have hcz46_1 := yC1 BK631
       have hfz46_0 := bF BK631.out 0
       have hfz46_1 := bF BK631.out 1
       have hcz47_0 := yC0 BK637
       have hcz47_1 := yC1 BK637
       have hfz47_0 := bF BK637.out 0
       have hfz47_1 := bF BK637.out 1
       go_wp2_with (first | (go_at_call 21; (with_reducible refine (laws_vPlane.calls k _ _ t626 t629 _ _ t632 t635 true _ (xC (Kd.R_reads' HO628.out).2.2) ((Kd.R_reads' HO628.out).2.1) ?side3 ((Kd.V_reads' HO634.out).2.1) A42.out).mono ?_); (case side3 => repeat (first | exact (Kd.V_reads' HO634.out).2.2 | (with_reducible refine Kd.C_alloc ?_ _) | (with_reducible refine Kd.C_drewN ?_ _) | (with_reducible refine Kd.C_drew ?_))); rintro e w48 ⟨rfl, hb⟩; replace HO625 := aM (Kd.R_below (xR HO625.out) hb); replace HO628 := aM (Kd.R_below (xR HO628.out) hb); replace HO634 := aM (Kd.V_below (xV HO634.out) hb); replace HO649 := aM (Kd.R_below (xR HO649.out) hb); replace HO653 := aM (Kd.R_below (xR HO653.out) hb); replace HO656 := aM (Kd.R_below (xR HO656.out) hb); replace HO661 := aM (Kd.R_below (xR HO661.out) hb); replace HO663 := aM (Kd.R_below (xR HO663.out) hb); replace BK631 := yK BK631 hb; replace BK637 := yK BK637 hb; replace HB := yS2 HB GE631 GE637 hb; (try clear hb)))
       go_meet
       case rel => exact ⟨_, (true), yZ, H', ⟨yM⟩, ⟨zR (rM HO625.out (fun _ hk => ⟨hk.1.1.1.2, ⟨hk.1.2, hk.1.1.1.1.2⟩⟩))⟩, ⟨zR (rM HO649.out (fun _ hk => ⟨hk.1.1.1.1.2, ⟨hk.1.2, hk.1.1.1.2⟩⟩))⟩, ⟨zR (rM HO661.out (fun _ hk => ⟨hk.1.1.1.2, ⟨hk.1.2, hk.1.1.2⟩⟩))⟩, ⟨zR (rM HO628.out (fun _ hk => ⟨hk.1.1.1.1.2, ⟨hk.1.1.1.2, hk.1.2⟩⟩))⟩, ⟨by (with_reducible repeat (first | apply Kd.V_alloc | apply Kd.V_drewN | apply Kd.V_drew)); exact Kd.V_mono HO634.out (fun _ hk => ⟨hk.1.1.1.1.1.1.1, ⟨hk.1.1.1.1.2, ⟨hk.1.2, ⟨hk.1.1.1.1.1.1.2.1, ⟨hk.1.1.1.1.1.1.2.2, hk.1.1.1.1.1.2⟩⟩⟩⟩⟩)⟩, ⟨xB BK631.out⟩, ⟨xB BK637.out⟩, ⟨xG2 HB.out GE631.out GE637.out⟩⟩
      as_aux_lemma =>
       have c44b0 : (t638 != t640) = false := by simpa using c44
       (try (have c44b1 : decide (t638 = t640) = true := by simpa using c44))
       (try (have c44b2 : (t638 == t640) = true := by simpa using c44))
       clear c44
       obtain ⟨c49, -, H⟩ | ⟨c49, -, H⟩ := yif H
       ·
        have c49b0 : (t639 != t641) = true := c49
        (try (have c49b1 : decide (t639 = t641) = false := by simpa using c49))
        (try (have c49b2 : (t639 == t641) = false := by simpa using c49))
        (try (have c49b3 : ¬ (t639 = t641) := by simpa using c49))
        clear c49
        have H' := aM H
        clear H
        have hnb50 := NB631_637.out
        have hnc50 := NB637_631.out
        have hcz51_0 := yC0 BK631
        have hcz51_1 := yC1 BK631
        have hfz51_0 := bF BK631.out 0
        have hfz51_1 := bF BK631.out 1
        have hcz52_0 := yC0 BK637
        have hcz52_1 := yC1 BK637
        have hfz52_0 := bF BK637.out 0
        have hfz52_1 := bF BK637.out 1
        go_wp2_with (first | (go_at_call 21; (with_reducible refine (laws_vPlane.calls k _ _ t626 t629 _ _ t632 t635 true _ (xC (Kd.R_reads' HO628.out).2.2) ((Kd.R_reads' HO628.out).2.1) ?side3 ((Kd.V_reads' HO634.out).2.1) A42.out).mono ?_); (case side3 => repeat (first | exact (Kd.V_reads' HO634.out).2.2 | (with_reducible refine Kd.C_alloc ?_ _) | (with_reducible refine Kd.C_drewN ?_ _) | (with_reducible refine Kd.C_drew ?_))); rintro e w53 ⟨rfl, hb⟩; replace HO625 := aM (Kd.R_below (xR HO625.out) hb); replace HO628 := aM (Kd.R_below (xR HO628.out) hb); replace HO634 := aM (Kd.V_below (xV HO634.out) hb); replace HO649 := aM (Kd.R_below (xR HO649.out) hb); replace HO653 := aM (Kd.R_below (xR HO653.out) hb); replace HO656 := aM (Kd.R_below (xR HO656.out) hb); replace HO661 := aM (Kd.R_below (xR HO661.out) hb); replace HO663 := aM (Kd.R_below (xR HO663.out) hb); replace BK631 := yK BK631 hb; replace BK637 := yK BK637 hb; replace HB := yS2 HB GE631 GE637 hb; (try clear hb)))
        go_meet
        case rel => exact ⟨_, (true), yZ, H', ⟨yM⟩, ⟨zR (rM HO625.out (fun _ hk => ⟨hk.1.1.1.2, ⟨hk.1.2, hk.1.1.1.1.2⟩⟩))⟩, ⟨zR (rM HO649.out (fun _ hk => ⟨hk.1.1.1.1.2, ⟨hk.1.2, hk.1.1.1.2⟩⟩))⟩, ⟨zR (rM HO661.out (fun _ hk => ⟨hk.1.1.1.2, ⟨hk.1.2, hk.1.1.2⟩⟩))⟩, ⟨zR (rM HO628.out (fun _ hk => ⟨hk.1.1.1.1.2, ⟨hk.1.1.1.2, hk.1.2⟩⟩))⟩, ⟨by (with_reducible repeat (first | apply Kd.V_alloc | apply Kd.V_drewN | apply Kd.V_drew)); exact Kd.V_mono HO634.out (fun _ hk => ⟨hk.1.1.1.1.1.1.1, ⟨hk.1.1.1.1.2, ⟨hk.1.2, ⟨hk.1.1.1.1.1.1.2.1, ⟨hk.1.1.1.1.1.1.2.2, hk.1.1.1.1.1.2⟩⟩⟩⟩⟩)⟩, ⟨xB BK631.out⟩, ⟨xB BK637.out⟩, ⟨xG2 HB.out GE631.out GE637.out⟩⟩
       as_aux_lemma =>
        have c49b0 : (t639 != t641) = false := by simpa using c49
        (try (have c49b1 : decide (t639 = t641) = true := by simpa using c49))
        (try (have c49b2 : (t639 == t641) = true := by simpa using c49))
        clear c49
        obtain ⟨c54, -, H⟩ | ⟨c54, -, H⟩ := yif H
        rotate_left
        ·
         have c54b0 : (t642 == t644) = false := beq_eq_false_iff_ne.mpr c54
         have c54b1 : (t642 != t644) = true := bne_iff_ne.mpr c54
         have H' := aM H
         clear H
         have hnb103 := NB631_637.out
         have hnc103 := NB637_631.out
         have hcz104_0 := yC0 BK631
         have hcz104_1 := yC1 BK631
         have hfz104_0 := bF BK631.out 0
         have hfz104_1 := bF BK631.out 1
         have hcz105_0 := yC0 BK637
         have hcz105_1 := yC1 BK637
         have hfz105_0 := bF BK637.out 0
         have hfz105_1 := bF BK637.out 1
         go_wp2_with (first | (go_at_call 21; (with_reducible refine (laws_vPlane.calls k _ _ t626 t629 _ _ t632 t635 true _ (xC (Kd.R_reads' HO628.out).2.2) ((Kd.R_reads' HO628.out).2.1) ?side3 ((Kd.V_reads' HO634.out).2.1) A42.out).mono ?_); (case side3 => repeat (first | exact (Kd.V_reads' HO634.out).2.2 | (with_reducible refine Kd.C_alloc ?_ _) | (with_reducible refine Kd.C_drewN ?_ _) | (with_reducible refine Kd.C_drew ?_))); rintro e w106 ⟨rfl, hb⟩; replace HO625 := aM (Kd.R_below (xR HO625.out) hb); replace HO628 := aM (Kd.R_below (xR HO628.out) hb); replace HO634 := aM (Kd.V_below (xV HO634.out) hb); replace HO649 := aM (Kd.R_below (xR HO649.out) hb); replace HO653 := aM (Kd.R_below (xR HO653.out) hb); replace HO656 := aM (Kd.R_below (xR HO656.out) hb); replace HO661 := aM (Kd.R_below (xR HO661.out) hb); replace HO663 := aM (Kd.R_below (xR HO663.out) hb); replace BK631 := yK BK631 hb; replace BK637 := yK BK637 hb; replace HB := yS2 HB GE631 GE637 hb; (try clear hb)))
         go_meet
         case rel => exact ⟨_, (true), yZ, H', ⟨yM⟩, ⟨zR (rM HO625.out (fun _ hk => ⟨hk.1.1.1.2, ⟨hk.1.2, hk.1.1.1.1.2⟩⟩))⟩, ⟨zR (rM HO649.out (fun _ hk => ⟨hk.1.1.1.1.2, ⟨hk.1.2, hk.1.1.1.2⟩⟩))⟩, ⟨zR (rM HO661.out (fun _ hk => ⟨hk.1.1.1.2, ⟨hk.1.2, hk.1.1.2⟩⟩))⟩, ⟨zR (rM HO628.out (fun _ hk => ⟨hk.1.1.1.1.2, ⟨hk.1.1.1.2, hk.1.2⟩⟩))⟩, ⟨by (with_reducible repeat (first | apply Kd.V_alloc | apply Kd.V_drewN | apply Kd.V_drew)); exact Kd.V_mono HO634.out (fun _ hk => ⟨hk.1.1.1.1.1.1.1, ⟨hk.1.1.1.1.2, ⟨hk.1.2, ⟨hk.1.1.1.1.1.1.2.1, ⟨hk.1.1.1.1.1.1.2.2, hk.1.1.1.1.1.2⟩⟩⟩⟩⟩)⟩, ⟨xB BK631.out⟩, ⟨xB BK637.out⟩, ⟨xG2 HB.out GE631.out GE637.out⟩⟩
        as_aux_lemma =>
         have c54b0 : (t642 == t644) = true := beq_iff_eq.mpr c54
         have c54b1 : (t642 != t644) = false := bne_eq_false_iff_eq.mpr c54
         clear c54
         obtain ⟨c55, -, H⟩ | ⟨c55, -, H⟩ := yif H
         ·
          have c55b0 : (t643 != t645) = true := c55
          (try (have c55b1 : decide (t643 = t645) = false := by simpa using c55))
          (try (have c55b2 : (t643 == t645) = false := by simpa using c55))
          (try (have c55b3 : ¬ (t643 = t645) := by simpa using c55))
          clear c55
          have H' := aM H
          clear H
          have hnb56 := NB631_637.out
          have hnc56 := NB637_631.out
          have hcz57_0 := yC0 BK631
          have hcz57_1 := yC1 BK631
          have hfz57_0 := bF BK631.out 0
          have hfz57_1 := bF BK631.out 1
          have hcz58_0 := yC0 BK637
          have hcz58_1 := yC1 BK637
          have hfz58_0 := bF BK637.out 0
          have hfz58_1 := bF BK637.out 1
          go_wp2_with (first | (go_at_call 21; (with_reducible refine (laws_vPlane.calls k _ _ t626 t629 _ _ t632 t635 true _ (xC (Kd.R_reads' HO628.out).2.2) ((Kd.R_reads' HO628.out).2.1) ?side3 ((Kd.V_reads' HO634.out).2.1) A42.out).mono ?_); (case side3 => repeat (first | exact (Kd.V_reads' HO634.out).2.2 | (with_reducible refine Kd.C_alloc ?_ _) | (with_reducible refine Kd.C_drewN ?_ _) | (with_reducible refine Kd.C_drew ?_))); rintro e w59 ⟨rfl, hb⟩; replace HO625 := aM (Kd.R_below (xR HO625.out) hb); replace HO628 := aM (Kd.R_below (xR HO628.out) hb); replace HO634 := aM (Kd.V_below (xV HO634.out) hb); replace HO649 := aM (Kd.R_below (xR HO649.out) hb); replace HO653 := aM (Kd.R_below (xR HO653.out) hb); replace HO656 := aM (Kd.R_below (xR HO656.out) hb); replace HO661 := aM (Kd.R_below (xR HO661.out) hb); replace HO663 := aM (Kd.R_below (xR HO663.out) hb); replace BK631 := yK BK631 hb; replace BK637 := yK BK637 hb; replace HB := yS2 HB GE631 GE637 hb; (try clear hb)))
          go_meet
          case rel => exact ⟨_, (true), yZ, H', ⟨yM⟩, ⟨zR (rM HO625.out (fun _ hk => ⟨hk.1.1.1.2, ⟨hk.1.2, hk.1.1.1.1.2⟩⟩))⟩, ⟨zR (rM HO649.out (fun _ hk => ⟨hk.1.1.1.1.2, ⟨hk.1.2, hk.1.1.1.2⟩⟩))⟩, ⟨zR (rM HO661.out (fun _ hk => ⟨hk.1.1.1.2, ⟨hk.1.2, hk.1.1.2⟩⟩))⟩, ⟨zR (rM HO628.out (fun _ hk => ⟨hk.1.1.1.1.2, ⟨hk.1.1.1.2, hk.1.2⟩⟩))⟩, ⟨by (with_reducible repeat (first | apply Kd.V_alloc | apply Kd.V_drewN | apply Kd.V_drew)); exact Kd.V_mono HO634.out (fun _ hk => ⟨hk.1.1.1.1.1.1.1, ⟨hk.1.1.1.1.2, ⟨hk.1.2, ⟨hk.1.1.1.1.1.1.2.1, ⟨hk.1.1.1.1.1.1.2.2, hk.1.1.1.1.1.2⟩⟩⟩⟩⟩)⟩, ⟨xB BK631.out⟩, ⟨xB BK637.out⟩, ⟨xG2 HB.out GE631.out GE637.out⟩⟩
         as_aux_lemma =>
          have c55b0 : (t643 != t645) = false := by simpa using c55
          (try (have c55b1 : decide (t643 = t645) = true := by simpa using c55))
          (try (have c55b2 : (t643 == t645) = true := by simpa using c55))
          clear c55
          obtain ⟨c60, -, H⟩ | ⟨c60, -, H⟩ := yif H
          ·
           have c60b0 : (t647 != t651) = true := c60
           (try (have c60b1 : decide (t647 = t651) = false := by simpa using c60))
           (try (have c60b2 : (t647 == t651) = false := by simpa using c60))
           (try (have c60b3 : ¬ (t647 = t651) := by simpa using c60))
           clear c60
           have H' := aM H
           clear H
           have hnb61 := NB631_637.out
           have hnc61 := NB637_631.out
           have hcz62_0 := yC0 BK631
           have hcz62_1 := yC1 BK631
           have hfz62_0 := bF BK631.out 0
           have hfz62_1 := bF BK631.out 1
           have hcz63_0 := yC0 BK637
           have hcz63_1 := yC1 BK637
           have hfz63_0 := bF BK637.out 0
           have hfz63_1 := bF BK637.out 1
           go_wp2_with (first | (go_at_call 21; (with_reducible refine (laws_vPlane.calls k _ _ t626 t629 _ _ t632 t635 true _ (xC (Kd.R_reads' HO628.out).2.2) ((Kd.R_reads' HO628.out).2.1) ?side3 ((Kd.V_reads' HO634.out).2.1) A42.out).mono ?_); (case side3 => repeat (first | exact (Kd.V_reads' HO634.out).2.2 | (with_reducible refine Kd.C_alloc ?_ _) | (with_reducible refine Kd.C_drewN ?_ _) | (with_reducible refine Kd.C_drew ?_))); rintro e w64 ⟨rfl, hb⟩; replace HO625 := aM (Kd.R_below (xR HO625.out) hb); replace HO628 := aM (Kd.R_below (xR HO628.out) hb); replace HO634 := aM (Kd.V_below (xV HO634.out) hb); replace HO649 := aM (Kd.R_below (xR HO649.out) hb); replace HO653 := aM (Kd.R_below (xR HO653.out) hb); replace HO656 := aM (Kd.R_below (xR HO656.out) hb); replace HO661 := aM (Kd.R_below (xR HO661.out) hb); replace HO663 := aM (Kd.R_below (xR HO663.out) hb); replace BK631 := yK BK631 hb; replace BK637 := yK BK637 hb; replace HB := yS2 HB GE631 GE637 hb; (try clear hb)))
           go_meet
           case rel => exact ⟨_, (true), yZ, H', ⟨yM⟩, ⟨zR (rM HO625.out (fun _ hk => ⟨hk.1.1.1.2, ⟨hk.1.2, hk.1.1.1.1.2⟩⟩))⟩, ⟨zR (rM HO649.out (fun _ hk => ⟨hk.1.1.1.1.2, ⟨hk.1.2, hk.1.1.1.2⟩⟩))⟩, ⟨zR (rM HO661.out (fun _ hk => ⟨hk.1.1.1.2, ⟨hk.1.2, hk.1.1.2⟩⟩))⟩, ⟨zR (rM HO628.out (fun _ hk => ⟨hk.1.1.1.1.2, ⟨hk.1.1.1.2, hk.1.2⟩⟩))⟩, ⟨by (with_reducible repeat (first | apply Kd.V_alloc | apply Kd.V_drewN | apply Kd.V_drew)); exact Kd.V_mono HO634.out (fun _ hk => ⟨hk.1.1.1.1.1.1.1, ⟨hk.1.1.1.1.2, ⟨hk.1.2, ⟨hk.1.1.1.1.1.1.2.1, ⟨hk.1.1.1.1.1.1.2.2, hk.1.1.1.1.1.2⟩⟩⟩⟩⟩)⟩, ⟨xB BK631.out⟩, ⟨xB BK637.out⟩, ⟨xG2 HB.out GE631.out GE637.out⟩⟩
          as_aux_lemma =>
           have c60b0 : (t647 != t651) = false := by simpa using c60
           (try (have c60b1 : decide (t647 = t651) = true := by simpa using c60))
           (try (have c60b2 : (t647 == t651) = true := by simpa using c60))
           clear c60
           replace H := oB.mp H
           obtain ⟨t669, A650, H⟩ := H
           have A65 := aM A650
           clear A650
           by_cases c66 : t669 = true
           rotate_left
           ·
            replace c66 := Bool.eq_false_iff.mpr c66
            subst c66
            rw [if_neg (show ¬ (false = true) by decide)] at H
            have H' := aM H
            clear H
            have hnb97 := NB631_637.out
            have hnc97 := NB637_631.out
            have hcz98_0 := yC0 BK631
            have hcz98_1 := yC1 BK631
            have hfz98_0 := bF BK631.out 0
            have hfz98_1 := bF BK631.out 1
            have hcz99_0 := yC0 BK637
            have hcz99_1 := yC1 BK637
            have hfz99_0 := bF BK637.out 0
            have hfz99_1 := bF BK637.out 1
            go_wp2_with (first | (go_at_call 21; (with_reducible refine (laws_vPlane.calls k _ _ t626 t629 _ _ t632 t635 true _ (xC (Kd.R_reads' HO628.out).2.2) ((Kd.R_reads' HO628.out).2.1) ?side3 ((Kd.V_reads' HO634.out).2.1) A42.out).mono ?_); (case side3 => repeat (first | exact (Kd.V_reads' HO634.out).2.2 | (with_reducible refine Kd.C_alloc ?_ _) | (with_reducible refine Kd.C_drewN ?_ _) | (with_reducible refine Kd.C_drew ?_))); rintro e w100 ⟨rfl, hb⟩; replace HO625 := aM (Kd.R_below (xR HO625.out) hb); replace HO628 := aM (Kd.R_below (xR HO628.out) hb); replace HO634 := aM (Kd.V_below (xV HO634.out) hb); replace HO649 := aM (Kd.R_below (xR HO649.out) hb); replace HO653 := aM (Kd.R_below (xR HO653.out) hb); replace HO656 := aM (Kd.R_below (xR HO656.out) hb); replace HO661 := aM (Kd.R_below (xR HO661.out) hb); replace HO663 := aM (Kd.R_below (xR HO663.out) hb); replace BK631 := yK BK631 hb; replace BK637 := yK BK637 hb; replace HB := yS2 HB GE631 GE637 hb; (try clear hb); obtain ⟨Ao101, co101, eo101⟩ := Kd.R_slice HO649.out; subst eo101; obtain ⟨Ao102, co102, eo102⟩ := Kd.R_slice HO653.out; subst eo102) | (go_at_call 22; (with_reducible refine (laws_vInts.calls k _ _ t646 _ _ t650 false _ (xC (Kd.R_reads' HO649.out).2.2) ((Kd.R_reads' HO649.out).2.1) (xC (Kd.R_reads' HO653.out).2.2) ((Kd.R_reads' HO653.out).2.1) A65.out).mono ?_); rintro e w' ⟨rfl, ⟨nd, rfl⟩⟩))
            go_meet
            case rel => exact ⟨_, (true), yZ, H', ⟨yM⟩, ⟨zR (rM HO625.out (fun _ hk => ⟨hk.1.1.1.2, ⟨hk.1.2, hk.1.1.1.1.2⟩⟩))⟩, ⟨zR (rM HO649.out (fun _ hk => ⟨hk.1.1.1.1.2, ⟨hk.1.2, hk.1.1.1.2⟩⟩))⟩, ⟨zR (rM HO661.out (fun _ hk => ⟨hk.1.1.1.2, ⟨hk.1.2, hk.1.1.2⟩⟩))⟩, ⟨zR (rM HO628.out (fun _ hk => ⟨hk.1.1.1.1.2, ⟨hk.1.1.1.2, hk.1.2⟩⟩))⟩, ⟨by (with_reducible repeat (first | apply Kd.V_alloc | apply Kd.V_drewN | apply Kd.V_drew)); exact Kd.V_mono HO634.out (fun _ hk => ⟨hk.1.1.1.1.1.1.1, ⟨hk.1.1.1.1.2, ⟨hk.1.2, ⟨hk.1.1.1.1.1.1.2.1, ⟨hk.1.1.1.1.1.1.2.2, hk.1.1.1.1.1.2⟩⟩⟩⟩⟩)⟩, ⟨xB BK631.out⟩, ⟨xB BK637.out⟩, ⟨xG2 HB.out GE631.out GE637.out⟩⟩
           as_aux_lemma =>
            subst c66
            rw [if_pos rfl] at H
            obtain ⟨c67, -, H⟩ | ⟨c67, -, H⟩ := yif H
            ·
             have c67b0 : (t664 != t666) = true := c67
             (try (have c67b1 : decide (t664 = t666) = false := by simpa using c67))
             (try (have c67b2 : (t664 == t666) = false := by simpa using c67))
             (try (have c67b3 : ¬ (t664 = t666) := by simpa using c67))
             clear c67
             have H' := aM H
             clear H
             have hnb68 := NB631_637.out
             have hnc68 := NB637_631.out
             have hcz69_0 := yC0 BK631
             have hcz69_1 := yC1 BK631
             have hfz69_0 := bF BK631.out 0
             have hfz69_1 := bF BK631.out 1
             have hcz70_0 := yC0 BK637
             have hcz70_1 := yC1 BK637
             have hfz70_0 := bF BK637.out 0
             have hfz70_1 := bF BK637.out 1
             go_wp2_with (first | (go_at_call 21; (with_reducible refine (laws_vPlane.calls k _ _ t626 t629 _ _ t632 t635 true _ (xC (Kd.R_reads' HO628.out).2.2) ((Kd.R_reads' HO628.out).2.1) ?side3 ((Kd.V_reads' HO634.out).2.1) A42.out).mono ?_); (case side3 => repeat (first | exact (Kd.V_reads' HO634.out).2.2 | (with_reducible refine Kd.C_alloc ?_ _) | (with_reducible refine Kd.C_drewN ?_ _) | (with_reducible refine Kd.C_drew ?_))); rintro e w71 ⟨rfl, hb⟩; replace HO625 := aM (Kd.R_below (xR HO625.out) hb); replace HO628 := aM (Kd.R_below (xR HO628.out) hb); replace HO634 := aM (Kd.V_below (xV HO634.out) hb); replace HO649 := aM (Kd.R_below (xR HO649.out) hb); replace HO653 := aM (Kd.R_below (xR HO653.out) hb); replace HO656 := aM (Kd.R_below (xR HO656.out) hb); replace HO661 := aM (Kd.R_below (xR HO661.out) hb); replace HO663 := aM (Kd.R_below (xR HO663.out) hb); replace BK631 := yK BK631 hb; replace BK637 := yK BK637 hb; replace HB := yS2 HB GE631 GE637 hb; (try clear hb); obtain ⟨Ao72, co72, eo72⟩ := Kd.R_slice HO649.out; subst eo72; obtain ⟨Ao73, co73, eo73⟩ := Kd.R_slice HO653.out; subst eo73) | (go_at_call 22; (with_reducible refine (laws_vInts.calls k _ _ t646 _ _ t650 true _ (xC (Kd.R_reads' HO649.out).2.2) ((Kd.R_reads' HO649.out).2.1) (xC (Kd.R_reads' HO653.out).2.2) ((Kd.R_reads' HO653.out).2.1) A65.out).mono ?_); rintro e w' ⟨rfl, ⟨nd, rfl⟩⟩))
             go_meet
             case rel => exact ⟨_, (true), yZ, H', ⟨yM⟩, ⟨zR (rM HO625.out (fun _ hk => ⟨hk.1.1.1.2, ⟨hk.1.2, hk.1.1.1.1.2⟩⟩))⟩, ⟨zR (rM HO649.out (fun _ hk => ⟨hk.1.1.1.1.2, ⟨hk.1.2, hk.1.1.1.2⟩⟩))⟩, ⟨zR (rM HO661.out (fun _ hk => ⟨hk.1.1.1.2, ⟨hk.1.2, hk.1.1.2⟩⟩))⟩, ⟨zR (rM HO628.out (fun _ hk => ⟨hk.1.1.1.1.2, ⟨hk.1.1.1.2, hk.1.2⟩⟩))⟩, ⟨by (with_reducible repeat (first | apply Kd.V_alloc | apply Kd.V_drewN | apply Kd.V_drew)); exact Kd.V_mono HO634.out (fun _ hk => ⟨hk.1.1.1.1.1.1.1, ⟨hk.1.1.1.1.2, ⟨hk.1.2, ⟨hk.1.1.1.1.1.1.2.1, ⟨hk.1.1.1.1.1.1.2.2, hk.1.1.1.1.1.2⟩⟩⟩⟩⟩)⟩, ⟨xB BK631.out⟩, ⟨xB BK637.out⟩, ⟨xG2 HB.out GE631.out GE637.out⟩⟩
            have c67b0 : (t664 != t666) = false := by simpa using c67
            (try (have c67b1 : decide (t664 = t666) = true := by simpa using c67))
            (try (have c67b2 : (t664 == t666) = true := by simpa using c67))
            clear c67
            obtain ⟨c74, -, H⟩ | ⟨c74, -, H⟩ := yif H
            ·
             have c74b0 : (t665 != t667) = true := c74
             (try (have c74b1 : decide (t665 = t667) = false := by simpa using c74))
             (try (have c74b2 : (t665 == t667) = false := by simpa using c74))
             (try (have c74b3 : ¬ (t665 = t667) := by simpa using c74))
             clear c74
             have H' := aM H
             clear H
             have hnb75 := NB631_637.out
             have hnc75 := NB637_631.out
             have hcz76_0 := yC0 BK631
             have hcz76_1 := yC1 BK631
             have hfz76_0 := bF BK631.out 0
             have hfz76_1 := bF BK631.out 1
             have hcz77_0 := yC0 BK637
             have hcz77_1 := yC1 BK637
             have hfz77_0 := bF BK637.out 0
             have hfz77_1 := bF BK637.out 1
             go_wp2_with (first | (go_at_call 21; (with_reducible refine (laws_vPlane.calls k _ _ t626 t629 _ _ t632 t635 true _ (xC (Kd.R_reads' HO628.out).2.2) ((Kd.R_reads' HO628.out).2.1) ?side3 ((Kd.V_reads' HO634.out).2.1) A42.out).mono ?_); (case side3 => repeat (first | exact (Kd.V_reads' HO634.out).2.2 | (with_reducible refine Kd.C_alloc ?_ _) | (with_reducible refine Kd.C_drewN ?_ _) | (with_reducible refine Kd.C_drew ?_))); rintro e w78 ⟨rfl, hb⟩; replace HO625 := aM (Kd.R_below (xR HO625.out) hb); replace HO628 := aM (Kd.R_below (xR HO628.out) hb); replace HO634 := aM (Kd.V_below (xV HO634.out) hb); replace HO649 := aM (Kd.R_below (xR HO649.out) hb); replace HO653 := aM (Kd.R_below (xR HO653.out) hb); replace HO656 := aM (Kd.R_below (xR HO656.out) hb); replace HO661 := aM (Kd.R_below (xR HO661.out) hb); replace HO663 := aM (Kd.R_below (xR HO663.out) hb); replace BK631 := yK BK631 hb; replace BK637 := yK BK637 hb; replace HB := yS2 HB GE631 GE637 hb; (try clear hb); obtain ⟨Ao79, co79, eo79⟩ := Kd.R_slice HO649.out; subst eo79; obtain ⟨Ao80, co80, eo80⟩ := Kd.R_slice HO653.out; subst eo80) | (go_at_call 22; (with_reducible refine (laws_vInts.calls k _ _ t646 _ _ t650 true _ (xC (Kd.R_reads' HO649.out).2.2) ((Kd.R_reads' HO649.out).2.1) (xC (Kd.R_reads' HO653.out).2.2) ((Kd.R_reads' HO653.out).2.1) A65.out).mono ?_); rintro e w' ⟨rfl, ⟨nd, rfl⟩⟩))
             go_meet
             case rel => exact ⟨_, (true), yZ, H', ⟨yM⟩, ⟨zR (rM HO625.out (fun _ hk => ⟨hk.1.1.1.2, ⟨hk.1.2, hk.1.1.1.1.2⟩⟩))⟩, ⟨zR (rM HO649.out (fun _ hk => ⟨hk.1.1.1.1.2, ⟨hk.1.2, hk.1.1.1.2⟩⟩))⟩, ⟨zR (rM HO661.out (fun _ hk => ⟨hk.1.1.1.2, ⟨hk.1.2, hk.1.1.2⟩⟩))⟩, ⟨zR (rM HO628.out (fun _ hk => ⟨hk.1.1.1.1.2, ⟨hk.1.1.1.2, hk.1.2⟩⟩))⟩, ⟨by (with_reducible repeat (first | apply Kd.V_alloc | apply Kd.V_drewN | apply Kd.V_drew)); exact Kd.V_mono HO634.out (fun _ hk => ⟨hk.1.1.1.1.1.1.1, ⟨hk.1.1.1.1.2, ⟨hk.1.2, ⟨hk.1.1.1.1.1.1.2.1, ⟨hk.1.1.1.1.1.1.2.2, hk.1.1.1.1.1.2⟩⟩⟩⟩⟩)⟩, ⟨xB BK631.out⟩, ⟨xB BK637.out⟩, ⟨xG2 HB.out GE631.out GE637.out⟩⟩
            have c74b0 : (t665 != t667) = false := by simpa using c74
            (try (have c74b1 : decide (t665 = t667) = true := by simpa using c74))
            (try (have c74b2 : (t665 == t667) = true := by simpa using c74))
            clear c74
            replace H := oB.mp H
            obtain ⟨t670, A810, H⟩ := H
            have A81 := aM A810
            clear A810
            replace H := oB.mp H
            obtain ⟨t671, A820, H⟩ := H
            have A82 := aM A820
            clear A820
            obtain ⟨c83, -, H⟩ | ⟨c83, -, H⟩ := yif H
            ·
             have c83b0 : (t670 != t671) = true := c83
             (try (have c83b1 : decide (t670 = t671) = false := by simpa using c83))
             (try (have c83b2 : (t670 == t671) = false := by simpa using c83))
             (try (have c83b3 : ¬ (t670 = t671) := by simpa using c83))
             clear c83
             have H' := aM H
             clear H
             have hnb84 := NB631_637.out
             have hnc84 := NB637_631.out
             have hcz85_0 := yC0 BK631
             have hcz85_1 := yC1 BK631
             have hfz85_0 := bF BK631.out 0
             have hfz85_1 := bF BK631.out 1
             have hcz86_0 := yC0 BK637
             have hcz86_1 := yC1 BK637
             have hfz86_0 := bF BK637.out 0
             have hfz86_1 := bF BK637.out 1
             go_wp2_with (first | (go_at_call 21; (with_reducible refine (laws_vPlane.calls k _ _ t626 t629 _ _ t632 t635 true _ (xC (Kd.R_reads' HO628.out).2.2) ((Kd.R_reads' HO628.out).2.1) ?side3 ((Kd.V_reads' HO634.out).2.1) A42.out).mono ?_); (case side3 => repeat (first | exact (Kd.V_reads' HO634.out).2.2 | (with_reducible refine Kd.C_alloc ?_ _) | (with_reducible refine Kd.C_drewN ?_ _) | (with_reducible refine Kd.C_drew ?_))); rintro e w87 ⟨rfl, hb⟩; replace HO625 := aM (Kd.R_below (xR HO625.out) hb); replace HO628 := aM (Kd.R_below (xR HO628.out) hb); replace HO634 := aM (Kd.V_below (xV HO634.out) hb); replace HO649 := aM (Kd.R_below (xR HO649.out) hb); replace HO653 := aM (Kd.R_below (xR HO653.out) hb); replace HO656 := aM (Kd.R_below (xR HO656.out) hb); replace HO661 := aM (Kd.R_below (xR HO661.out) hb); replace HO663 := aM (Kd.R_below (xR HO663.out) hb); replace BK631 := yK BK631 hb; replace BK637 := yK BK637 hb; replace HB := yS2 HB GE631 GE637 hb; (try clear hb); obtain ⟨Ao88, co88, eo88⟩ := Kd.R_slice HO649.out; subst eo88; obtain ⟨Ao89, co89, eo89⟩ := Kd.R_slice HO653.out; subst eo89) | (go_at_call 22; (with_reducible refine (laws_vInts.calls k _ _ t646 _ _ t650 true _ (xC (Kd.R_reads' HO649.out).2.2) ((Kd.R_reads' HO649.out).2.1) (xC (Kd.R_reads' HO653.out).2.2) ((Kd.R_reads' HO653.out).2.1) A65.out).mono ?_); rintro e w' ⟨rfl, ⟨nd, rfl⟩⟩) | (go_at_call 23; (with_reducible refine (impl_IsTable.calls k t622 _ _ t623 t670 _ (xC (Kd.R_reads' HO625.out).2.2) ((Kd.R_reads' HO625.out).2.1) A81.out).mono ?_); rintro e w' ⟨rfl, ⟨nd, rfl⟩⟩) | (go_at_call 24; (with_reducible refine (spec_IsTable.calls k t622 _ _ t623 t671 _ (xC (Kd.R_reads' HO625.out).2.2) ((Kd.R_reads' HO625.out).2.1) A82.out).mono ?_); rintro e w' ⟨rfl, ⟨nd, rfl⟩⟩))
             go_meet
             case rel => exact ⟨_, (true), yZ, H', ⟨yM⟩, ⟨zR (rM HO625.out (fun _ hk => ⟨hk.1.1.1.2, ⟨hk.1.2, hk.1.1.1.1.2⟩⟩))⟩, ⟨zR (rM HO649.out (fun _ hk => ⟨hk.1.1.1.1.2, ⟨hk.1.2, hk.1.1.1.2⟩⟩))⟩, ⟨zR (rM HO661.out (fun _ hk => ⟨hk.1.1.1.2, ⟨hk.1.2, hk.1.1.2⟩⟩))⟩, ⟨zR (rM HO628.out (fun _ hk => ⟨hk.1.1.1.1.2, ⟨hk.1.1.1.2, hk.1.2⟩⟩))⟩, ⟨by (with_reducible repeat (first | apply Kd.V_alloc | apply Kd.V_drewN | apply Kd.V_drew)); exact Kd.V_mono HO634.out (fun _ hk => ⟨hk.1.1.1.1.1.1.1, ⟨hk.1.1.1.1.2, ⟨hk.1.2, ⟨hk.1.1.1.1.1.1.2.1, ⟨hk.1.1.1.1.1.1.2.2, hk.1.1.1.1.1.2⟩⟩⟩⟩⟩)⟩, ⟨xB BK631.out⟩, ⟨xB BK637.out⟩, ⟨xG2 HB.out GE631.out GE637.out⟩⟩
            have c83b0 : (t670 != t671) = false := by simpa using c83
            (try (have c83b1 : decide (t670 = t671) = true := by simpa using c83))
            (try (have c83b2 : (t670 == t671) = true := by simpa using c83))
            clear c83
            replace H := oB.mp H
            obtain ⟨t672, A900, H⟩ := H
            have A90 := aM A900
            have Et672_ : t672 = t670 := Option.some.inj (A90.out.symm.trans A81.out)
            clear A900
            have H' := aM H
            clear H
            have hnb91 := NB631_637.out
            have hnc91 := NB637_631.out
            have hcz92_0 := yC0 BK631
            have hcz92_1 := yC1 BK631
            have hfz92_0 := bF BK631.out 0
            have hfz92_1 := bF BK631.out 1
            have hcz93_0 := yC0 BK637
            have hcz93_1 := yC1 BK637
            have hfz93_0 := bF BK637.out 0
            have hfz93_1 := bF BK637.out 1
            go_wp2_with (first | (go_at_call 21; (with_reducible refine (laws_vPlane.calls k _ _ t626 t629 _ _ t632 t635 true _ (xC (Kd.R_reads' HO628.out).2.2) ((Kd.R_reads' HO628.out).2.1) ?side3 ((Kd.V_reads' HO634.out).2.1) A42.out).mono ?_); (case side3 => repeat (first | exact (Kd.V_reads' HO634.out).2.2 | (with_reducible refine Kd.C_alloc ?_ _) | (with_reducible refine Kd.C_drewN ?_ _) | (with_reducible refine Kd.C_drew ?_))); rintro e w94 ⟨rfl, hb⟩; replace HO625 := aM (Kd.R_below (xR HO625.out) hb); replace HO628 := aM (Kd.R_below (xR HO628.out) hb); replace HO634 := aM (Kd.V_below (xV HO634.out) hb); replace HO649 := aM (Kd.R_below (xR HO649.out) hb); replace HO653 := aM (Kd.R_below (xR HO653.out) hb); replace HO656 := aM (Kd.R_below (xR HO656.out) hb); replace HO661 := aM (Kd.R_below (xR HO661.out) hb); replace HO663 := aM (Kd.R_below (xR HO663.out) hb); replace BK631 := yK BK631 hb; replace BK637 := yK BK637 hb; replace HB := yS2 HB GE631 GE637 hb; (try clear hb); obtain ⟨Ao95, co95, eo95⟩ := Kd.R_slice HO649.out; subst eo95; obtain ⟨Ao96, co96, eo96⟩ := Kd.R_slice HO653.out; subst eo96) | (go_at_call 22; (with_reducible refine (laws_vInts.calls k _ _ t646 _ _ t650 true _ (xC (Kd.R_reads' HO649.out).2.2) ((Kd.R_reads' HO649.out).2.1) (xC (Kd.R_reads' HO653.out).2.2) ((Kd.R_reads' HO653.out).2.1) A65.out).mono ?_); rintro e w' ⟨rfl, ⟨nd, rfl⟩⟩) | (go_at_call 23; (with_reducible refine (impl_IsTable.calls k t622 _ _ t623 t670 _ (xC (Kd.R_reads' HO625.out).2.2) ((Kd.R_reads' HO625.out).2.1) A81.out).mono ?_); rintro e w' ⟨rfl, ⟨nd, rfl⟩⟩) | (go_at_call 24; (with_reducible refine (spec_IsTable.calls k t622 _ _ t623 t671 _ (xC (Kd.R_reads' HO625.out).2.2) ((Kd.R_reads' HO625.out).2.1) A82.out).mono ?_); rintro e w' ⟨rfl, ⟨nd, rfl⟩⟩) | (go_at_call 23; (with_reducible refine (impl_IsTable.calls k t622 _ _ t623 t672 _ (xC (Kd.R_reads' HO625.out).2.2) ((Kd.R_reads' HO625.out).2.1) A90.out).mono ?_); rintro e w' ⟨rfl, ⟨nd, rfl⟩⟩))
            go_meet
            case rel => exact ⟨_, ((t639 != t672)), (by rw [Et672_]; simp; first | exact ybb _ _ | (cases t639 <;> cases t670 <;> rfl)), H', ⟨yM⟩, ⟨zR (rM HO625.out (fun _ hk => ⟨hk.1.1.1.2, ⟨hk.1.2, hk.1.1.1.1.2⟩⟩))⟩, ⟨zR (rM HO649.out (fun _ hk => ⟨hk.1.1.1.1.2, ⟨hk.1.2, hk.1.1.1.2⟩⟩))⟩, ⟨zR (rM HO661.out (fun _ hk => ⟨hk.1.1.1.2, ⟨hk.1.2, hk.1.1.2⟩⟩))⟩, ⟨zR (rM HO628.out (fun _ hk => ⟨hk.1.1.1.1.2, ⟨hk.1.1.1.2, hk.1.2⟩⟩))⟩, ⟨by (with_reducible repeat (first | apply Kd.V_alloc | apply Kd.V_drewN | apply Kd.V_drew)); exact Kd.V_mono HO634.out (fun _ hk => ⟨hk.1.1.1.1.1.1.1, ⟨hk.1.1.1.1.2, ⟨hk.1.2, ⟨hk.1.1.1.1.1.1.2.1, ⟨hk.1.1.1.1.1.1.2.2, hk.1.1.1.1.1.2⟩⟩⟩⟩⟩)⟩, ⟨xB BK631.out⟩, ⟨xB BK637.out⟩, ⟨xG2 HB.out GE631.out GE637.out⟩⟩
  case rest =>
   as_aux_lemma =>
    clear HC17
    try clear c3; try clear c41; try clear c41b0; try clear c41b1; try clear c41b2; try clear c43; try clear c44; try clear c44b0; try clear c44b1; try clear c44b2; try clear c49; try clear c49b0; try clear c49b1; try clear c49b2; try clear c54; try clear c54b0; try clear c54b1; try clear c55; try clear c55b0; try clear c55b1; try clear c55b2; try clear c60; try clear c60b0; try clear c60b1; try clear c60b2; try clear c66; try clear c67; try clear c67b0; try clear c67b1; try clear c67b2; try clear c74; try clear c74b0; try clear c74b1; try clear c74b2; try clear c83; try clear c83b0; try clear c83b1; try clear c83b2; try clear hcz104_0; try clear hcz104_1; try clear hcz105_0; try clear hcz105_1; try clear hcz108_0; try clear hcz108_1; try clear hcz109_0; try clear hcz109_1; try clear hcz23_0; try clear hcz23_1; try clear hcz28_0; try clear hcz28_1; try clear hcz46_0; try clear hcz46_1; try clear hcz47_0; try clear hcz47_1; try clear hcz51_0; try clear hcz51_1; try clear hcz52_0; try clear hcz52_1; try clear hcz57_0; try clear hcz57_1; try clear hcz58_0; try clear hcz58_1; try clear hcz62_0; try clear hcz62_1; try clear hcz63_0; try clear hcz63_1; try clear hcz69_0; try clear hcz69_1; try clear hcz70_0; try clear hcz70_1; try clear hcz76_0; try clear hcz76_1; try clear hcz77_0; try clear hcz77_1; try clear hcz85_0; try clear hcz85_1; try clear hcz86_0; try clear hcz86_1; try clear hcz92_0; try clear hcz92_1; try clear hcz93_0; try clear hcz93_1; try clear hcz98_0; try clear hcz98_1; try clear hcz99_0; try clear hcz99_1; try clear hfz104_0; try clear hfz104_1; try clear hfz105_0; try clear hfz105_1; try clear hfz108_0; try clear hfz108_1; try clear hfz109_0; try clear hfz109_1; try clear hfz23_0; try clear hfz23_1; try clear hfz28_0; try clear hfz28_1; try clear hfz46_0; try clear hfz46_1; try clear hfz47_0; try clear hfz47_1; try clear hfz51_0; try clear hfz51_1; try clear hfz52_0; try clear hfz52_1; try clear hfz57_0; try clear hfz57_1; try clear hfz58_0; try clear hfz58_1; try clear hfz62_0; try clear hfz62_1; try clear hfz63_0; try clear hfz63_1; try clear hfz69_0; try clear hfz69_1; try clear hfz70_0; try clear hfz70_1; try clear hfz76_0; try clear hfz76_1; try clear hfz77_0; try clear hfz77_1; try clear hfz85_0; try clear hfz85_1; try clear hfz86_0; try clear hfz86_1; try clear hfz92_0; try clear hfz92_1; try clear hfz93_0; try clear hfz93_1; try clear hfz98_0; try clear hfz98_1; try clear hfz99_0; try clear hfz99_1
    obtain ⟨kq, x181_16, rfl, HA, HJ16, HO_4, HO_17, HO_22, HO_632000, HO_638000, BK631, BK637, HB⟩ := hcut
    cases kq with
    | zero => exact absurd HA.out (by simp [laws_FnThresholdTables.j0])
    | succ kj16 =>
     have H := HA.out
     clear HA
     simp only [laws_FnThresholdTables.j0] at H
     by_cases c111 : x181_16 = true
     ·
      subst c111
      rw [if_pos rfl] at H
      exact absurd H (by simp)
     as_aux_lemma =>
      replace c111 := Bool.eq_false_iff.mpr c111
      subst c111
      rw [if_neg (show ¬ (false = true) by decide)] at H
      have HC112 := aM H
      clear H
      go_upto_region 17 with (fail)
      go_cut [185] (fun v185 wc => ∃ (kq : Nat) (x185_111 : Bool), v185 = .bool x185_111 ∧ Aside0 (laws_FnThresholdTables.j1 kq t622 t623 t630 t638 t639 t642 t643 t646 t647 t657 t658 x185_111 t626 t629 = some r) ∧ Aside0 (kq ≤ kj16) ∧ Aside0 (Kd.R (Kd.int .i64) 3 wc w.heap.size (fun k_ => some k_ ≠ (v648 : Value).ownBlock ∧ some k_ ≠ ((.slice Ao38 t658.length co38) : Value).ownBlock ∧ some k_ ≠ ((.slice Ao22 t626.length co22) : Value).ownBlock) (.slice Ao19 t623.length co19) t623) ∧ Aside0 (Kd.R (Kd.int .i64) 3 wc w.heap.size (fun k_ => some k_ ≠ ((.slice Ao19 t623.length co19) : Value).ownBlock ∧ some k_ ≠ ((.slice Ao38 t658.length co38) : Value).ownBlock ∧ some k_ ≠ ((.slice Ao22 t626.length co22) : Value).ownBlock) v648 t646) ∧ Aside0 (Kd.R (Kd.int .i64) 3 wc w.heap.size (fun k_ => some k_ ≠ ((.slice Ao19 t623.length co19) : Value).ownBlock ∧ some k_ ≠ (v648 : Value).ownBlock ∧ some k_ ≠ ((.slice Ao22 t626.length co22) : Value).ownBlock) (.slice Ao38 t658.length co38) t658) ∧ Aside0 (Kd.R (Kd.int .i64) 3 wc w.heap.size (fun k_ => some k_ ≠ ((.slice Ao19 t623.length co19) : Value).ownBlock ∧ some k_ ≠ (v648 : Value).ownBlock ∧ some k_ ≠ ((.slice Ao38 t658.length co38) : Value).ownBlock) (.slice Ao22 t626.length co22) t626) ∧ Aside0 (Kd.V (Kd.int .i64) 3 wc w.heap.size (fun k_ => some k_ ≠ ((.slice Ao19 t623.length co19) : Value).ownBlock ∧ some k_ ≠ (v648 : Value).ownBlock ∧ some k_ ≠ ((.slice Ao38 t658.length co38) : Value).ownBlock ∧ some k_ ≠ ((.slice Ao22 t626.length co22) : Value).ownBlock ∧ k_ ≠ gb631 ∧ k_ ≠ gb637) (.slice Ao26 t632.length co26) t632) ∧ Aside0 (wc.heap[gb631]? = some (.cells #[(.slice Ao22 t626.length co22), .int .i64 t629] 28 (0, 0))) ∧ Aside0 (wc.heap[gb637]? = some (.cells #[(.slice Ao26 t632.length co26), .int .i64 t635] 28 (0, 0))) ∧ Aside0 (Below w.heap.size w wc))
      case first =>
       as_aux_lemma =>
        have H := HC112.out
        clear HC112
        by_cases c113 : t665 = true
        ·
         subst c113
         rw [if_pos rfl] at H
         have H' := aM H
         clear H
         go_wp2
         go_meet
         case rel => exact ⟨_, (t664), yZ, H', ⟨by have := HJ16.out; first | omega | exact Nat.le_refl _⟩, ⟨xR HO_4.out⟩, ⟨xR HO_17.out⟩, ⟨xR HO_22.out⟩, ⟨xR HO_632000.out⟩, ⟨xV HO_638000.out⟩, ⟨xB BK631.out⟩, ⟨xB BK637.out⟩, ⟨xG2 HB.out GE631.out GE637.out⟩⟩
        replace c113 := Bool.eq_false_iff.mpr c113
        subst c113
        rw [if_neg (show ¬ (false = true) by decide)] at H
        have H' := aM H
        clear H
        go_wp2
        go_meet
        case rel => exact ⟨_, (false), yZ, H', ⟨by have := HJ16.out; first | omega | exact Nat.le_refl _⟩, ⟨xR HO_4.out⟩, ⟨xR HO_17.out⟩, ⟨xR HO_22.out⟩, ⟨xR HO_632000.out⟩, ⟨xV HO_638000.out⟩, ⟨xB BK631.out⟩, ⟨xB BK637.out⟩, ⟨xG2 HB.out GE631.out GE637.out⟩⟩
      case rest =>
       as_aux_lemma =>
        clear HC112
        try clear c111; try clear c113
        obtain ⟨kq, x185_111, rfl, HA, HJ111, HO_4, HO_17, HO_22, HO_632000, HO_638000, BK631, BK637, HB⟩ := hcut
        cases kq with
        | zero => exact absurd HA.out (by simp [laws_FnThresholdTables.j1])
        | succ kj111 =>
         have H := HA.out
         clear HA
         simp only [laws_FnThresholdTables.j1] at H
         have HC114 := aM H
         clear H
         go_upto_if 185 with (fail)
         go_cut [] (fun wc => ∃ (kq : Nat), Aside0 (laws_FnThresholdTables.j2 kq t622 t623 t630 t638 t639 t642 t643 t646 t647 t626 t629 = some r) ∧ Aside0 (kq ≤ kj111) ∧ Aside0 (Kd.R (Kd.int .i64) 3 wc w.heap.size (fun k_ => some k_ ≠ (v648 : Value).ownBlock ∧ some k_ ≠ ((.slice Ao22 t626.length co22) : Value).ownBlock) (.slice Ao19 t623.length co19) t623) ∧ Aside0 (Kd.R (Kd.int .i64) 3 wc w.heap.size (fun k_ => some k_ ≠ ((.slice Ao19 t623.length co19) : Value).ownBlock ∧ some k_ ≠ ((.slice Ao22 t626.length co22) : Value).ownBlock) v648 t646) ∧ Aside0 (Kd.R (Kd.int .i64) 3 wc w.heap.size (fun k_ => some k_ ≠ ((.slice Ao19 t623.length co19) : Value).ownBlock ∧ some k_ ≠ (v648 : Value).ownBlock) (.slice Ao22 t626.length co22) t626) ∧ Aside0 (Kd.V (Kd.int .i64) 3 wc w.heap.size (fun k_ => some k_ ≠ ((.slice Ao19 t623.length co19) : Value).ownBlock ∧ some k_ ≠ (v648 : Value).ownBlock ∧ some k_ ≠ ((.slice Ao22 t626.length co22) : Value).ownBlock ∧ k_ ≠ gb631 ∧ k_ ≠ gb637) (.slice Ao26 t632.length co26) t632) ∧ Aside0 (wc.heap[gb631]? = some (.cells #[(.slice Ao22 t626.length co22), .int .i64 t629] 28 (0, 0))) ∧ Aside0 (wc.heap[gb637]? = some (.cells #[(.slice Ao26 t632.length co26), .int .i64 t635] 28 (0, 0))) ∧ Aside0 (Below w.heap.size w wc))
         case first =>
          as_aux_lemma =>
           have H := HC114.out
           clear HC114
           by_cases c115 : x185_111 = true
           rotate_left
           ·
            replace c115 := Bool.eq_false_iff.mpr c115
            subst c115
            rw [if_neg (show ¬ (false = true) by decide)] at H
            have H' := aM H
            clear H
            go_wp2
            go_meet
            case rel => exact ⟨_, H', ⟨by have := HJ16.out; have := HJ111.out; first | omega | exact Nat.le_refl _⟩, ⟨zR (rM HO_4.out (fun _ hk => ⟨hk.1, hk.2.2⟩))⟩, ⟨zR (rM HO_17.out (fun _ hk => ⟨hk.1, hk.2.2⟩))⟩, ⟨zR (rM HO_632000.out (fun _ hk => ⟨hk.1, hk.2.1⟩))⟩, ⟨by (with_reducible repeat (first | apply Kd.V_alloc | apply Kd.V_drewN | apply Kd.V_drew)); exact Kd.V_mono HO_638000.out (fun _ hk => ⟨hk.1, ⟨hk.2.1, ⟨hk.2.2.2.1, ⟨hk.2.2.2.2.1, hk.2.2.2.2.2⟩⟩⟩⟩)⟩, ⟨xB BK631.out⟩, ⟨xB BK637.out⟩, ⟨xG2 HB.out GE631.out GE637.out⟩⟩
           subst c115
           rw [if_pos rfl] at H
           replace H := oB.mp H
           obtain ⟨⟨t673, t674⟩, A1160, H⟩ := H
           (try dsimp only at H)
           have A116 := aM A1160
           clear A1160
           by_cases c117 : t674 = true
           rotate_left
           ·
            replace c117 := Bool.eq_false_iff.mpr c117
            subst c117
            rw [if_neg (show ¬ (false = true) by decide)] at H
            exact absurd H (by simp)
           subst c117
           rw [if_pos rfl] at H
           by_cases c118 : t673 = true
           ·
            subst c118
            rw [if_pos rfl] at H
            exact absurd H (by simp)
           replace c118 := Bool.eq_false_iff.mpr c118
           subst c118
           rw [if_neg (show ¬ (false = true) by decide)] at H
           have H' := aM H
           clear H
           go_wp2_with (first | (refine yL 189 Try.func11 #[.int .i64 t657, .slice Ao38 t658.length co38] ?_; (with_reducible refine (impl_IsThreshold.calls kj111 t657 _ _ t658 false true _ (xC (Kd.R_reads' HO_22.out).2.2) ((Kd.R_reads' HO_22.out).2.1) A116.out).mono ?_); rintro e w119 ⟨rfl, hb⟩; refine ⟨_, rfl, ?_⟩; replace HO_4 := aM (Kd.R_below (xR HO_4.out) hb); replace HO_17 := aM (Kd.R_below (xR HO_17.out) hb); replace HO_22 := aM (Kd.R_below (xR HO_22.out) hb); replace HO_632000 := aM (Kd.R_below (xR HO_632000.out) hb); replace HO_638000 := aM (Kd.V_below (xV HO_638000.out) hb); replace BK631 := yK BK631 hb; replace BK637 := yK BK637 hb; replace HB := yS2 HB GE631 GE637 hb; (try clear hb)))
           go_meet
           case rel => exact ⟨_, H', ⟨by have := HJ16.out; have := HJ111.out; first | omega | exact Nat.le_refl _⟩, ⟨zR (rM HO_4.out (fun _ hk => ⟨hk.1, hk.2.2⟩))⟩, ⟨zR (rM HO_17.out (fun _ hk => ⟨hk.1, hk.2.2⟩))⟩, ⟨zR (rM HO_632000.out (fun _ hk => ⟨hk.1, hk.2.1⟩))⟩, ⟨by (with_reducible repeat (first | apply Kd.V_alloc | apply Kd.V_drewN | apply Kd.V_drew)); exact Kd.V_mono HO_638000.out (fun _ hk => ⟨hk.1, ⟨hk.2.1, ⟨hk.2.2.2.1, ⟨hk.2.2.2.2.1, hk.2.2.2.2.2⟩⟩⟩⟩)⟩, ⟨xB BK631.out⟩, ⟨xB BK637.out⟩, ⟨xG2 HB.out GE631.out GE637.out⟩⟩
         case rest =>
          as_aux_lemma =>
           clear HC114
           try clear c115; try clear c117; try clear c118
           obtain ⟨kq, HA, HJ113, HO_4, HO_17, HO_632000, HO_638000, BK631, BK637, HB⟩ := hcut
           cases kq with
           | zero => exact absurd HA.out (by simp [laws_FnThresholdTables.j2])
           | succ kj113 =>
            have H := HA.out
            clear HA
            simp only [laws_FnThresholdTables.j2] at H
            by_cases c120 : t639 = true
            rotate_left
            ·
             replace c120 := Bool.eq_false_iff.mpr c120
             subst c120
             rw [if_neg (show ¬ (false = true) by decide)] at H
             by_cases c165 : t630 = true
             ·
              subst c165
              rw [if_pos rfl] at H
              exact absurd H (by simp)
             replace c165 := Bool.eq_false_iff.mpr c165
             subst c165
             rw [if_neg (show ¬ (false = true) by decide)] at H
             by_cases c166 : t643 = true
             ·
              subst c166
              rw [if_pos rfl] at H
              exact absurd H (by simp)
             replace c166 := Bool.eq_false_iff.mpr c166
             subst c166
             rw [if_neg (show ¬ (false = true) by decide)] at H
             obtain rfl := Option.some.inj H
             go_wp2
             go_ret
             exact ⟨yF, xG2 HB.out GE631.out GE637.out⟩
            as_aux_lemma =>
             subst c120
             rw [if_pos rfl] at H
             have HC121 := aM H
             clear H
             go_upto_region 23 with (fail)
             go_cut [225] (fun v225 wc => ∃ (kq : Nat) (x225_120 : Bool), v225 = .bool x225_120 ∧ Aside0 (laws_FnThresholdTables.j3 kq t622 t623 t630 t638 t642 t646 t647 x225_120 t626 t629 = some r) ∧ Aside0 (kq ≤ kj113) ∧ Aside0 (Kd.R (Kd.int .i64) 3 wc w.heap.size (fun k_ => some k_ ≠ (v648 : Value).ownBlock ∧ some k_ ≠ ((.slice Ao22 t626.length co22) : Value).ownBlock) (.slice Ao19 t623.length co19) t623) ∧ Aside0 (Kd.R (Kd.int .i64) 3 wc w.heap.size (fun k_ => some k_ ≠ ((.slice Ao19 t623.length co19) : Value).ownBlock ∧ some k_ ≠ ((.slice Ao22 t626.length co22) : Value).ownBlock) v648 t646) ∧ Aside0 (Kd.R (Kd.int .i64) 3 wc w.heap.size (fun k_ => some k_ ≠ ((.slice Ao19 t623.length co19) : Value).ownBlock ∧ some k_ ≠ (v648 : Value).ownBlock) (.slice Ao22 t626.length co22) t626) ∧ Aside0 (Kd.V (Kd.int .i64) 3 wc w.heap.size (fun k_ => some k_ ≠ ((.slice Ao19 t623.length co19) : Value).ownBlock ∧ some k_ ≠ (v648 : Value).ownBlock ∧ some k_ ≠ ((.slice Ao22 t626.length co22) : Value).ownBlock ∧ k_ ≠ gb631 ∧ k_ ≠ gb637) (.slice Ao26 t632.length co26) t632) ∧ Aside0 (wc.heap[gb631]? = some (.cells #[(.slice Ao22 t626.length co22), .int .i64 t629] 28 (0, 0))) ∧ Aside0 (wc.heap[gb637]? = some (.cells #[(.slice Ao26 t632.length co26), .int .i64 t635] 28 (0, 0))) ∧ Aside0 (Below w.heap.size w wc))
             case first =>
              as_aux_lemma =>
               have H := HC121.out
               clear HC121
               obtain ⟨c122, -, H⟩ | ⟨c122, -, H⟩ := yif H
               ·
                have c122b0 : (t638 == t647) = true := c122
                (try (have c122b1 : decide (t638 = t647) = true := by simpa using c122))
                (try (have c122b2 : (t638 == t647) = true := by simpa using c122))
                clear c122
                (first | rw [c122b0] | (simp only [i64_w, i32_w]; rw [c122b0]) | rw [c122b1] | skip)
                have H' := aM H
                clear H
                go_wp2
                go_meet
                case rel => exact ⟨_, (true), yZ, H', ⟨by have := HJ16.out; have := HJ111.out; have := HJ113.out; first | omega | exact Nat.le_refl _⟩, ⟨xR HO_4.out⟩, ⟨xR HO_17.out⟩, ⟨xR HO_632000.out⟩, ⟨xV HO_638000.out⟩, ⟨xB BK631.out⟩, ⟨xB BK637.out⟩, ⟨xG2 HB.out GE631.out GE637.out⟩⟩
               have c122b0 : (t638 == t647) = false := by simpa using c122
               (try (have c122b1 : decide (t638 = t647) = false := by simpa using c122))
               (try (have c122b2 : (t638 == t647) = false := by simpa using c122))
               (try (have c122b3 : ¬ (t638 = t647) := by simpa using c122))
               clear c122
               (first | rw [c122b0] | (simp only [i64_w, i32_w]; rw [c122b0]) | rw [c122b1] | skip)
               obtain ⟨c123, -, H⟩ | ⟨c123, -, H⟩ := yif H
               ·
                have c123b0 : (t643 != t638) = true := c123
                (try (have c123b1 : decide (t643 = t638) = false := by simpa using c123))
                (try (have c123b2 : (t643 == t638) = false := by simpa using c123))
                (try (have c123b3 : ¬ (t643 = t638) := by simpa using c123))
                clear c123
                have H' := aM H
                clear H
                go_wp2
                go_meet
                case rel => exact ⟨_, (true), yZ, H', ⟨by have := HJ16.out; have := HJ111.out; have := HJ113.out; first | omega | exact Nat.le_refl _⟩, ⟨xR HO_4.out⟩, ⟨xR HO_17.out⟩, ⟨xR HO_632000.out⟩, ⟨xV HO_638000.out⟩, ⟨xB BK631.out⟩, ⟨xB BK637.out⟩, ⟨xG2 HB.out GE631.out GE637.out⟩⟩
               have c123b0 : (t643 != t638) = false := by simpa using c123
               (try (have c123b1 : decide (t643 = t638) = true := by simpa using c123))
               (try (have c123b2 : (t643 == t638) = true := by simpa using c123))
               clear c123
               by_cases c124 : t638 = true
               ·
                subst c124
                rw [if_pos rfl] at H
                have H' := aM H
                clear H
                go_wp2
                go_meet
                case rel => exact ⟨_, ((t630 != (decide (t622 > 0)))), yZ, H', ⟨by have := HJ16.out; have := HJ111.out; have := HJ113.out; first | omega | exact Nat.le_refl _⟩, ⟨xR HO_4.out⟩, ⟨xR HO_17.out⟩, ⟨xR HO_632000.out⟩, ⟨xV HO_638000.out⟩, ⟨xB BK631.out⟩, ⟨xB BK637.out⟩, ⟨xG2 HB.out GE631.out GE637.out⟩⟩
               replace c124 := Bool.eq_false_iff.mpr c124
               subst c124
               rw [if_neg (show ¬ (false = true) by decide)] at H
               have H' := aM H
               clear H
               go_wp2
               go_meet
               case rel => exact ⟨_, ((t630 != false)), yZ, H', ⟨by have := HJ16.out; have := HJ111.out; have := HJ113.out; first | omega | exact Nat.le_refl _⟩, ⟨xR HO_4.out⟩, ⟨xR HO_17.out⟩, ⟨xR HO_632000.out⟩, ⟨xV HO_638000.out⟩, ⟨xB BK631.out⟩, ⟨xB BK637.out⟩, ⟨xG2 HB.out GE631.out GE637.out⟩⟩
             case rest =>
              as_aux_lemma =>
               clear HC121
               try clear c120; try clear c122; try clear c122b0; try clear c122b1; try clear c122b2; try clear c123; try clear c123b0; try clear c123b1; try clear c123b2; try clear c124
               obtain ⟨kq, x225_120, rfl, HA, HJ120, HO_4, HO_17, HO_632000, HO_638000, BK631, BK637, HB⟩ := hcut
               cases kq with
               | zero => exact absurd HA.out (by simp [laws_FnThresholdTables.j3])
               | succ kj120 =>
                have H := HA.out
                clear HA
                simp only [laws_FnThresholdTables.j3] at H
                by_cases c125 : x225_120 = true
                ·
                 subst c125
                 rw [if_pos rfl] at H
                 exact absurd H (by simp)
                as_aux_lemma =>
                 replace c125 := Bool.eq_false_iff.mpr c125
                 subst c125
                 rw [if_neg (show ¬ (false = true) by decide)] at H
                 have HC126 := aM H
                 clear H
                 go_upto_if 226 with (fail)
                 go_cut [] (fun wc => ∃ (kq : Nat), Aside0 (laws_FnThresholdTables.j4 kq t622 t623 t630 t638 t642 t626 t629 = some r) ∧ Aside0 (kq ≤ kj120) ∧ Aside0 (Kd.R (Kd.int .i64) 3 wc w.heap.size (fun k_ => some k_ ≠ ((.slice Ao22 t626.length co22) : Value).ownBlock) (.slice Ao19 t623.length co19) t623) ∧ Aside0 (Kd.R (Kd.int .i64) 3 wc w.heap.size (fun k_ => some k_ ≠ ((.slice Ao19 t623.length co19) : Value).ownBlock) (.slice Ao22 t626.length co22) t626) ∧ Aside0 (Kd.V (Kd.int .i64) 3 wc w.heap.size (fun k_ => some k_ ≠ ((.slice Ao19 t623.length co19) : Value).ownBlock ∧ some k_ ≠ ((.slice Ao22 t626.length co22) : Value).ownBlock ∧ k_ ≠ gb631 ∧ k_ ≠ gb637) (.slice Ao26 t632.length co26) t632) ∧ Aside0 (wc.heap[gb631]? = some (.cells #[(.slice Ao22 t626.length co22), .int .i64 t629] 28 (0, 0))) ∧ Aside0 (wc.heap[gb637]? = some (.cells #[(.slice Ao26 t632.length co26), .int .i64 t635] 28 (0, 0))) ∧ Aside0 (Below w.heap.size w wc))
                 case first =>
                  as_aux_lemma =>
                   have H := HC126.out
                   clear HC126
                   by_cases c127 : t647 = true
                   rotate_left
                   ·
                    replace c127 := Bool.eq_false_iff.mpr c127
                    subst c127
                    rw [if_neg (show ¬ (false = true) by decide)] at H
                    have H' := aM H
                    clear H
                    go_wp2
                    go_meet
                    case rel => exact ⟨_, H', ⟨by have := HJ16.out; have := HJ111.out; have := HJ113.out; have := HJ120.out; first | omega | exact Nat.le_refl _⟩, ⟨zR (rM HO_4.out (fun _ hk => hk.2))⟩, ⟨zR (rM HO_632000.out (fun _ hk => hk.1))⟩, ⟨by (with_reducible repeat (first | apply Kd.V_alloc | apply Kd.V_drewN | apply Kd.V_drew)); exact Kd.V_mono HO_638000.out (fun _ hk => ⟨hk.1, ⟨hk.2.2.1, ⟨hk.2.2.2.1, hk.2.2.2.2⟩⟩⟩)⟩, ⟨xB BK631.out⟩, ⟨xB BK637.out⟩, ⟨xG2 HB.out GE631.out GE637.out⟩⟩
                   subst c127
                   rw [if_pos rfl] at H
                   replace H := oB.mp H
                   obtain ⟨⟨t675, t676⟩, A1280, H⟩ := H
                   (try dsimp only at H)
                   have A128 := aM A1280
                   clear A1280
                   by_cases c129 : t676 = true
                   rotate_left
                   ·
                    replace c129 := Bool.eq_false_iff.mpr c129
                    subst c129
                    rw [if_neg (show ¬ (false = true) by decide)] at H
                    exact absurd H (by simp)
                   subst c129
                   rw [if_pos rfl] at H
                   by_cases c130 : t675 = true
                   rotate_left
                   ·
                    replace c130 := Bool.eq_false_iff.mpr c130
                    subst c130
                    rw [if_neg (show ¬ (false = true) by decide)] at H
                    exact absurd H (by simp)
                   subst c130
                   rw [if_pos rfl] at H
                   have H' := aM H
                   clear H
                   obtain ⟨Ao131, co131, eo131⟩ := Kd.R_slice HO_17.out
                   subst eo131
                   go_wp2_with (first | (refine yL 231 Try.func19 #[.int .i64 t622, .slice Ao19 t623.length co19, .slice Ao131 t646.length co131] ?_; (with_reducible refine (impl_IsTrade.calls kj120 t622 _ _ t623 _ _ t646 true true _ (xC (Kd.R_reads' HO_4.out).2.2) ((Kd.R_reads' HO_4.out).2.1) (xC (Kd.R_reads' HO_17.out).2.2) ((Kd.R_reads' HO_17.out).2.1) A128.out).mono ?_); rintro e w132 ⟨rfl, hb⟩; refine ⟨_, rfl, ?_⟩; replace HO_4 := aM (Kd.R_below (xR HO_4.out) hb); replace HO_17 := aM (Kd.R_below (xR HO_17.out) hb); replace HO_632000 := aM (Kd.R_below (xR HO_632000.out) hb); replace HO_638000 := aM (Kd.V_below (xV HO_638000.out) hb); replace BK631 := yK BK631 hb; replace BK637 := yK BK637 hb; replace HB := yS2 HB GE631 GE637 hb; (try clear hb)))
                   go_meet
                   case rel => exact ⟨_, H', ⟨by have := HJ16.out; have := HJ111.out; have := HJ113.out; have := HJ120.out; first | omega | exact Nat.le_refl _⟩, ⟨zR (rM HO_4.out (fun _ hk => hk.2))⟩, ⟨zR (rM HO_632000.out (fun _ hk => hk.1))⟩, ⟨by (with_reducible repeat (first | apply Kd.V_alloc | apply Kd.V_drewN | apply Kd.V_drew)); exact Kd.V_mono HO_638000.out (fun _ hk => ⟨hk.1, ⟨hk.2.2.1, ⟨hk.2.2.2.1, hk.2.2.2.2⟩⟩⟩)⟩, ⟨xB BK631.out⟩, ⟨xB BK637.out⟩, ⟨xG2 HB.out GE631.out GE637.out⟩⟩
                 case rest =>
                  as_aux_lemma =>
                   clear HC126
                   try clear c125; try clear c127; try clear c129; try clear c130
                   obtain ⟨kq, HA, HJ125, HO_4, HO_632000, HO_638000, BK631, BK637, HB⟩ := hcut
                   cases kq with
                   | zero => exact absurd HA.out (by simp [laws_FnThresholdTables.j4])
                   | succ kj125 =>
                    have H := HA.out
                    clear HA
                    simp only [laws_FnThresholdTables.j4] at H
                    have HC133 := aM H
                    clear H
                    go_upto_if 241 with (fail)
                    go_cut [] (fun wc => ∃ (kq : Nat), Aside0 (laws_FnThresholdTables.j5 kq t622 t623 t630 t642 t626 t629 = some r) ∧ Aside0 (kq ≤ kj125) ∧ Aside0 (Kd.R (Kd.int .i64) 3 wc w.heap.size (fun k_ => some k_ ≠ ((.slice Ao22 t626.length co22) : Value).ownBlock) (.slice Ao19 t623.length co19) t623) ∧ Aside0 (Kd.R (Kd.int .i64) 3 wc w.heap.size (fun k_ => some k_ ≠ ((.slice Ao19 t623.length co19) : Value).ownBlock) (.slice Ao22 t626.length co22) t626) ∧ Aside0 (Kd.V (Kd.int .i64) 3 wc w.heap.size (fun k_ => some k_ ≠ ((.slice Ao19 t623.length co19) : Value).ownBlock ∧ some k_ ≠ ((.slice Ao22 t626.length co22) : Value).ownBlock ∧ k_ ≠ gb631 ∧ k_ ≠ gb637) (.slice Ao26 t632.length co26) t632) ∧ Aside0 (wc.heap[gb631]? = some (.cells #[(.slice Ao22 t626.length co22), .int .i64 t629] 28 (0, 0))) ∧ Aside0 (wc.heap[gb637]? = some (.cells #[(.slice Ao26 t632.length co26), .int .i64 t635] 28 (0, 0))) ∧ Aside0 (Below w.heap.size w wc))
                    case first =>
                     as_aux_lemma =>
                      have H := HC133.out
                      clear HC133
                      obtain ⟨c134, -, H⟩ | ⟨c134, -, H⟩ := yif H
                      rotate_left
                      ·
                       have c134b0 : decide (0 < t622) = false := decide_eq_false c134
                       clear c134
                       (first | rw [c134b0] | (simp only [i64_w, i32_w]; rw [c134b0]) | rw [c134b1] | skip)
                       have H' := aM H
                       clear H
                       go_wp2
                       go_meet
                       case rel => exact ⟨_, H', ⟨by have := HJ16.out; have := HJ111.out; have := HJ113.out; have := HJ120.out; have := HJ125.out; first | omega | exact Nat.le_refl _⟩, ⟨xR HO_4.out⟩, ⟨xR HO_632000.out⟩, ⟨xV HO_638000.out⟩, ⟨xB BK631.out⟩, ⟨xB BK637.out⟩, ⟨xG2 HB.out GE631.out GE637.out⟩⟩
                      have c134b0 : decide (0 < t622) = true := decide_eq_true c134
                      clear c134
                      (first | rw [c134b0] | (simp only [i64_w, i32_w]; rw [c134b0]) | rw [c134b1] | skip)
                      replace H := oB.mp H
                      obtain ⟨⟨t677, t680, t683⟩, A1350, H⟩ := H
                      (try dsimp only at H)
                      have A135 := aM A1350
                      clear A1350
                      replace H := oB.mp H
                      obtain ⟨⟨t685, t686⟩, A1360, H⟩ := H
                      (try dsimp only at H)
                      have A136 := aM A1360
                      clear A1360
                      by_cases c137 : t683 = true
                      rotate_left
                      ·
                       replace c137 := Bool.eq_false_iff.mpr c137
                       subst c137
                       rw [if_neg (show ¬ (false = true) by decide)] at H
                       exact absurd H (by simp)
                      subst c137
                      rw [if_pos rfl] at H
                      by_cases c138 : t686 = true
                      rotate_left
                      ·
                       replace c138 := Bool.eq_false_iff.mpr c138
                       subst c138
                       rw [if_neg (show ¬ (false = true) by decide)] at H
                       exact absurd H (by simp)
                      subst c138
                      rw [if_pos rfl] at H
                      obtain ⟨c139, -, H⟩ | ⟨c139, -, H⟩ := yif H
                      · exact absurd H (by simp)
                      have c139b0 : (t685 != t638) = false := by simpa using c139
                      (try (have c139b1 : decide (t685 = t638) = true := by simpa using c139))
                      (try (have c139b2 : (t685 == t638) = true := by simpa using c139))
                      clear c139
                      have H' := aM H
                      clear H
                      go_wp2_with (first | (refine yL 245 Try.func25 #[.int .i64 t622, .slice Ao19 t623.length co19] ?_; (with_reducible refine (impl_TableSample.calls kj125 t622 _ _ t623 t677 t680 true _ (xC (Kd.R_reads' HO_4.out).2.2) ((Kd.R_reads' HO_4.out).2.1) A135.out).mono ?_); rintro e w140 ⟨v678, v681, rfl, ho0, ho1, hb⟩; refine ⟨_, rfl, ?_⟩; replace HO_638000 := aM (Kd.V_mono (Kd.V_told (Kd.V_told (Kd.V_old (xV HO_638000.out) hb) (by first | exact Kd.N_base ho0 | exact Kd.S_base ho0 | exact Kd.R_base ho0)) (Kd.R_base ho1)) (fun _ h_ => h_.1)); have HO679 := aM (Kd.N_lower (Kd.N_mono (ok' := fun k_ => some k_ ≠ (v681 : Value).ownBlock ∧ some k_ ≠ (.slice Ao19 t623.length co19 : Value).ownBlock ∧ some k_ ≠ (.slice Ao22 t626.length co22 : Value).ownBlock ∧ k_ ≠ gb631 ∧ k_ ≠ gb637) ho0 (fun k_ hk_ => ⟨hk_.2, (Kd.fresh' (Kd.R_lt (xR HO_4.out)) k_ hk_.1), (Kd.fresh' (Kd.R_lt (xR HO_632000.out)) k_ hk_.1), (Kd.freshB (g := gb631) (o := .cells #[.slice Ao22 t626.length co22, .int .i64 t629] 28 (0, 0)) (xB BK631.out) k_ hk_.1), (Kd.freshB (g := gb637) (o := .cells #[.slice Ao26 t632.length co26, .int .i64 t635] 28 (0, 0)) (xB BK637.out) k_ hk_.1)⟩)) (below_size (xG2 HB.out GE631.out GE637.out))); have HO682 := aM (Kd.R_lower (Kd.R_new' (Kd.R_new' (rM (ok' := fun k_ => True) ho1 (fun _ hk_ => trivial)) (Kd.R_lt (xR HO_4.out))) (Kd.R_lt (xR HO_632000.out))) (below_size (xG2 HB.out GE631.out GE637.out))); replace HO_4 := aM (Kd.R_elder' (xR HO_4.out) (Kd.R_base ho1) hb); replace HO_632000 := aM (Kd.R_elder' (xR HO_632000.out) (Kd.R_base ho1) hb); replace BK631 := yK BK631 hb; replace BK637 := yK BK637 hb; replace HB := yS2 HB GE631 GE637 hb; (try clear hb; try clear ho0; try clear ho1)) | (refine yB 32 #[.slice none 0 0, .slice none 0 0] 46 ?_; intro gb684 hg w141 hbox hb; replace HO_4 := aM (Kd.R_below (xR HO_4.out) hb); replace HO_632000 := aM (Kd.R_below (xR HO_632000.out) hb); replace HO_638000 := aM (Kd.V_below (Kd.V_elderB (xV HO_638000.out) gb684 (Nat.le_of_eq hg.symm)) hb); replace HO679 := aM (Kd.N_below (Kd.N_elderB (xN HO679.out) gb684 (Nat.le_of_eq hg.symm)) hb); replace HO682 := aM (Kd.R_below (xR HO682.out) hb); have BK684 := aM (hbox); have GW684 := yV2 hg HB GE631 GE637; have GE684 := yV2 hg HB GE631 GE637; replace HB := yS2 HB GE631 GE637 hb; have NB631_684 := yX hg BK631; have NB684_631 := yY NB631_684; replace BK631 := yK BK631 hb; have NB637_684 := yX hg BK637; have NB684_637 := yY NB637_684; replace BK637 := yK BK637 hb; clear hb hbox hg; obtain ⟨Ao142, co142, eo142⟩ := Kd.N_slice HO679.out; subst eo142; have hnb143 := NB684_631.out; have hnc143 := NB631_684.out; have hnb144 := NB684_637.out; have hnc144 := NB637_684.out; obtain ⟨hcz145_0, hcz145_1, hfz145_0, hfz145_1⟩ := yD2 BK684; obtain ⟨Ao146, co146, eo146⟩ := Kd.R_slice HO682.out; subst eo146) | (refine yL 250 Try.func26 #[.agg #[.slice Ao142 t677.length co142, .slice Ao146 t680.length co146]] ?_; (with_reducible refine (impl_CanPart.calls kj125 _ _ t677 _ _ t680 t685 true _ ?side1 ?side2 ?side3 ?side4 A136.out).mono ?_); (case side1 => refine (Kd.N_reads' (e := 24) (base := w.heap.size) (ok := fun k_ => ((some k_ ≠ (.slice Ao146 t680.length co146 : Value).ownBlock ∧ (some k_ ≠ (.slice Ao19 t623.length co19 : Value).ownBlock ∧ (some k_ ≠ (.slice Ao22 t626.length co22 : Value).ownBlock ∧ (k_ ≠ gb631 ∧ k_ ≠ gb637)))) ∧ k_ ≠ gb684)) (n := t677.length) (c := co142) ?_).2.2; exact (zN (Kd.N_mono (Kd.N_far (p := ⟨gb684, 1, none⟩) (Kd.N_far (p := ⟨gb684, 0, none⟩) (Kd.N_mono HO679.out (fun k_ hk => (⟨hk, hk.2⟩ : _ ∧ k_ ≠ gb684))) (fun _ hk => hk.2) (.slice Ao142 t677.length co142)) (fun _ hk => hk.2) (.slice Ao146 t680.length co146)) (fun _ h_ => h_.1)))); (case side2 => exact (Kd.N_reads' HO679.out).2.1); (case side3 => refine (Kd.R_reads' (e := 3) (base := w.heap.size) (ok := fun k_ => ((True ∧ some k_ ≠ (.slice Ao19 t623.length co19 : Value).ownBlock) ∧ some k_ ≠ (.slice Ao22 t626.length co22 : Value).ownBlock)) (n := t680.length) (c := co146) ?_).2.2; exact (zR (rM (Kd.R_far (p := ⟨gb684, 1, none⟩) (Kd.R_far (p := ⟨gb684, 0, none⟩) (Kd.R_types HO682.out BK684.out (by decide)) (fun _ hk => hk.2) (.slice Ao142 t677.length co142)) (fun _ hk => hk.2) (.slice Ao146 t680.length co146)) (fun _ h_ => h_.1)))); (case side4 => exact (Kd.R_reads' HO682.out).2.1); rintro e w147 ⟨rfl, hb⟩; refine ⟨_, rfl, ?_⟩; replace HO_4 := aM (Kd.R_below (zR (rM (Kd.R_far (p := ⟨gb684, 1, none⟩) (Kd.R_far (p := ⟨gb684, 0, none⟩) (Kd.R_types HO_4.out BK684.out (by decide)) (fun _ hk => hk.2) (.slice Ao142 t677.length co142)) (fun _ hk => hk.2) (.slice Ao146 t680.length co146)) (fun _ h_ => h_.1))) hb); replace HO_632000 := aM (Kd.R_below (zR (rM (Kd.R_far (p := ⟨gb684, 1, none⟩) (Kd.R_far (p := ⟨gb684, 0, none⟩) (Kd.R_types HO_632000.out BK684.out (by decide)) (fun _ hk => hk.2) (.slice Ao142 t677.length co142)) (fun _ hk => hk.2) (.slice Ao146 t680.length co146)) (fun _ h_ => h_.1))) hb); replace HO_638000 := aM (Kd.V_below (by (with_reducible repeat (first | apply Kd.V_alloc | apply Kd.V_drewN | apply Kd.V_drew)); exact (Kd.V_mono (Kd.V_far (p := ⟨gb684, 1, none⟩) (Kd.V_far (p := ⟨gb684, 0, none⟩) (Kd.V_mono HO_638000.out (fun k_ hk => (⟨hk, hk.2⟩ : _ ∧ k_ ≠ gb684))) (fun _ hk => hk.2) (.slice Ao142 t677.length co142)) (fun _ hk => hk.2) (.slice Ao146 t680.length co146)) (fun _ h_ => h_.1))) hb); replace HO679 := aM (Kd.N_below (zN (Kd.N_mono (Kd.N_far (p := ⟨gb684, 1, none⟩) (Kd.N_far (p := ⟨gb684, 0, none⟩) (Kd.N_mono HO679.out (fun k_ hk => (⟨hk, hk.2⟩ : _ ∧ k_ ≠ gb684))) (fun _ hk => hk.2) (.slice Ao142 t677.length co142)) (fun _ hk => hk.2) (.slice Ao146 t680.length co146)) (fun _ h_ => h_.1))) hb); replace HO682 := aM (Kd.R_below (zR (rM (Kd.R_far (p := ⟨gb684, 1, none⟩) (Kd.R_far (p := ⟨gb684, 0, none⟩) (Kd.R_types HO682.out BK684.out (by decide)) (fun _ hk => hk.2) (.slice Ao142 t677.length co142)) (fun _ hk => hk.2) (.slice Ao146 t680.length co146)) (fun _ h_ => h_.1))) hb); replace BK631 := yK1 BK631 NB631_684 hb; replace BK637 := yK1 BK637 NB637_684 hb; replace BK684 := aM (bB (g := gb684) (o := .cells #[.slice Ao142 t677.length co142, .slice Ao146 t680.length co146] 46 (0, 0)) (by (with_reducible repeat (first | refine bN ?_ _ | refine bD ?_ | refine bA ?_ _)); refine blk_put (cs := #[.slice Ao142 t677.length co142, .slice none 0 0]) ?_ 1 _ rfl; (with_reducible repeat (first | refine bN ?_ _ | refine bD ?_ | refine bA ?_ _)); refine blk_put (cs := #[.slice none 0 0, .slice none 0 0]) ?_ 0 _ rfl; (with_reducible repeat (first | refine bN ?_ _ | refine bD ?_ | refine bA ?_ _)); exact BK684.out) hb); replace HB := yS3 HB GE631 GE637 GE684 hb; (try clear hb)))
                      go_meet
                      case rel => exact ⟨_, H', ⟨by have := HJ16.out; have := HJ111.out; have := HJ113.out; have := HJ120.out; have := HJ125.out; first | omega | exact Nat.le_refl _⟩, ⟨zR (rM HO_4.out (fun _ hk => hk.1))⟩, ⟨zR (rM HO_632000.out (fun _ hk => hk.1))⟩, ⟨by (with_reducible repeat (first | apply Kd.V_alloc | apply Kd.V_drewN | apply Kd.V_drew)); exact Kd.V_mono HO_638000.out (fun _ hk => ⟨hk.1.1.1.1, ⟨hk.1.1.1.2.1, ⟨hk.1.1.1.2.2.1, hk.1.1.1.2.2.2⟩⟩⟩)⟩, ⟨xB BK631.out⟩, ⟨xB BK637.out⟩, ⟨xG3 HB.out GE631.out GE637.out GE684.out⟩⟩
                    case rest =>
                     as_aux_lemma =>
                      clear HC133
                      try clear c134; try clear c134b0; try clear c137; try clear c138; try clear c139; try clear c139b0; try clear c139b1; try clear c139b2; try clear hcz145_0; try clear hcz145_1; try clear hfz145_0; try clear hfz145_1
                      obtain ⟨kq, HA, HJ132, HO_4, HO_632000, HO_638000, BK631, BK637, HB⟩ := hcut
                      cases kq with
                      | zero => exact absurd HA.out (by simp [laws_FnThresholdTables.j5])
                      | succ kj132 =>
                       have H := HA.out
                       clear HA
                       simp only [laws_FnThresholdTables.j5] at H
                       by_cases c148 : t630 = true
                       rotate_left
                       ·
                        replace c148 := Bool.eq_false_iff.mpr c148
                        subst c148
                        rw [if_neg (show ¬ (false = true) by decide)] at H
                        obtain rfl := Option.some.inj H
                        go_wp2
                        go_ret
                        exact ⟨yF, xG2 HB.out GE631.out GE637.out⟩
                       subst c148
                       rw [if_pos rfl] at H
                       replace H := oB.mp H
                       obtain ⟨⟨t687, t690⟩, A1490, H⟩ := H
                       (try dsimp only at H)
                       have A149 := aM A1490
                       clear A1490
                       have H' := aM H
                       clear H
                       have hnb150 := NB631_637.out
                       have hnc150 := NB637_631.out
                       have hcz151_0 : wc.cell? ⟨gb631, 0, none⟩ = some (.slice Ao22 t626.length co22) := (bC BK631.out 0).trans rfl
                       have hcz151_1 : wc.cell? ⟨gb631, 1, none⟩ = some (.int .i64 t629) := (bC BK631.out 1).trans rfl
                       have hfz151_0 := bF BK631.out 0
                       have hfz151_1 := bF BK631.out 1
                       go_wp2_with (first | (refine yL 268 Try.func27 #[.agg #[.slice Ao22 t626.length co22, .int .i64 t629]] ?_; (with_reducible refine (impl_PlaneTable.calls kj132 _ _ t626 t629 t687 t690 _ (xC (Kd.R_reads' HO_632000.out).2.2) ((Kd.R_reads' HO_632000.out).2.1) A149.out).mono ?_); rintro e w152 ⟨v688, rfl, ho0, hb⟩; refine ⟨_, rfl, ?_⟩; replace HO_638000 := aM (Kd.V_elder' (xV HO_638000.out) (Kd.R_base ho0) hb); have HO689 := aM (Kd.R_lower (Kd.R_new' (Kd.R_new' ho0 (Kd.R_lt (xR HO_4.out))) (Kd.R_lt (xR HO_632000.out))) (below_size (xG2 HB.out GE631.out GE637.out))); replace HO_4 := aM (Kd.R_elder' (xR HO_4.out) (Kd.R_base ho0) hb); replace HO_632000 := aM (Kd.R_elder' (xR HO_632000.out) (Kd.R_base ho0) hb); replace BK631 := yK BK631 hb; replace BK637 := yK BK637 hb; replace HB := yS2 HB GE631 GE637 hb; (try clear hb; try clear ho0)))
                       go_loopg [38, 39] kj132 (fun kq v38 v39 w' => ∃ (x38_7 : Int) (x39_7 : Int), v38 = .int .i64 x38_7 ∧ v39 = .int .i64 x39_7 ∧ Aside0 (laws_FnThresholdTables.l0 kq t622 t623 t642 t687 t690 x38_7 x39_7 t626 t629 = some r) ∧ Aside0 (kq ≤ kj132) ∧ Aside0 (Kd.R (Kd.int .i64) 3 w' w.heap.size (fun k_ => some k_ ≠ (v688 : Value).ownBlock ∧ some k_ ≠ ((.slice Ao22 t626.length co22) : Value).ownBlock) (.slice Ao19 t623.length co19) t623) ∧ Aside0 (Kd.R (Kd.int .i64) 3 w' w.heap.size (fun k_ => some k_ ≠ ((.slice Ao19 t623.length co19) : Value).ownBlock ∧ some k_ ≠ ((.slice Ao22 t626.length co22) : Value).ownBlock) v688 t687) ∧ Aside0 (Kd.R (Kd.int .i64) 3 w' w.heap.size (fun k_ => some k_ ≠ ((.slice Ao19 t623.length co19) : Value).ownBlock ∧ some k_ ≠ (v688 : Value).ownBlock) (.slice Ao22 t626.length co22) t626) ∧ Aside0 (Kd.V (Kd.int .i64) 3 w' w.heap.size (fun k_ => some k_ ≠ ((.slice Ao19 t623.length co19) : Value).ownBlock ∧ some k_ ≠ (v688 : Value).ownBlock ∧ some k_ ≠ ((.slice Ao22 t626.length co22) : Value).ownBlock ∧ k_ ≠ gb631 ∧ k_ ≠ gb637) (.slice Ao26 t632.length co26) t632) ∧ Aside0 (w'.heap[gb631]? = some (.cells #[(.slice Ao22 t626.length co22), .int .i64 t629] 28 (0, 0))) ∧ Aside0 (w'.heap[gb637]? = some (.cells #[(.slice Ao26 t632.length co26), .int .i64 t635] 28 (0, 0))) ∧ Aside0 (Below w.heap.size w w'))
                       case atStart => exact ⟨(0), (0), yZ, yZ, H', ⟨Nat.le_refl _⟩, ⟨zR (rM HO_4.out (fun _ hk => ⟨hk.2, hk.1⟩))⟩, ⟨zR (rM HO689.out (fun _ hk => ⟨hk.1.2, hk.2⟩))⟩, ⟨xR HO_632000.out⟩, ⟨by (with_reducible repeat (first | apply Kd.V_alloc | apply Kd.V_drewN | apply Kd.V_drew)); exact Kd.V_mono HO_638000.out (fun _ hk => ⟨hk.1.1, ⟨hk.2, ⟨hk.1.2.1, ⟨hk.1.2.2.1, hk.1.2.2.2⟩⟩⟩⟩)⟩, ⟨xB BK631.out⟩, ⟨xB BK637.out⟩, ⟨xG2 HB.out GE631.out GE637.out⟩⟩
                       case round =>
                        as_aux_lemma =>
                         clear H'
                         try clear c148; try clear hcz151_0; try clear hcz151_1; try clear hfz151_0; try clear hfz151_1
                         obtain ⟨x38_7, x39_7, rfl, rfl, HA, HK7, HO_4, HO_36, HO_632000, HO_638000, BK631, BK637, HB⟩ := hrel
                         cases gk with
                         | zero => exact absurd HA.out (by simp [laws_FnThresholdTables.l0])
                         | succ k7 =>
                          have H := HA.out
                          clear HA
                          simp only [laws_FnThresholdTables.l0] at H
                          obtain ⟨-, c153b0, H⟩ | ⟨-, c153b0, H⟩ := yif H
                          rotate_left
                          ·
                           by_cases c161 : t690 = true
                           rotate_left
                           ·
                            replace c161 := Bool.eq_false_iff.mpr c161
                            subst c161
                            rw [if_neg (show ¬ (false = true) by decide)] at H
                            exact absurd H (by simp)
                           subst c161
                           rw [if_pos rfl] at H
                           replace H := oB.mp H
                           obtain ⟨t694, A1620, H⟩ := H
                           have A162 := aM A1620
                           clear A1620
                           by_cases c163 : t694 = true
                           rotate_left
                           ·
                            replace c163 := Bool.eq_false_iff.mpr c163
                            subst c163
                            rw [if_neg (show ¬ (false = true) by decide)] at H
                            exact absurd H (by simp)
                           subst c163
                           rw [if_pos rfl] at H
                           obtain rfl := Option.some.inj H
                           obtain ⟨Ao164, co164, eo164⟩ := Kd.R_slice HO_36.out
                           subst eo164
                           go_wp2_with (first | (go_at_call 22; (with_reducible refine (laws_vInts.calls k7 _ _ t687 _ _ t623 true _ (xC (Kd.R_reads' HO_36.out).2.2) ((Kd.R_reads' HO_36.out).2.1) (xC (Kd.R_reads' HO_4.out).2.2) ((Kd.R_reads' HO_4.out).2.1) A162.out).mono ?_); rintro e w' ⟨rfl, ⟨nd, rfl⟩⟩))
                           go_ret
                           exact ⟨yF, xG2 HB.out GE631.out GE637.out⟩
                          obtain ⟨-, c154b0, H⟩ | ⟨c154, -, H⟩ := yif H
                          rotate_left
                          · exact absurd H (by simp)
                          obtain ⟨-, c155b0, H⟩ | ⟨c155, -, H⟩ := yif H
                          rotate_left
                          · exact absurd H (by simp)
                          obtain ⟨-, c156b0, H⟩ | ⟨-, c156b0, H⟩ := yif H
                          rotate_left
                          ·
                           have H' := aM H
                           clear H
                           have hnb159 := NB631_637.out
                           have hnc159 := NB637_631.out
                           have hcz160_0 : wr.cell? ⟨gb631, 0, none⟩ = some (.slice Ao22 t626.length co22) := (bC BK631.out 0).trans rfl
                           have hcz160_1 : wr.cell? ⟨gb631, 1, none⟩ = some (.int .i64 t629) := (bC BK631.out 1).trans rfl
                           have hfz160_0 := bF BK631.out 0
                           have hfz160_1 := bF BK631.out 1
                           obtain ⟨ad691, e691, hx691_0, p691, q691⟩ := yi (Kd.R_reads' HO_632000.out).2.2 x39_7
                           cases e691
                           obtain ⟨ad693, e693, hx693_0, p693, q693⟩ := yi (Kd.R_reads' HO_632000.out).2.2 x39_7
                           obtain rfl : ad691 = ad693 := (by injection e693)
                           go_wp2
                           go_roundg k7
                           case measure => have := HJ16.out; have := HJ111.out; have := HJ113.out; have := HJ120.out; have := HJ125.out; have := HJ132.out; have := HK7.out; omega
                           case rel => exact ⟨(wrap64 (x38_7 + (rd t626 x39_7))), (wrap64 (x39_7 + 1)), yZ, yZ, H', ⟨by have := HJ16.out; have := HJ111.out; have := HJ113.out; have := HJ120.out; have := HJ125.out; have := HJ132.out; have := HK7.out; omega⟩, ⟨xR HO_4.out⟩, ⟨xR HO_36.out⟩, ⟨xR HO_632000.out⟩, ⟨xV HO_638000.out⟩, ⟨xB BK631.out⟩, ⟨xB BK637.out⟩, ⟨xG2 HB.out GE631.out GE637.out⟩⟩
                          have H' := aM H
                          clear H
                          have hnb157 := NB631_637.out
                          have hnc157 := NB637_631.out
                          have hcz158_0 : wr.cell? ⟨gb631, 0, none⟩ = some (.slice Ao22 t626.length co22) := (bC BK631.out 0).trans rfl
                          have hcz158_1 : wr.cell? ⟨gb631, 1, none⟩ = some (.int .i64 t629) := (bC BK631.out 1).trans rfl
                          have hfz158_0 := bF BK631.out 0
                          have hfz158_1 := bF BK631.out 1
                          obtain ⟨ad691, e691, hx691_0, p691, q691⟩ := yi (Kd.R_reads' HO_632000.out).2.2 x39_7
                          cases e691
                          obtain ⟨ad692, e692, hx692_0, p692, q692⟩ := yi (Kd.R_reads' HO_632000.out).2.2 x39_7
                          obtain rfl : ad691 = ad692 := (by injection e692)
                          go_wp2
                          go_roundg k7
                          case measure => have := HJ16.out; have := HJ111.out; have := HJ113.out; have := HJ120.out; have := HJ125.out; have := HJ132.out; have := HK7.out; omega
                          case rel => exact ⟨(wrap64 (x38_7 - (rd t626 x39_7))), (wrap64 (x39_7 + 1)), yZ, yZ, H', ⟨by have := HJ16.out; have := HJ111.out; have := HJ113.out; have := HJ120.out; have := HJ125.out; have := HJ132.out; have := HK7.out; omega⟩, ⟨xR HO_4.out⟩, ⟨xR HO_36.out⟩, ⟨xR HO_632000.out⟩, ⟨xV HO_638000.out⟩, ⟨xB BK631.out⟩, ⟨xB BK637.out⟩, ⟨xG2 HB.out GE631.out GE637.out⟩⟩
theorem laws_FnThresholdTables.walk (P : laws_FnThresholdTables.Pure) (a0 : Option Addr) (len0 cap0 : Nat) (z0 : List Int) (w : World) (w0 : (a0 = none ∧ len0 = 0 ∧ cap0 = 0 ∧ z0 = []) ∨ ∃ x, a0 = some x ∧ len0 ≤ cap0 ∧ cap0 ≤ maxLen ∧ z0.length = cap0 ∧ (∀ i, i < z0.length → w.cell? (x.add i) = some (.int .u8 (z0.getD i 0))) ∧ ∀ n ∈ z0, (Lit.int .u8 n).wf = true) (y0 : len0 * 1 ≤ 140737488351232) :
  Calls Try.prog 3 #[.slice a0 len0 cap0] w fun e w' => e = .returned (.bool true) ∧ Below w.heap.size w w' := by
 obtain ⟨l0, rfl, hr0, hm0, hw0, hc0⟩ := ReadsInt.ofRowC w0
 obtain ⟨k, h⟩ := P l0 hm0 y0 hw0
 refine (laws_FnThresholdTables.calls k _ _ l0 true w (Kd.C_of_reads (d := (0 : Int)) (h1 := fun _ => rfl) hr0) hc0 h).mono ?_
 rintro e w' ⟨rfl, hd⟩
 exact ⟨rfl, hd⟩
end Go.Proofs.Ytmfmgnpefjmieaa.PFnThresholdTables
