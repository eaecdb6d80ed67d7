-- Laid for this claim by a program of the session's own (wip/tool/myprint.py).
import Derived.Test.YtmfmgnpefjmieaaMFnThresholdTablesx5
namespace Go.Proofs.Ytmfmgnpefjmieaa.PFnThresholdTables
open Go.RowKit Go.Proofs.YtmfmgnpefjmieaaW.PrintWords Go.Proofs.YtmfmgnpefjmieaaW.PrintLast Go.Proofs.YtmfmgnpefjmieaaW.PrintMore
attribute [local go_sem] max2_int min2_int max_two min_two max_three min_three max_four min_four
set_option linter.unusedVariables false
set_option maxHeartbeats 8000000
set_option maxRecDepth 100000
set_option linter.unusedSimpArgs false
mutual
def impl_TableSample.j0 : Nat → Int → List Int → Bool → Option ((List (List Int)) × List Int × Bool)
  | 0, _, _, _ => none
  | k + 1, x0, x1, x16 => if x16 = true then (some (([] : List (List Int)), ([] : List Int), false)) else (impl_TableSample.l0 k x0 x1 (x1.length : Int) 0 ([] : List (List Int)) ([] : List Int))
def impl_TableSample.l0 : Nat → Int → List Int → Int → Int → List (List Int) → List Int → Option ((List (List Int)) × List Int × Bool)
  | 0, _, _, _, _, _, _ => none
  | k + 1, x0, x19, x20, x21, x509000, x509001 => if x21 < x20 then (if 0 ≤ x21 then (if x21 < (x19.length : Int) then ((impl_bitPoint.f k x0 x21).bind fun t510 => ((some (([t510] : List (List Int)) : List (List Int))).bind fun y513 => (if x509000.length + y513.length < 5864062014805 then ((some (([wrap64 ((wrap64 (2 * (rd x19 x21))) - 1)] : List Int) : List Int)).bind fun y519 => (if x509001.length + y519.length < 17592186044416 then (impl_TableSample.l0 k x0 x19 x20 (wrap64 (x21 + 1)) (x509000 ++ y513) (x509001 ++ y519)) else (none))) else (none)))) else (none)) else (none)) else (some (x509000, x509001, true))
end
def impl_TableSample.f (k : Nat) (a0 : Int) (l1 : List Int) : Option ((List (List Int)) × List Int × Bool) := if a0 = 0 then (impl_TableSample.j0 k a0 l1 true) else ((impl_isTable.f k a0 l1).bind fun t507 => (impl_TableSample.j0 k a0 l1 (!t507)))
def impl_TableSample.T7 : Bool × List (List Nat × List Nat) := (true, [([], []), ([0], [0]), ([], []), ([], []), ([2, 3], [2, 3]), ([4], [4]), ([1, 5, 4], [1, 5]), ([], []), ([7], [7]), ([], []), ([9], [9]), ([10], [10]), ([11], [11]), ([8, 12, 6], [8, 12]), ([0, 1, 2, 3, 4, 5, 6, 7, 8], []), ([14, 6, 13, 0, 1, 2, 3, 4, 5, 6, 7, 8], [6, 14]), ([0, 1, 2, 3, 4, 5, 6, 7, 8, 9, 10, 11, 12, 13, 14, 15], []), ([16, 13, 15, 0, 1, 2, 3, 4, 5, 6, 7, 8, 9, 10, 11, 12, 13, 14, 15], [13, 16])])
def impl_TableSample.B7 : List Nat := [0, 1, 0, 0, 12, 28, 63, 0, 128, 0, 512, 1536, 3584, 8191, 511, 32767, 65535, 131071]
theorem impl_TableSample.tab7 : rtab .any (opsOf Try.f25 7) = impl_TableSample.T7 := by kernel_rfl
theorem impl_TableSample.bits7 : waitsOk impl_TableSample.T7.2 impl_TableSample.B7 = true := by kernel_rfl
theorem impl_TableSample.calls (k : Nat) (a0 : Int) (A1 : Option Addr) (c1 : Nat) (l1 : List Int) (r1 : List (List Int)) (r2 : List Int) (r3 : Bool) (w : World) (hr1 : Kd.C (Kd.int .i64) w A1 l1.length l1) (hc1 : l1.length ≤ c1) (h : impl_TableSample.f k a0 l1 = some (r1, r2, r3)) :
    Calls Try.prog 25 #[.int .i64 a0, .slice A1 l1.length c1] w fun e w' => ∃ v0_ v1_ : Value, e = .returned (.tuple #[.agg #[v0_, v1_], .bool r3]) ∧ Kd.N (Kd.slice 3 (Kd.int .i64)) 24 w' w.heap.size (fun k_ => (w.heap.size ≤ k_) ∧ some k_ ≠ (v1_ : Value).ownBlock) v0_ r1 ∧ Kd.R (Kd.int .i64) 3 w' w.heap.size (fun k_ => (w.heap.size ≤ k_)) v1_ r2 ∧ Below w.heap.size w w' := by
 have hu46 := Try.underlying46
 have HR1 := aM hr1
 have HC1 := aM hc1
 clear hr1 hc1
 have HB := aM (Below.refl w.heap.size w)
 have H : (if a0 = 0 then (impl_TableSample.j0 k a0 l1 true) else ((impl_isTable.f k a0 l1).bind fun t507 => (impl_TableSample.j0 k a0 l1 (!t507)))) = some (r1, r2, r3) := h
 clear h
 have HC3 := aM H
 clear H
 go_enter Try.func25, Try.ntmps25
 go_upto_region 1 with (first | (refine yB 4 #[.slice none 0 0, .slice none 0 0] 46 ?_; intro gb506 hg w4 hbox hb; have BK506 := aM (hbox); have GW506 := yV0 hg HB; have GE506 := yV0 hg HB; replace HB := yS0 HB hb; clear hb hbox hg))
 (try simp only [Act.put, sA, sZ, sU])
 go_cut [16] (fun v16 wc => ∃ (kq : Nat) (x16_2 : Bool), v16 = .bool x16_2 ∧ Aside0 (impl_TableSample.j0 kq a0 l1 x16_2 = some (r1, r2, r3)) ∧ Aside0 (kq ≤ k) ∧ Aside0 (wc.heap[gb506]? = some (.cells #[(.slice none 0 0), (.slice none 0 0)] 46 (0, 0))) ∧ Aside0 (Below w.heap.size w wc))
 case first =>
  have H := HC3.out
  clear HC3
  obtain ⟨c5, -, H⟩ | ⟨c5, -, H⟩ := yif H
  ·
   have c5b0 : (a0 == 0) = true := beq_iff_eq.mpr c5
   have c5b1 : (a0 != 0) = false := bne_eq_false_iff_eq.mpr c5
   clear c5
   (first | rw [c5b0] | (simp only [i64_w, i32_w]; rw [c5b0]) | rw [c5b1] | skip)
   have H' := aM H
   clear H
   go_wp2
   go_meet
   case rel => exact ⟨_, (true), yZ, H', ⟨yM⟩, ⟨xB BK506.out⟩, ⟨xG1 HB.out GE506.out⟩⟩
  have c5b0 : (a0 == 0) = false := beq_eq_false_iff_ne.mpr c5
  have c5b1 : (a0 != 0) = true := bne_iff_ne.mpr c5
  (first | rw [c5b0] | (simp only [i64_w, i32_w]; rw [c5b0]) | rw [c5b1] | skip)
  replace H := oB.mp H
  obtain ⟨t507, A60, H⟩ := H
  have A6 := aM A60
  clear A60
  have H' := aM H
  clear H
  go_wp2_with (first | (go_at_call 74; (with_reducible refine (impl_isTable.calls k a0 _ _ l1 t507 _ (xC (Kd.C_below HR1.out HB.out)) HC1.out A6.out).mono ?_); rintro e w' ⟨rfl, ⟨nd, rfl⟩⟩))
  go_meet
  case rel => exact ⟨_, (!t507), yZ, H', ⟨yM⟩, ⟨xB BK506.out⟩, ⟨xG1 HB.out GE506.out⟩⟩
 case rest =>
  clear HC3
  try clear c1
  try clear c5
  try clear c5b0
  try clear c5b1
  obtain ⟨kq, x16_2, rfl, HA, HJ2, BK506, HB⟩ := hcut
  cases kq with
  | zero => exact absurd HA.out (by simp [impl_TableSample.j0])
  | succ kj2 =>
   have H := HA.out
   clear HA
   simp only [impl_TableSample.j0] at H
   by_cases c7 : x16_2 = true
   ·
    subst c7
    rw [if_pos rfl] at H
    simp only [Option.some.injEq, Prod.mk.injEq] at H
    obtain ⟨rfl, rfl, rfl⟩ := H
    have hcz8_0 : wc.cell? ⟨gb506, 0, none⟩ = some (.slice none 0 0) := (bC BK506.out 0).trans rfl
    have hcz8_1 : wc.cell? ⟨gb506, 1, none⟩ = some (.slice none 0 0) := (bC BK506.out 1).trans rfl
    have hfz8_0 := bF BK506.out 0
    have hfz8_1 := bF BK506.out 1
    go_wp2
    refine bodyPost_ret (results_ct rfl _ _ gb506 46 #[.slice none 0 0, .slice none 0 0] (0, 0) _ rfl (by (with_reducible repeat (first | refine bN ?_ _ | refine bD ?_ | refine bA ?_ _)); refine blk_put (cs := #[.slice none 0 0, .slice none 0 0]) ?_ 1 _ rfl; (with_reducible repeat (first | refine bN ?_ _ | refine bD ?_ | refine bA ?_ _)); refine blk_put (cs := #[.slice none 0 0, .slice none 0 0]) ?_ 0 _ rfl; (with_reducible repeat (first | refine bN ?_ _ | refine bD ?_ | refine bA ?_ _)); exact BK506.out) Try.underlying46 rfl (by kernel_rfl)) rfl ?_
    exact ⟨_, _, yF, by first | exact Kd.S_nil _ _ _ _ _ | exact Kd.N_nil _ _ _ _ _ | exact Kd.V_nil _ _ _ _ _ | exact Kd.Q_nil _ _ _ _ _ | exact Kd.R_nil _ _ _ _ _, yNi, xG1 HB.out GE506.out⟩
   replace c7 := Bool.eq_false_iff.mpr c7
   subst c7
   rw [if_neg (show ¬ (false = true) by decide)] at H
   have H' := aM H
   clear H
   go_wp2_with (first | (refine yB 6 #[.slice none 0 0, .slice none 0 0] 46 ?_; intro gb508 hg w9 hbox hb; have BK508 := aM (hbox); have GW508 := yV1 hg HB GE506; have GE508 := yV1 hg HB GE506; replace HB := yS1 HB GE506 hb; have NB506_508 := yX hg BK506; have NB508_506 := yY NB506_508; replace BK506 := yK BK506 hb; clear hb hbox hg; have hnb10 := NB508_506.out; have hnc10 := NB506_508.out; obtain ⟨hcz11_0, hcz11_1, hfz11_0, hfz11_1⟩ := yD2 BK508))
   go_loopg [21] kj2 (fun kq v21 w' => ∃ (x21_2 : Int) (x509000_2 : List (List Int)) (x509001_2 : List Int) (u509000 : Value) (u509001 : Value), v21 = .int .i64 x21_2 ∧ Aside0 (impl_TableSample.l0 kq a0 l1 (l1.length : Int) x21_2 x509000_2 x509001_2 = some (r1, r2, r3)) ∧ Aside0 (kq ≤ kj2) ∧ Aside0 (Kd.N (Kd.slice 3 (Kd.int .i64)) 24 w' w.heap.size (fun k_ => (w.heap.size ≤ k_) ∧ some k_ ≠ (u509001 : Value).ownBlock ∧ k_ ≠ gb506 ∧ k_ ≠ gb508) u509000 x509000_2) ∧ Aside0 (Kd.R (Kd.int .i64) 3 w' w.heap.size (fun k_ => (w.heap.size ≤ k_)) u509001 x509001_2) ∧ Aside0 (w'.heap[gb506]? = some (.cells #[(.slice none 0 0), (.slice none 0 0)] 46 (0, 0))) ∧ Aside0 (w'.heap[gb508]? = some (.cells #[u509000, u509001] 46 (0, 0))) ∧ Aside0 (Below w.heap.size w w'))
   case atStart => exact ⟨(0), (([] : List (List Int))), (([] : List Int)), (.slice none 0 0), (.slice none 0 0), yZ, H', ⟨Nat.le_refl _⟩, ⟨by first | exact Kd.S_nil _ _ _ _ _ | exact Kd.N_nil _ _ _ _ _ | exact Kd.V_nil _ _ _ _ _ | exact Kd.Q_nil _ _ _ _ _ | exact Kd.R_nil _ _ _ _ _⟩, ⟨yNi⟩, ⟨by (with_reducible repeat (first | refine bN ?_ _ | refine bD ?_ | refine bA ?_ _)); refine blk_far ?_ NB506_508.out _; (with_reducible repeat (first | refine bN ?_ _ | refine bD ?_ | refine bA ?_ _)); refine blk_far ?_ NB506_508.out _; (with_reducible repeat (first | refine bN ?_ _ | refine bD ?_ | refine bA ?_ _)); exact BK506.out⟩, ⟨by (with_reducible repeat (first | refine bN ?_ _ | refine bD ?_ | refine bA ?_ _)); refine blk_put (cs := #[.slice none 0 0, .slice none 0 0]) ?_ 1 _ rfl; (with_reducible repeat (first | refine bN ?_ _ | refine bD ?_ | refine bA ?_ _)); refine blk_put (cs := #[.slice none 0 0, .slice none 0 0]) ?_ 0 _ rfl; (with_reducible repeat (first | refine bN ?_ _ | refine bD ?_ | refine bA ?_ _)); exact BK508.out⟩, ⟨xG2 HB.out GE506.out GE508.out⟩⟩
   case round =>
    clear H'
    try clear c7
    try clear hcz11_0
    try clear hcz11_1
    try clear hcz8_0
    try clear hcz8_1
    try clear hfz11_0
    try clear hfz11_1
    try clear hfz8_0
    try clear hfz8_1
    obtain ⟨x21_2, x509000_2, x509001_2, u509000, u509001, rfl, HA, HK2, HO_509000, HO_509001, BK506, BK508, HB⟩ := hrel
    cases gk with
    | zero => exact absurd HA.out (by simp [impl_TableSample.l0])
    | succ k2 =>
     have H := HA.out
     clear HA
     simp only [impl_TableSample.l0] at H
     obtain ⟨-, c12b0, H⟩ | ⟨-, c12b0, H⟩ := yif H
     rotate_left
     ·
      simp only [Option.some.injEq, Prod.mk.injEq] at H
      obtain ⟨rfl, rfl, rfl⟩ := H
      have hnb36 := NB508_506.out
      have hnc36 := NB506_508.out
      have hcz37_0 : wr.cell? ⟨gb508, 0, none⟩ = some (u509000) := (bC BK508.out 0).trans rfl
      have hcz37_1 : wr.cell? ⟨gb508, 1, none⟩ = some (u509001) := (bC BK508.out 1).trans rfl
      have hfz37_0 := bF BK508.out 0
      have hfz37_1 := bF BK508.out 1
      obtain ⟨Ao38, co38, eo38⟩ := Kd.N_slice HO_509000.out
      subst eo38
      have hcz39_0 : wr.cell? ⟨gb506, 0, none⟩ = some (.slice none 0 0) := (bC BK506.out 0).trans rfl
      have hcz39_1 : wr.cell? ⟨gb506, 1, none⟩ = some (.slice none 0 0) := (bC BK506.out 1).trans rfl
      have hfz39_0 := bF BK506.out 0
      have hfz39_1 := bF BK506.out 1
      obtain ⟨Ao40, co40, eo40⟩ := Kd.R_slice HO_509001.out
      subst eo40
      go_wp2
      refine bodyPost_ret (results_ct rfl _ _ gb506 46 #[.slice Ao38 x509000_2.length co38, .slice Ao40 x509001_2.length co40] (0, 0) _ rfl (by (with_reducible repeat (first | refine bN ?_ _ | refine bD ?_ | refine bA ?_ _)); refine blk_put (cs := #[.slice Ao38 x509000_2.length co38, .slice none 0 0]) ?_ 1 _ rfl; (with_reducible repeat (first | refine bN ?_ _ | refine bD ?_ | refine bA ?_ _)); refine blk_put (cs := #[.slice none 0 0, .slice none 0 0]) ?_ 0 _ rfl; (with_reducible repeat (first | refine bN ?_ _ | refine bD ?_ | refine bA ?_ _)); exact BK506.out) Try.underlying46 rfl (by kernel_rfl)) rfl ?_
      exact ⟨_, _, yF, zN (Kd.N_mono (Kd.N_far (p := ⟨gb506, 1, none⟩) (Kd.N_far (p := ⟨gb506, 0, none⟩) (Kd.N_mono HO_509000.out (fun k_ hk => (⟨hk, hk.2.2.1⟩ : _ ∧ k_ ≠ gb506))) (fun _ hk => hk.2) (.slice Ao38 x509000_2.length co38)) (fun _ hk => hk.2) (.slice Ao40 x509001_2.length co40)) (fun _ hk => ⟨hk.1.1, hk.1.2.1⟩)), zR (rM (Kd.R_far (p := ⟨gb506, 1, none⟩) (Kd.R_far (p := ⟨gb506, 0, none⟩) (Kd.R_types HO_509001.out BK506.out (by decide)) (fun _ hk => hk.2) (.slice Ao38 x509000_2.length co38)) (fun _ hk => hk.2) (.slice Ao40 x509001_2.length co40)) (fun _ hk => hk.1)), xG2 HB.out GE506.out GE508.out⟩
     obtain ⟨-, c13b0, H⟩ | ⟨c13, -, H⟩ := yif H
     rotate_left
     · exact absurd H (by simp)
     obtain ⟨-, c14b0, H⟩ | ⟨c14, -, H⟩ := yif H
     rotate_left
     · exact absurd H (by simp)
     replace H := oB.mp H
     obtain ⟨t510, A150, H⟩ := H
     have A15 := aM A150
     clear A150
     obtain ⟨y513, hy513⟩ := yE (([t510] : List (List Int)) : List (List Int))
     replace H : (if x509000_2.length + y513.length < 5864062014805 then ((some (([wrap64 ((wrap64 (2 * (rd l1 x21_2))) - 1)] : List Int) : List Int)).bind fun y519 => (if x509001_2.length + y519.length < 17592186044416 then (impl_TableSample.l0 k2 a0 l1 (l1.length : Int) (wrap64 (x21_2 + 1)) (x509000_2 ++ y513) (x509001_2 ++ y519)) else (none))) else (none)) = some (r1, r2, r3) := yI hy513 H
     have Ny513 := aM hy513
     clear hy513
     obtain ⟨c16, -, H⟩ | ⟨c16, -, H⟩ := yif H
     rotate_left
     · exact absurd H (by simp)
     have LMc16 := aM c16
     clear c16
     obtain ⟨y516, hy516⟩ := yE (x509000_2 ++ y513 : List (List Int))
     replace H : ((some (([wrap64 ((wrap64 (2 * (rd l1 x21_2))) - 1)] : List Int) : List Int)).bind fun y519 => (if x509001_2.length + y519.length < 17592186044416 then (impl_TableSample.l0 k2 a0 l1 (l1.length : Int) (wrap64 (x21_2 + 1)) y516 (x509001_2 ++ y519)) else (none))) = some (r1, r2, r3) := yI hy516 H
     have Ny516 := aM hy516
     clear hy516
     obtain ⟨y519, hy519⟩ := yE (([wrap64 ((wrap64 (2 * (rd l1 x21_2))) - 1)] : List Int) : List Int)
     replace H : (if x509001_2.length + y519.length < 17592186044416 then (impl_TableSample.l0 k2 a0 l1 (l1.length : Int) (wrap64 (x21_2 + 1)) y516 (x509001_2 ++ y519)) else (none)) = some (r1, r2, r3) := yI hy519 H
     have Ny519 := aM hy519
     clear hy519
     obtain ⟨c17, -, H⟩ | ⟨c17, -, H⟩ := yif H
     rotate_left
     · exact absurd H (by simp)
     have LMc17 := aM c17
     clear c17
     obtain ⟨y522, hy522⟩ := yE (x509001_2 ++ y519 : List Int)
     replace H : (impl_TableSample.l0 k2 a0 l1 (l1.length : Int) (wrap64 (x21_2 + 1)) y516 y522) = some (r1, r2, r3) := yI hy522 H
     have Ny522 := aM hy522
     clear hy522
     have H' := aM H
     clear H
     obtain ⟨ad509, e509, hx509_0, p509, q509⟩ := yi HR1.out x21_2
     cases e509
     replace hx509_0 := yc HB hx509_0
     obtain ⟨Ao18, co18, eo18⟩ := Kd.N_slice HO_509000.out
     subst eo18
     obtain ⟨Ao19, co19, eo19⟩ := Kd.R_slice HO_509001.out
     subst eo19
     try go_wp2
     replace HO_509000 := aM (Kd.N_drew HO_509000.out)
     replace HO_509001 := aM (rD HO_509001.out)
     replace BK506 := aM (bD BK506.out)
     replace BK508 := aM (bD BK508.out)
     replace HB := aM (eD HB.out)
     refine start_ (n := 18) (S := fun w' => w'.cell? ⟨gb508, 0, none⟩ = some (.slice Ao18 x509000_2.length co18) ∧ w'.cell? ⟨gb508, 1, none⟩ = some (.slice Ao19 x509001_2.length co19)) (ds := [15, 17]) (bm 18 0) (by kernel_rfl) rfl rfl ⟨(bC BK508.out 0).trans rfl, (bC BK508.out 1).trans rfl⟩ (fun hHeld => ?_); refine with_tabW impl_TableSample.tab7 impl_TableSample.bits7 (fun HT_ HW_ => ?_)
     generalize wr.drew = w20 at HO_509000 HO_509001 BK506 BK508 HB hHeld ⊢
     refine yP 0 26 (bm 18 1) HT_ ?_
     refine yP 2 28 (bm 18 5) HT_ ?_
     refine yP 3 29 (bm 18 13) HT_ ?_
     refine yP 7 33 (bm 18 141) HT_ ?_
     refine yP 9 35 (bm 18 653) HT_ ?_
     refine yP 10 36 (bm 18 1677) HT_ ?_
     refine yP 11 37 (bm 18 3725) HT_ ?_
     refine yT2 1 27 (bm 18 3727) HT_ HW_ hHeld ?_
     refine yT2 8 34 (bm 18 3983) HT_ HW_ hHeld ?_
     refine join_ (σ := Value × Value × Value × Value) 4 (bm 18 24575) (fun s_ => [(30, s_.1), (31, s_.2.1), (32, s_.2.2.1), (38, s_.2.2.2), (40, .pointer (some ⟨gb508, 0, none⟩))]) (fun s_ w' => (w'.cell? ⟨gb508, 0, none⟩ = some (.slice Ao18 x509000_2.length co18) ∧ w'.cell? ⟨gb508, 1, none⟩ = some (.slice Ao19 x509001_2.length co19)) ∧ (Kd.N (Kd.slice 3 (Kd.int .i64)) 24 w' w.heap.size (fun k_ => (w.heap.size ≤ k_) ∧ some k_ ≠ (s_.2.2.1 : Value).ownBlock ∧ some k_ ≠ (s_.2.2.2 : Value).ownBlock ∧ some k_ ≠ (.slice Ao19 x509001_2.length co19 : Value).ownBlock ∧ k_ ≠ gb506 ∧ k_ ≠ gb508) s_.2.1 y513) ∧ (Kd.N (Kd.slice 3 (Kd.int .i64)) 24 w' w.heap.size (fun k_ => (w.heap.size ≤ k_) ∧ some k_ ≠ (s_.2.2.2 : Value).ownBlock ∧ some k_ ≠ (.slice Ao19 x509001_2.length co19 : Value).ownBlock ∧ k_ ≠ gb506 ∧ k_ ≠ gb508) s_.2.2.1 y516) ∧ (Kd.R (Kd.int .i64) 3 w' w.heap.size (fun k_ => (w.heap.size ≤ k_) ∧ some k_ ≠ (.slice Ao19 x509001_2.length co19 : Value).ownBlock) s_.2.2.2 y519) ∧ (Kd.R (Kd.int .i64) 3 w' w.heap.size (fun k_ => (w.heap.size ≤ k_) ∧ some k_ ≠ (s_.2.2.2 : Value).ownBlock) (.slice Ao19 x509001_2.length co19) x509001_2) ∧ (w'.heap[gb506]? = some (.cells #[.slice none 0 0, .slice none 0 0] 46 (0, 0))) ∧ (w'.heap[gb508]? = some (.cells #[.slice Ao18 x509000_2.length co18, .slice Ao19 x509001_2.length co19] 46 (0, 0))) ∧ (Below w.heap.size w w')) ?_ ?_
     rotate_left
     ·
      intro hCont
      refine two_ (i := 4) (j := 12) (Ni := some 30) (Nj := some 38) (bm 18 3999) (bm 18 8079) rfl rfl rfl rfl (two_of HT_.out (by kernel_rfl)) (by decide) (by decide) (fun K hK => ?_) (fun K hK => ?_)
      ·
       skip
       refine yG Try.func90 #[.int .i64 a0, .int .i64 x21_2] ?_
       with_reducible refine (impl_bitPoint.calls k2 a0 x21_2 t510 _ A15.out).mono ?_
       rintro e w21 ⟨v511, rfl, ho0, hb⟩
       refine ⟨_, rfl, ?_⟩
       replace HO_509000 := aM (Kd.N_elder' (xN HO_509000.out) (Kd.R_base ho0) hb)
       have HO512 := aM (Kd.R_lower (Kd.R_new' (Kd.R_newM (M := fun k_ => (w.heap.size ≤ k_)) ho0 (below_size (xG2 HB.out GE506.out GE508.out)) (fun k_ h_ => h_)) (Kd.R_lt (xR HO_509001.out))) (below_size (xG2 HB.out GE506.out GE508.out)))
       replace HO_509001 := aM (Kd.R_elder' (xR HO_509001.out) (Kd.R_base ho0) hb)
       replace BK506 := yK BK506 hb
       replace BK508 := yK BK508 hb
       replace HB := yS2 HB GE506 GE508 hb
       (try clear hb)
       (try clear hb2)
       (try clear hk)
       (try clear hi)
       (try clear ho0)
       obtain ⟨Ao22, co22, eo22⟩ := Kd.R_slice HO512.out
       (first | subst eo22 | (injection eo22 with f1_ f2_ f3_; have f4_ := f1_.symm; have f5_ := f3_.symm; clear f1_ f2_ f3_; subst f4_; subst f5_))
       refine hK.out _ _ ⟨(bC BK508.out 0).trans rfl, (bC BK508.out 1).trans rfl⟩ (fun hHeld => ?_)
       clear hK K
       refine norm_ (a' := ?_) ?_ ?_
       rotate_left
       ·
        show Act.put _ (some 30) _ = _
        simp only [Act.put, sA, sZ, sU, i64_w, i32_w]
        rfl
       refine two_ (i := 5) (j := 12) (Ni := some 31) (Nj := some 38) (bm 18 4031) (bm 18 8095) rfl rfl rfl rfl (two_of HT_.out (by kernel_rfl)) (by decide) (by decide) (fun K hK => ?_) (fun K hK => ?_)
       ·
        skip
        refine Kd.N_lit_step (Kd.slice 3 (Kd.int .i64)) _ 24 ?hg (N' := 31) ?hd (xs := ([t510] : List (List Int))) (inner := [.slice Ao22 t510.length co22]) (ok := (fun k_ => (w.heap.size ≤ k_) ∧ some k_ ≠ (.slice Ao18 x509000_2.length co18 : Value).ownBlock ∧ some k_ ≠ (.slice Ao19 x509001_2.length co19 : Value).ownBlock ∧ k_ ≠ gb506 ∧ k_ ≠ gb508)) (okp := (fun k_ => (w.heap.size ≤ k_) ∧ some k_ ≠ (.slice Ao18 x509000_2.length co18 : Value).ownBlock ∧ some k_ ≠ (.slice Ao19 x509001_2.length co19 : Value).ownBlock ∧ k_ ≠ gb506 ∧ k_ ≠ gb508)) ?hr ?hp (fun _ hk => hk) ((show ∀ k_, w21.heap.size ≤ k_ → (fun k_ => (w.heap.size ≤ k_) ∧ some k_ ≠ (.slice Ao18 x509000_2.length co18 : Value).ownBlock ∧ some k_ ≠ (.slice Ao19 x509001_2.length co19 : Value).ownBlock ∧ k_ ≠ gb506 ∧ k_ ≠ gb508) k_ from fun k_ hk => ⟨(Nat.le_trans (below_size (xG2 HB.out GE506.out GE508.out)) hk), Kd.fresh' (Kd.N_lt (xN HO_509000.out)) k_ hk, Kd.fresh' (Kd.R_lt (xR HO_509001.out)) k_ hk, Kd.freshB (g := gb506) (o := .cells #[.slice none 0 0, .slice none 0 0] 46 (0, 0)) (xB BK506.out) k_ hk, Kd.freshB (g := gb508) (o := .cells #[.slice Ao18 x509000_2.length co18, .slice Ao19 x509001_2.length co19] 46 (0, 0)) (xB BK508.out) k_ hk⟩) _ (Nat.le_refl _)) (Below.refl _ _) (Nat.le_refl _) (by simp) ?_; (case hd => rfl); (case hg => rfl); (case hr => first | (go_simp; done) | (go_simp; rfl)); (case hp => exact (Reps.one (show Kd.FK (Kd.slice 3 (Kd.int .i64)) _ _ t510 [.slice Ao22 t510.length co22] from (Kd.FK_slice_mk (Kd.R_reads' (rM (ok' := (fun k_ => (w.heap.size ≤ k_) ∧ some k_ ≠ (.slice Ao18 x509000_2.length co18 : Value).ownBlock ∧ some k_ ≠ (.slice Ao19 x509001_2.length co19 : Value).ownBlock ∧ k_ ≠ gb506 ∧ k_ ≠ gb508)) (Kd.R_types (Kd.R_types (Kd.R_apart' (HO512.out) (Kd.N_typed HO_509000.out) (by decide)) BK506.out (by decide)) BK508.out (by decide)) (fun k_ hk => ⟨hk.1.1.1.1.1, ⟨hk.1.1.2, ⟨hk.1.1.1.2, ⟨hk.1.2, hk.2⟩⟩⟩⟩))).2.1 (Kd.R_F (rM (ok' := (fun k_ => (w.heap.size ≤ k_) ∧ some k_ ≠ (.slice Ao18 x509000_2.length co18 : Value).ownBlock ∧ some k_ ≠ (.slice Ao19 x509001_2.length co19 : Value).ownBlock ∧ k_ ≠ gb506 ∧ k_ ≠ gb508)) (Kd.R_types (Kd.R_types (Kd.R_apart' (HO512.out) (Kd.N_typed HO_509000.out) (by decide)) BK506.out (by decide)) BK508.out (by decide)) (fun k_ hk => ⟨hk.1.1.1.1.1, ⟨hk.1.1.2, ⟨hk.1.1.1.2, ⟨hk.1.2, hk.2⟩⟩⟩⟩))))) (Reps.none _ _)))
        intro v514 w23 ho24 hb hg_ hnew_
        clear hg_ hnew_
        (first | rw [← Ny513.out] at ho24 | (simp only [Int.reduceToNat] at ho24; rw [← Ny513.out] at ho24))
        replace HO_509000 := aM (Kd.N_elder' (xN HO_509000.out) (by first | exact Kd.N_base ho24 | exact Kd.S_base ho24 | exact Kd.R_base ho24) hb)
        replace HO_509001 := aM (Kd.R_below (xR HO_509001.out) hb)
        have HO515 := aM (Kd.N_lower ho24 (below_size (xG2 HB.out GE506.out GE508.out)))
        replace BK506 := yK BK506 hb
        replace BK508 := yK BK508 hb
        replace HB := yS2 HB GE506 GE508 hb
        clear HO512
        clear hb ho24
        obtain ⟨Ao26, co26, eo26⟩ := Kd.N_slice HO515.out
        (first | subst eo26 | (injection eo26 with f1_ f2_ f3_; have f4_ := f1_.symm; have f5_ := f3_.symm; clear f1_ f2_ f3_; subst f4_; subst f5_))
        refine hK.out _ _ ⟨(bC BK508.out 0).trans rfl, (bC BK508.out 1).trans rfl⟩ (fun hHeld => ?_)
        clear hK K
        refine norm_ (a' := ?_) ?_ ?_
        rotate_left
        ·
         show Act.put _ (some 31) _ = _
         simp only [Act.put, sA, sZ, sU, i64_w, i32_w]
         rfl
        refine two_ (i := 6) (j := 12) (Ni := some 32) (Nj := some 38) (bm 18 4095) (bm 18 8127) rfl rfl rfl rfl (two_of HT_.out (by kernel_rfl)) (by decide) (by decide) (fun K hK => ?_) (fun K hK => ?_)
        ·
         skip
         refine Kd.N_append_rows_step (Kd.slice 3 (Kd.int .i64)) (w0 := w) w.heap.size (by rfl) (.tmp 27) (.tmp 31) 44 24 (.slice none 0 0) 24 rfl Try.underlying44 info24 rfl (by decide) (by omega) (.slice Ao18 x509000_2.length co18) x509000_2 y513 _ _ _ (fun k_ => (w.heap.size ≤ k_) ∧ some k_ ≠ (.slice Ao19 x509001_2.length co19 : Value).ownBlock ∧ k_ ≠ gb506 ∧ k_ ≠ gb508) (fun k_ => ((fun k_ => (w.heap.size ≤ k_) ∧ some k_ ≠ (.slice Ao19 x509001_2.length co19 : Value).ownBlock ∧ k_ ≠ gb506 ∧ k_ ≠ gb508)) k_ ∧ some k_ ≠ (.slice Ao18 x509000_2.length co18 : Value).ownBlock) rfl rfl ?aO ?aR (fun _ hk => hk) ?aF ?aB ?aS ?aL ?_
         (case aR => exact (by skip; exact Kd.N_F (Kd.N_mono (ok' := (fun k_ => ((fun k_ => (w.heap.size ≤ k_) ∧ some k_ ≠ (.slice Ao19 x509001_2.length co19 : Value).ownBlock ∧ k_ ≠ gb506 ∧ k_ ≠ gb508)) k_ ∧ some k_ ≠ (.slice Ao18 x509000_2.length co18 : Value).ownBlock)) (HO515.out) (fun k_ hk => ⟨⟨hk.1, ⟨hk.2.2.1, ⟨hk.2.2.2.1, hk.2.2.2.2⟩⟩⟩, hk.2.1⟩))))
         (case aB => exact (xG2 HB.out GE506.out GE508.out))
         (case aF => exact (fun k_ hk => ⟨(Nat.le_trans (below_size (xG2 HB.out GE506.out GE508.out)) hk), Kd.fresh' (Kd.R_lt (xR HO_509001.out)) k_ hk, Kd.freshB (g := gb506) (o := .cells #[.slice none 0 0, .slice none 0 0] 46 (0, 0)) (xB BK506.out) k_ hk, Kd.freshB (g := gb508) (o := .cells #[.slice Ao18 x509000_2.length co18, .slice Ao19 x509001_2.length co19] 46 (0, 0)) (xB BK508.out) k_ hk⟩))
         (case aO => exact (zN (Kd.N_mono HO_509000.out (fun _ hk => ⟨hk.1.1.1, ⟨hk.1.1.2.1, ⟨hk.1.1.2.2.1, hk.1.1.2.2.2⟩⟩⟩))))
         (case aS => exact (below_size (xG2 HB.out GE506.out GE508.out)))
         (case aL => have := LMc16.out; omega)
         intro v517 w25 ho hb hg hat
         rw [← Ny516.out] at ho
         replace HO_509001 := aM (Kd.R_over' (xR HO_509001.out) (Kd.N_typed (xN HO_509000.out)) (by decide) hg)
         replace BK506 := yR BK506 hg (Kd.N_ne HO_509000.out BK506.out (by decide))
         replace BK508 := yR BK508 hg (Kd.N_ne HO_509000.out BK508.out (by decide))
         replace HO515 := aM (Kd.N_afterv (ok := (fun k_ => (w.heap.size ≤ k_) ∧ some k_ ≠ (.slice Ao19 x509001_2.length co19 : Value).ownBlock ∧ k_ ≠ gb506 ∧ k_ ≠ gb508)) (zN (Kd.N_mono HO515.out (fun _ hk => ⟨⟨hk.1, ⟨hk.2.2.1, ⟨hk.2.2.2.1, hk.2.2.2.2⟩⟩⟩, hk.2.1⟩))) hg hat)
         replace HB := aM (hb)
         have HO518 := aM (ho)
         clear HO_509000
         clear ho hb hg hat
         refine hK.out _ _ ⟨(bC BK508.out 0).trans rfl, (bC BK508.out 1).trans rfl⟩ (fun hHeld => ?_)
         clear hK K
         refine norm_ (a' := ?_) ?_ ?_
         rotate_left
         ·
          show Act.put _ (some 32) _ = _
          simp only [Act.put, sA, sZ, sU, i64_w, i32_w]
          rfl
         refine yP 14 40 (bm 18 20479) HT_ ?_
         refine yO 12 38 (bm 18 24575) HT_ (fun K hK => ?_)
         refine Kd.R_lit_step (Kd.int .i64) _ 3 ?hg (N := 38) ?hd (xs := ([wrap64 ((wrap64 (2 * (rd l1 x21_2))) - 1)] : List Int)) (inner := [.int .i64 (wrap64 ((wrap64 (2 * (rd l1 x21_2))) - 1))]) (ok := fun _ => True) (okp := fun _ => True) ?hr ?hp (fun _ hk => hk) trivial (Below.refl _ _) (Nat.le_refl _) (by simp) ?_; (case hd => rfl); (case hg => rfl); (case hr => first | (go_simp; done) | (go_simp; rfl)); (case hp => exact (Reps.one (show Kd.M (Kd.int .i64) _ _ _ (wrap64 ((wrap64 (2 * (rd l1 x21_2))) - 1)) [.int .i64 (wrap64 ((wrap64 (2 * (rd l1 x21_2))) - 1))] from rfl) (Reps.none _ _)))
         intro v520 w27 ho28 hb hg_ hnew_
         clear hg_ hnew_
         (first | rw [← Ny519.out] at ho28 | (simp only [Int.reduceToNat] at ho28; rw [← Ny519.out] at ho28))
         replace HO515 := aM (Kd.N_elder' (xN HO515.out) (Kd.R_base ho28) hb)
         replace HO518 := aM (Kd.N_elder' (xN HO518.out) (Kd.R_base ho28) hb)
         have HO521 := aM (Kd.R_lower (Kd.R_new' (Kd.R_newM (M := fun k_ => (w.heap.size ≤ k_)) ho28 (below_size (xG2 HB.out GE506.out GE508.out)) (fun k_ h_ => h_)) (Kd.R_lt (xR HO_509001.out))) (below_size (xG2 HB.out GE506.out GE508.out)))
         replace HO_509001 := aM (Kd.R_elder' (xR HO_509001.out) (Kd.R_base ho28) hb)
         replace BK506 := yK BK506 hb
         replace BK508 := yK BK508 hb
         replace HB := yS2 HB GE506 GE508 hb
         clear hb ho28
         refine hK.out _ _ ⟨(bC BK508.out 0).trans rfl, (bC BK508.out 1).trans rfl⟩ (fun hHeld => ?_)
         clear hK K
         refine norm_ (a' := ?_) ?_ ?_
         rotate_left
         ·
          show Act.put _ (some 38) _ = _
          simp only [Act.put, sA, sZ, sU, i64_w, i32_w]
          rfl
         exact norm_ (by simp only [putAll, Act.put, sA, sZ, sU]) (hCont (.slice Ao22 t510.length co22, .slice Ao26 y513.length co26, v517, v520) _ ⟨hHeld, (zN (Kd.N_mono HO515.out (fun _ hk => ⟨hk.1.1.1, ⟨hk.1.2, ⟨hk.2, ⟨hk.1.1.2.1, ⟨hk.1.1.2.2.1, hk.1.1.2.2.2⟩⟩⟩⟩⟩))), (zN (Kd.N_mono HO518.out (fun _ hk => ⟨hk.1.1, ⟨hk.2, ⟨hk.1.2.1, ⟨hk.1.2.2.1, hk.1.2.2.2⟩⟩⟩⟩))), (zR (rM HO521.out (fun _ hk => ⟨hk.1.1, hk.2⟩))), (zR (rM HO_509001.out (fun _ hk => ⟨hk.1.1, hk.2⟩))), (xB BK506.out), (xB BK508.out), (xG2 HB.out GE506.out GE508.out)⟩)
        ·
         skip
         refine Kd.R_lit_step (Kd.int .i64) _ 3 ?hg (N := 38) ?hd (xs := ([wrap64 ((wrap64 (2 * (rd l1 x21_2))) - 1)] : List Int)) (inner := [.int .i64 (wrap64 ((wrap64 (2 * (rd l1 x21_2))) - 1))]) (ok := fun _ => True) (okp := fun _ => True) ?hr ?hp (fun _ hk => hk) trivial (Below.refl _ _) (Nat.le_refl _) (by simp) ?_; (case hd => rfl); (case hg => rfl); (case hr => first | (go_simp; done) | (go_simp; rfl)); (case hp => exact (Reps.one (show Kd.M (Kd.int .i64) _ _ _ (wrap64 ((wrap64 (2 * (rd l1 x21_2))) - 1)) [.int .i64 (wrap64 ((wrap64 (2 * (rd l1 x21_2))) - 1))] from rfl) (Reps.none _ _)))
         intro v520 w25 ho26 hb hg_ hnew_
         clear hg_ hnew_
         (first | rw [← Ny519.out] at ho26 | (simp only [Int.reduceToNat] at ho26; rw [← Ny519.out] at ho26))
         replace HO_509000 := aM (Kd.N_elder' (xN HO_509000.out) (Kd.R_base ho26) hb)
         replace HO515 := aM (Kd.N_elder' (xN HO515.out) (Kd.R_base ho26) hb)
         have HO521 := aM (Kd.R_lower (Kd.R_new' (Kd.R_newM (M := fun k_ => (w.heap.size ≤ k_)) ho26 (below_size (xG2 HB.out GE506.out GE508.out)) (fun k_ h_ => h_)) (Kd.R_lt (xR HO_509001.out))) (below_size (xG2 HB.out GE506.out GE508.out)))
         replace HO_509001 := aM (Kd.R_elder' (xR HO_509001.out) (Kd.R_base ho26) hb)
         replace BK506 := yK BK506 hb
         replace BK508 := yK BK508 hb
         replace HB := yS2 HB GE506 GE508 hb
         clear hb ho26
         obtain ⟨Ao28, co28, eo28⟩ := Kd.N_slice HO515.out
         (first | subst eo28 | (injection eo28 with f1_ f2_ f3_; have f4_ := f1_.symm; have f5_ := f3_.symm; clear f1_ f2_ f3_; subst f4_; subst f5_))
         refine hK.out _ _ ⟨(bC BK508.out 0).trans rfl, (bC BK508.out 1).trans rfl⟩ (fun hHeld => ?_)
         clear hK K
         refine norm_ (a' := ?_) ?_ ?_
         rotate_left
         ·
          show Act.put _ (some 38) _ = _
          simp only [Act.put, sA, sZ, sU, i64_w, i32_w]
          rfl
         refine yO 6 32 (bm 18 8191) HT_ (fun K hK => ?_)
         refine Kd.N_append_rows_step (Kd.slice 3 (Kd.int .i64)) (w0 := w) w.heap.size (by rfl) (.tmp 27) (.tmp 31) 44 24 (.slice none 0 0) 24 rfl Try.underlying44 info24 rfl (by decide) (by omega) (.slice Ao18 x509000_2.length co18) x509000_2 y513 _ _ _ (fun k_ => (w.heap.size ≤ k_) ∧ some k_ ≠ (.slice Ao19 x509001_2.length co19 : Value).ownBlock ∧ some k_ ≠ (v520 : Value).ownBlock ∧ k_ ≠ gb506 ∧ k_ ≠ gb508) (fun k_ => ((fun k_ => (w.heap.size ≤ k_) ∧ some k_ ≠ (.slice Ao19 x509001_2.length co19 : Value).ownBlock ∧ some k_ ≠ (v520 : Value).ownBlock ∧ k_ ≠ gb506 ∧ k_ ≠ gb508)) k_ ∧ some k_ ≠ (.slice Ao18 x509000_2.length co18 : Value).ownBlock) rfl rfl ?aO ?aR (fun _ hk => hk) ?aF ?aB ?aS ?aL ?_
         (case aR => exact (by skip; exact Kd.N_F (Kd.N_mono (ok' := (fun k_ => ((fun k_ => (w.heap.size ≤ k_) ∧ some k_ ≠ (.slice Ao19 x509001_2.length co19 : Value).ownBlock ∧ some k_ ≠ (v520 : Value).ownBlock ∧ k_ ≠ gb506 ∧ k_ ≠ gb508)) k_ ∧ some k_ ≠ (.slice Ao18 x509000_2.length co18 : Value).ownBlock)) (HO515.out) (fun k_ hk => ⟨⟨hk.1.1, ⟨hk.1.2.2.1, ⟨hk.2, ⟨hk.1.2.2.2.1, hk.1.2.2.2.2⟩⟩⟩⟩, hk.1.2.1⟩))))
         (case aB => exact (xG2 HB.out GE506.out GE508.out))
         (case aF => exact (fun k_ hk => ⟨(Nat.le_trans (below_size (xG2 HB.out GE506.out GE508.out)) hk), Kd.fresh' (Kd.R_lt (xR HO_509001.out)) k_ hk, Kd.fresh' (Kd.R_lt (xR HO521.out)) k_ hk, Kd.freshB (g := gb506) (o := .cells #[.slice none 0 0, .slice none 0 0] 46 (0, 0)) (xB BK506.out) k_ hk, Kd.freshB (g := gb508) (o := .cells #[.slice Ao18 x509000_2.length co18, .slice Ao19 x509001_2.length co19] 46 (0, 0)) (xB BK508.out) k_ hk⟩))
         (case aO => exact (zN (Kd.N_mono HO_509000.out (fun _ hk => ⟨hk.1.1.1.1, ⟨hk.1.1.1.2.1, ⟨hk.2, ⟨hk.1.1.1.2.2.1, hk.1.1.1.2.2.2⟩⟩⟩⟩))))
         (case aS => exact (below_size (xG2 HB.out GE506.out GE508.out)))
         (case aL => have := LMc16.out; omega)
         intro v517 w27 ho hb hg hat
         rw [← Ny516.out] at ho
         replace HO_509001 := aM (Kd.R_over' (xR HO_509001.out) (Kd.N_typed (xN HO_509000.out)) (by decide) hg)
         replace BK506 := yR BK506 hg (Kd.N_ne HO_509000.out BK506.out (by decide))
         replace BK508 := yR BK508 hg (Kd.N_ne HO_509000.out BK508.out (by decide))
         replace HO515 := aM (Kd.N_afterv (ok := (fun k_ => (w.heap.size ≤ k_) ∧ some k_ ≠ (.slice Ao19 x509001_2.length co19 : Value).ownBlock ∧ some k_ ≠ (v520 : Value).ownBlock ∧ k_ ≠ gb506 ∧ k_ ≠ gb508)) (zN (Kd.N_mono HO515.out (fun _ hk => ⟨⟨hk.1.1, ⟨hk.1.2.2.1, ⟨hk.2, ⟨hk.1.2.2.2.1, hk.1.2.2.2.2⟩⟩⟩⟩, hk.1.2.1⟩))) hg hat)
         replace HO521 := aM (Kd.R_over' (xR HO521.out) (Kd.N_typed (xN HO_509000.out)) (by decide) hg)
         replace HB := aM (hb)
         have HO518 := aM (ho)
         clear HO_509000
         clear ho hb hg hat
         refine hK.out _ _ ⟨(bC BK508.out 0).trans rfl, (bC BK508.out 1).trans rfl⟩ (fun hHeld => ?_)
         clear hK K
         refine norm_ (a' := ?_) ?_ ?_
         rotate_left
         ·
          show Act.put _ (some 32) _ = _
          simp only [Act.put, sA, sZ, sU, i64_w, i32_w]
          rfl
         refine yP 14 40 (bm 18 24575) HT_ ?_
         exact norm_ (by simp only [putAll, Act.put, sA, sZ, sU]) (hCont (.slice Ao22 t510.length co22, .slice Ao28 y513.length co28, v517, v520) _ ⟨hHeld, (zN (Kd.N_mono HO515.out (fun _ hk => ⟨hk.1.1, ⟨hk.2, ⟨hk.1.2.2.1, ⟨hk.1.2.1, ⟨hk.1.2.2.2.1, hk.1.2.2.2.2⟩⟩⟩⟩⟩))), (zN (Kd.N_mono HO518.out (fun _ hk => ⟨hk.1, ⟨hk.2.2.1, ⟨hk.2.1, ⟨hk.2.2.2.1, hk.2.2.2.2⟩⟩⟩⟩))), (zR (rM HO521.out (fun _ hk => ⟨hk.1.1, hk.2⟩))), (zR (rM HO_509001.out (fun _ hk => ⟨hk.1.1, hk.2⟩))), (xB BK506.out), (xB BK508.out), (xG2 HB.out GE506.out GE508.out)⟩)
       ·
        skip
        refine Kd.R_lit_step (Kd.int .i64) _ 3 ?hg (N := 38) ?hd (xs := ([wrap64 ((wrap64 (2 * (rd l1 x21_2))) - 1)] : List Int)) (inner := [.int .i64 (wrap64 ((wrap64 (2 * (rd l1 x21_2))) - 1))]) (ok := fun _ => True) (okp := fun _ => True) ?hr ?hp (fun _ hk => hk) trivial (Below.refl _ _) (Nat.le_refl _) (by simp) ?_; (case hd => rfl); (case hg => rfl); (case hr => first | (go_simp; done) | (go_simp; rfl)); (case hp => exact (Reps.one (show Kd.M (Kd.int .i64) _ _ _ (wrap64 ((wrap64 (2 * (rd l1 x21_2))) - 1)) [.int .i64 (wrap64 ((wrap64 (2 * (rd l1 x21_2))) - 1))] from rfl) (Reps.none _ _)))
        intro v520 w22 ho23 hb hg_ hnew_
        clear hg_ hnew_
        (first | rw [← Ny519.out] at ho23 | (simp only [Int.reduceToNat] at ho23; rw [← Ny519.out] at ho23))
        replace HO_509000 := aM (Kd.N_elder' (xN HO_509000.out) (Kd.R_base ho23) hb)
        have HO521 := aM (Kd.R_lower (Kd.R_new' (Kd.R_new' (Kd.R_newM (M := fun k_ => (w.heap.size ≤ k_)) ho23 (below_size (xG2 HB.out GE506.out GE508.out)) (fun k_ h_ => h_)) (Kd.R_lt (xR HO_509001.out))) (Kd.R_lt (xR HO512.out))) (below_size (xG2 HB.out GE506.out GE508.out)))
        replace HO_509001 := aM (Kd.R_elder' (xR HO_509001.out) (Kd.R_base ho23) hb)
        replace HO512 := aM (Kd.R_elder' (xR HO512.out) (Kd.R_base ho23) hb)
        replace BK506 := yK BK506 hb
        replace BK508 := yK BK508 hb
        replace HB := yS2 HB GE506 GE508 hb
        clear hb ho23
        obtain ⟨Ao24, co24, eo24⟩ := Kd.R_slice HO512.out
        (first | subst eo24 | (injection eo24 with f1_ f2_ f3_; have f4_ := f1_.symm; have f5_ := f3_.symm; clear f1_ f2_ f3_; subst f4_; subst f5_))
        refine hK.out _ _ ⟨(bC BK508.out 0).trans rfl, (bC BK508.out 1).trans rfl⟩ (fun hHeld => ?_)
        clear hK K
        refine norm_ (a' := ?_) ?_ ?_
        rotate_left
        ·
         show Act.put _ (some 38) _ = _
         simp only [Act.put, sA, sZ, sU, i64_w, i32_w]
         rfl
        refine yO 5 31 (bm 18 8127) HT_ (fun K hK => ?_)
        refine Kd.N_lit_step (Kd.slice 3 (Kd.int .i64)) _ 24 ?hg (N' := 31) ?hd (xs := ([t510] : List (List Int))) (inner := [.slice Ao24 t510.length co24]) (ok := (fun k_ => (w.heap.size ≤ k_) ∧ some k_ ≠ (.slice Ao18 x509000_2.length co18 : Value).ownBlock ∧ some k_ ≠ (.slice Ao19 x509001_2.length co19 : Value).ownBlock ∧ some k_ ≠ (v520 : Value).ownBlock ∧ k_ ≠ gb506 ∧ k_ ≠ gb508)) (okp := (fun k_ => (w.heap.size ≤ k_) ∧ some k_ ≠ (.slice Ao18 x509000_2.length co18 : Value).ownBlock ∧ some k_ ≠ (.slice Ao19 x509001_2.length co19 : Value).ownBlock ∧ some k_ ≠ (v520 : Value).ownBlock ∧ k_ ≠ gb506 ∧ k_ ≠ gb508)) ?hr ?hp (fun _ hk => hk) ((show ∀ k_, w22.heap.size ≤ k_ → (fun k_ => (w.heap.size ≤ k_) ∧ some k_ ≠ (.slice Ao18 x509000_2.length co18 : Value).ownBlock ∧ some k_ ≠ (.slice Ao19 x509001_2.length co19 : Value).ownBlock ∧ some k_ ≠ (v520 : Value).ownBlock ∧ k_ ≠ gb506 ∧ k_ ≠ gb508) k_ from fun k_ hk => ⟨(Nat.le_trans (below_size (xG2 HB.out GE506.out GE508.out)) hk), Kd.fresh' (Kd.N_lt (xN HO_509000.out)) k_ hk, Kd.fresh' (Kd.R_lt (xR HO_509001.out)) k_ hk, Kd.fresh' (Kd.R_lt (xR HO521.out)) k_ hk, Kd.freshB (g := gb506) (o := .cells #[.slice none 0 0, .slice none 0 0] 46 (0, 0)) (xB BK506.out) k_ hk, Kd.freshB (g := gb508) (o := .cells #[.slice Ao18 x509000_2.length co18, .slice Ao19 x509001_2.length co19] 46 (0, 0)) (xB BK508.out) k_ hk⟩) _ (Nat.le_refl _)) (Below.refl _ _) (Nat.le_refl _) (by simp) ?_; (case hd => rfl); (case hg => rfl); (case hr => first | (go_simp; done) | (go_simp; rfl)); (case hp => exact (Reps.one (show Kd.FK (Kd.slice 3 (Kd.int .i64)) _ _ t510 [.slice Ao24 t510.length co24] from (Kd.FK_slice_mk (Kd.R_reads' (rM (ok' := (fun k_ => (w.heap.size ≤ k_) ∧ some k_ ≠ (.slice Ao18 x509000_2.length co18 : Value).ownBlock ∧ some k_ ≠ (.slice Ao19 x509001_2.length co19 : Value).ownBlock ∧ some k_ ≠ (v520 : Value).ownBlock ∧ k_ ≠ gb506 ∧ k_ ≠ gb508)) (Kd.R_types (Kd.R_types (Kd.R_apart' (HO512.out) (Kd.N_typed HO_509000.out) (by decide)) BK506.out (by decide)) BK508.out (by decide)) (fun k_ hk => ⟨hk.1.1.1.1.1.1, ⟨hk.1.1.2, ⟨hk.1.1.1.1.2, ⟨hk.1.1.1.2, ⟨hk.1.2, hk.2⟩⟩⟩⟩⟩))).2.1 (Kd.R_F (rM (ok' := (fun k_ => (w.heap.size ≤ k_) ∧ some k_ ≠ (.slice Ao18 x509000_2.length co18 : Value).ownBlock ∧ some k_ ≠ (.slice Ao19 x509001_2.length co19 : Value).ownBlock ∧ some k_ ≠ (v520 : Value).ownBlock ∧ k_ ≠ gb506 ∧ k_ ≠ gb508)) (Kd.R_types (Kd.R_types (Kd.R_apart' (HO512.out) (Kd.N_typed HO_509000.out) (by decide)) BK506.out (by decide)) BK508.out (by decide)) (fun k_ hk => ⟨hk.1.1.1.1.1.1, ⟨hk.1.1.2, ⟨hk.1.1.1.1.2, ⟨hk.1.1.1.2, ⟨hk.1.2, hk.2⟩⟩⟩⟩⟩))))) (Reps.none _ _)))
        intro v514 w25 ho26 hb hg_ hnew_
        clear hg_ hnew_
        (first | rw [← Ny513.out] at ho26 | (simp only [Int.reduceToNat] at ho26; rw [← Ny513.out] at ho26))
        replace HO_509000 := aM (Kd.N_elder' (xN HO_509000.out) (by first | exact Kd.N_base ho26 | exact Kd.S_base ho26 | exact Kd.R_base ho26) hb)
        replace HO_509001 := aM (Kd.R_below (xR HO_509001.out) hb)
        replace HO521 := aM (Kd.R_below (xR HO521.out) hb)
        have HO515 := aM (Kd.N_lower ho26 (below_size (xG2 HB.out GE506.out GE508.out)))
        replace BK506 := yK BK506 hb
        replace BK508 := yK BK508 hb
        replace HB := yS2 HB GE506 GE508 hb
        clear HO512
        clear hb ho26
        obtain ⟨Ao28, co28, eo28⟩ := Kd.N_slice HO515.out
        (first | subst eo28 | (injection eo28 with f1_ f2_ f3_; have f4_ := f1_.symm; have f5_ := f3_.symm; clear f1_ f2_ f3_; subst f4_; subst f5_))
        refine hK.out _ _ ⟨(bC BK508.out 0).trans rfl, (bC BK508.out 1).trans rfl⟩ (fun hHeld => ?_)
        clear hK K
        refine norm_ (a' := ?_) ?_ ?_
        rotate_left
        ·
         show Act.put _ (some 31) _ = _
         simp only [Act.put, sA, sZ, sU, i64_w, i32_w]
         rfl
        refine yO 6 32 (bm 18 8191) HT_ (fun K hK => ?_)
        refine Kd.N_append_rows_step (Kd.slice 3 (Kd.int .i64)) (w0 := w) w.heap.size (by rfl) (.tmp 27) (.tmp 31) 44 24 (.slice none 0 0) 24 rfl Try.underlying44 info24 rfl (by decide) (by omega) (.slice Ao18 x509000_2.length co18) x509000_2 y513 _ _ _ (fun k_ => (w.heap.size ≤ k_) ∧ some k_ ≠ (.slice Ao19 x509001_2.length co19 : Value).ownBlock ∧ some k_ ≠ (v520 : Value).ownBlock ∧ k_ ≠ gb506 ∧ k_ ≠ gb508) (fun k_ => ((fun k_ => (w.heap.size ≤ k_) ∧ some k_ ≠ (.slice Ao19 x509001_2.length co19 : Value).ownBlock ∧ some k_ ≠ (v520 : Value).ownBlock ∧ k_ ≠ gb506 ∧ k_ ≠ gb508)) k_ ∧ some k_ ≠ (.slice Ao18 x509000_2.length co18 : Value).ownBlock) rfl rfl ?aO ?aR (fun _ hk => hk) ?aF ?aB ?aS ?aL ?_
        (case aR => exact (by skip; exact Kd.N_F (Kd.N_mono (ok' := (fun k_ => ((fun k_ => (w.heap.size ≤ k_) ∧ some k_ ≠ (.slice Ao19 x509001_2.length co19 : Value).ownBlock ∧ some k_ ≠ (v520 : Value).ownBlock ∧ k_ ≠ gb506 ∧ k_ ≠ gb508)) k_ ∧ some k_ ≠ (.slice Ao18 x509000_2.length co18 : Value).ownBlock)) (HO515.out) (fun k_ hk => ⟨⟨hk.1, ⟨hk.2.2.1, ⟨hk.2.2.2.1, ⟨hk.2.2.2.2.1, hk.2.2.2.2.2⟩⟩⟩⟩, hk.2.1⟩))))
        (case aB => exact (xG2 HB.out GE506.out GE508.out))
        (case aF => exact (fun k_ hk => ⟨(Nat.le_trans (below_size (xG2 HB.out GE506.out GE508.out)) hk), Kd.fresh' (Kd.R_lt (xR HO_509001.out)) k_ hk, Kd.fresh' (Kd.R_lt (xR HO521.out)) k_ hk, Kd.freshB (g := gb506) (o := .cells #[.slice none 0 0, .slice none 0 0] 46 (0, 0)) (xB BK506.out) k_ hk, Kd.freshB (g := gb508) (o := .cells #[.slice Ao18 x509000_2.length co18, .slice Ao19 x509001_2.length co19] 46 (0, 0)) (xB BK508.out) k_ hk⟩))
        (case aO => exact (zN (Kd.N_mono HO_509000.out (fun _ hk => ⟨hk.1.1.1.1, ⟨hk.1.1.1.2.1, ⟨hk.1.2, ⟨hk.1.1.1.2.2.1, hk.1.1.1.2.2.2⟩⟩⟩⟩))))
        (case aS => exact (below_size (xG2 HB.out GE506.out GE508.out)))
        (case aL => have := LMc16.out; omega)
        intro v517 w27 ho hb hg hat
        rw [← Ny516.out] at ho
        replace HO_509001 := aM (Kd.R_over' (xR HO_509001.out) (Kd.N_typed (xN HO_509000.out)) (by decide) hg)
        replace BK506 := yR BK506 hg (Kd.N_ne HO_509000.out BK506.out (by decide))
        replace BK508 := yR BK508 hg (Kd.N_ne HO_509000.out BK508.out (by decide))
        replace HO521 := aM (Kd.R_over' (xR HO521.out) (Kd.N_typed (xN HO_509000.out)) (by decide) hg)
        replace HO515 := aM (Kd.N_afterv (ok := (fun k_ => (w.heap.size ≤ k_) ∧ some k_ ≠ (.slice Ao19 x509001_2.length co19 : Value).ownBlock ∧ some k_ ≠ (v520 : Value).ownBlock ∧ k_ ≠ gb506 ∧ k_ ≠ gb508)) (zN (Kd.N_mono HO515.out (fun _ hk => ⟨⟨hk.1, ⟨hk.2.2.1, ⟨hk.2.2.2.1, ⟨hk.2.2.2.2.1, hk.2.2.2.2.2⟩⟩⟩⟩, hk.2.1⟩))) hg hat)
        replace HB := aM (hb)
        have HO518 := aM (ho)
        clear HO_509000
        clear ho hb hg hat
        refine hK.out _ _ ⟨(bC BK508.out 0).trans rfl, (bC BK508.out 1).trans rfl⟩ (fun hHeld => ?_)
        clear hK K
        refine norm_ (a' := ?_) ?_ ?_
        rotate_left
        ·
         show Act.put _ (some 32) _ = _
         simp only [Act.put, sA, sZ, sU, i64_w, i32_w]
         rfl
        refine yP 14 40 (bm 18 24575) HT_ ?_
        exact norm_ (by simp only [putAll, Act.put, sA, sZ, sU]) (hCont (.slice Ao24 t510.length co24, .slice Ao28 y513.length co28, v517, v520) _ ⟨hHeld, (zN (Kd.N_mono HO515.out (fun _ hk => ⟨hk.1.1, ⟨hk.2, ⟨hk.1.2.2.1, ⟨hk.1.2.1, ⟨hk.1.2.2.2.1, hk.1.2.2.2.2⟩⟩⟩⟩⟩))), (zN (Kd.N_mono HO518.out (fun _ hk => ⟨hk.1, ⟨hk.2.2.1, ⟨hk.2.1, ⟨hk.2.2.2.1, hk.2.2.2.2⟩⟩⟩⟩))), (zR (rM HO521.out (fun _ hk => ⟨hk.1.1.1, hk.1.2⟩))), (zR (rM HO_509001.out (fun _ hk => ⟨hk.1.1, hk.2⟩))), (xB BK506.out), (xB BK508.out), (xG2 HB.out GE506.out GE508.out)⟩)
      ·
       skip
       refine Kd.R_lit_step (Kd.int .i64) _ 3 ?hg (N := 38) ?hd (xs := ([wrap64 ((wrap64 (2 * (rd l1 x21_2))) - 1)] : List Int)) (inner := [.int .i64 (wrap64 ((wrap64 (2 * (rd l1 x21_2))) - 1))]) (ok := fun _ => True) (okp := fun _ => True) ?hr ?hp (fun _ hk => hk) trivial (Below.refl _ _) (Nat.le_refl _) (by simp) ?_; (case hd => rfl); (case hg => rfl); (case hr => first | (go_simp; done) | (go_simp; rfl)); (case hp => exact (Reps.one (show Kd.M (Kd.int .i64) _ _ _ (wrap64 ((wrap64 (2 * (rd l1 x21_2))) - 1)) [.int .i64 (wrap64 ((wrap64 (2 * (rd l1 x21_2))) - 1))] from rfl) (Reps.none _ _)))
       intro v520 w21 ho22 hb hg_ hnew_
       clear hg_ hnew_
       (first | rw [← Ny519.out] at ho22 | (simp only [Int.reduceToNat] at ho22; rw [← Ny519.out] at ho22))
       replace HO_509000 := aM (Kd.N_elder' (xN HO_509000.out) (Kd.R_base ho22) hb)
       have HO521 := aM (Kd.R_lower (Kd.R_new' (Kd.R_newM (M := fun k_ => (w.heap.size ≤ k_)) ho22 (below_size (xG2 HB.out GE506.out GE508.out)) (fun k_ h_ => h_)) (Kd.R_lt (xR HO_509001.out))) (below_size (xG2 HB.out GE506.out GE508.out)))
       replace HO_509001 := aM (Kd.R_elder' (xR HO_509001.out) (Kd.R_base ho22) hb)
       replace BK506 := yK BK506 hb
       replace BK508 := yK BK508 hb
       replace HB := yS2 HB GE506 GE508 hb
       clear hb ho22
       refine hK.out _ _ ⟨(bC BK508.out 0).trans rfl, (bC BK508.out 1).trans rfl⟩ (fun hHeld => ?_)
       clear hK K
       refine norm_ (a' := ?_) ?_ ?_
       rotate_left
       ·
        show Act.put _ (some 38) _ = _
        simp only [Act.put, sA, sZ, sU, i64_w, i32_w]
        rfl
       refine yO 4 30 (bm 18 8095) HT_ (fun K hK => ?_)
       refine yG Try.func90 #[.int .i64 a0, .int .i64 x21_2] ?_
       with_reducible refine (impl_bitPoint.calls k2 a0 x21_2 t510 _ A15.out).mono ?_
       rintro e w23 ⟨v511, rfl, ho0, hb⟩
       refine ⟨_, rfl, ?_⟩
       replace HO_509000 := aM (Kd.N_elder' (xN HO_509000.out) (Kd.R_base ho0) hb)
       have HO512 := aM (Kd.R_lower (Kd.R_new' (Kd.R_new' (Kd.R_newM (M := fun k_ => (w.heap.size ≤ k_)) ho0 (below_size (xG2 HB.out GE506.out GE508.out)) (fun k_ h_ => h_)) (Kd.R_lt (xR HO_509001.out))) (Kd.R_lt (xR HO521.out))) (below_size (xG2 HB.out GE506.out GE508.out)))
       replace HO_509001 := aM (Kd.R_elder' (xR HO_509001.out) (Kd.R_base ho0) hb)
       replace HO521 := aM (Kd.R_elder' (xR HO521.out) (Kd.R_base ho0) hb)
       replace BK506 := yK BK506 hb
       replace BK508 := yK BK508 hb
       replace HB := yS2 HB GE506 GE508 hb
       (try clear hb)
       (try clear hb2)
       (try clear hk)
       (try clear hi)
       (try clear ho0)
       obtain ⟨Ao24, co24, eo24⟩ := Kd.R_slice HO512.out
       (first | subst eo24 | (injection eo24 with f1_ f2_ f3_; have f4_ := f1_.symm; have f5_ := f3_.symm; clear f1_ f2_ f3_; subst f4_; subst f5_))
       refine hK.out _ _ ⟨(bC BK508.out 0).trans rfl, (bC BK508.out 1).trans rfl⟩ (fun hHeld => ?_)
       clear hK K
       refine norm_ (a' := ?_) ?_ ?_
       rotate_left
       ·
        show Act.put _ (some 30) _ = _
        simp only [Act.put, sA, sZ, sU, i64_w, i32_w]
        rfl
       refine yO 5 31 (bm 18 8127) HT_ (fun K hK => ?_)
       refine Kd.N_lit_step (Kd.slice 3 (Kd.int .i64)) _ 24 ?hg (N' := 31) ?hd (xs := ([t510] : List (List Int))) (inner := [.slice Ao24 t510.length co24]) (ok := (fun k_ => (w.heap.size ≤ k_) ∧ some k_ ≠ (.slice Ao18 x509000_2.length co18 : Value).ownBlock ∧ some k_ ≠ (.slice Ao19 x509001_2.length co19 : Value).ownBlock ∧ some k_ ≠ (v520 : Value).ownBlock ∧ k_ ≠ gb506 ∧ k_ ≠ gb508)) (okp := (fun k_ => (w.heap.size ≤ k_) ∧ some k_ ≠ (.slice Ao18 x509000_2.length co18 : Value).ownBlock ∧ some k_ ≠ (.slice Ao19 x509001_2.length co19 : Value).ownBlock ∧ some k_ ≠ (v520 : Value).ownBlock ∧ k_ ≠ gb506 ∧ k_ ≠ gb508)) ?hr ?hp (fun _ hk => hk) ((show ∀ k_, w23.heap.size ≤ k_ → (fun k_ => (w.heap.size ≤ k_) ∧ some k_ ≠ (.slice Ao18 x509000_2.length co18 : Value).ownBlock ∧ some k_ ≠ (.slice Ao19 x509001_2.length co19 : Value).ownBlock ∧ some k_ ≠ (v520 : Value).ownBlock ∧ k_ ≠ gb506 ∧ k_ ≠ gb508) k_ from fun k_ hk => ⟨(Nat.le_trans (below_size (xG2 HB.out GE506.out GE508.out)) hk), Kd.fresh' (Kd.N_lt (xN HO_509000.out)) k_ hk, Kd.fresh' (Kd.R_lt (xR HO_509001.out)) k_ hk, Kd.fresh' (Kd.R_lt (xR HO521.out)) k_ hk, Kd.freshB (g := gb506) (o := .cells #[.slice none 0 0, .slice none 0 0] 46 (0, 0)) (xB BK506.out) k_ hk, Kd.freshB (g := gb508) (o := .cells #[.slice Ao18 x509000_2.length co18, .slice Ao19 x509001_2.length co19] 46 (0, 0)) (xB BK508.out) k_ hk⟩) _ (Nat.le_refl _)) (Below.refl _ _) (Nat.le_refl _) (by simp) ?_; (case hd => rfl); (case hg => rfl); (case hr => first | (go_simp; done) | (go_simp; rfl)); (case hp => exact (Reps.one (show Kd.FK (Kd.slice 3 (Kd.int .i64)) _ _ t510 [.slice Ao24 t510.length co24] from (Kd.FK_slice_mk (Kd.R_reads' (rM (ok' := (fun k_ => (w.heap.size ≤ k_) ∧ some k_ ≠ (.slice Ao18 x509000_2.length co18 : Value).ownBlock ∧ some k_ ≠ (.slice Ao19 x509001_2.length co19 : Value).ownBlock ∧ some k_ ≠ (v520 : Value).ownBlock ∧ k_ ≠ gb506 ∧ k_ ≠ gb508)) (Kd.R_types (Kd.R_types (Kd.R_apart' (HO512.out) (Kd.N_typed HO_509000.out) (by decide)) BK506.out (by decide)) BK508.out (by decide)) (fun k_ hk => ⟨hk.1.1.1.1.1.1, ⟨hk.1.1.2, ⟨hk.1.1.1.1.2, ⟨hk.1.1.1.2, ⟨hk.1.2, hk.2⟩⟩⟩⟩⟩))).2.1 (Kd.R_F (rM (ok' := (fun k_ => (w.heap.size ≤ k_) ∧ some k_ ≠ (.slice Ao18 x509000_2.length co18 : Value).ownBlock ∧ some k_ ≠ (.slice Ao19 x509001_2.length co19 : Value).ownBlock ∧ some k_ ≠ (v520 : Value).ownBlock ∧ k_ ≠ gb506 ∧ k_ ≠ gb508)) (Kd.R_types (Kd.R_types (Kd.R_apart' (HO512.out) (Kd.N_typed HO_509000.out) (by decide)) BK506.out (by decide)) BK508.out (by decide)) (fun k_ hk => ⟨hk.1.1.1.1.1.1, ⟨hk.1.1.2, ⟨hk.1.1.1.1.2, ⟨hk.1.1.1.2, ⟨hk.1.2, hk.2⟩⟩⟩⟩⟩))))) (Reps.none _ _)))
       intro v514 w25 ho26 hb hg_ hnew_
       clear hg_ hnew_
       (first | rw [← Ny513.out] at ho26 | (simp only [Int.reduceToNat] at ho26; rw [← Ny513.out] at ho26))
       replace HO_509000 := aM (Kd.N_elder' (xN HO_509000.out) (by first | exact Kd.N_base ho26 | exact Kd.S_base ho26 | exact Kd.R_base ho26) hb)
       replace HO_509001 := aM (Kd.R_below (xR HO_509001.out) hb)
       replace HO521 := aM (Kd.R_below (xR HO521.out) hb)
       have HO515 := aM (Kd.N_lower ho26 (below_size (xG2 HB.out GE506.out GE508.out)))
       replace BK506 := yK BK506 hb
       replace BK508 := yK BK508 hb
       replace HB := yS2 HB GE506 GE508 hb
       clear HO512
       clear hb ho26
       obtain ⟨Ao28, co28, eo28⟩ := Kd.N_slice HO515.out
       (first | subst eo28 | (injection eo28 with f1_ f2_ f3_; have f4_ := f1_.symm; have f5_ := f3_.symm; clear f1_ f2_ f3_; subst f4_; subst f5_))
       refine hK.out _ _ ⟨(bC BK508.out 0).trans rfl, (bC BK508.out 1).trans rfl⟩ (fun hHeld => ?_)
       clear hK K
       refine norm_ (a' := ?_) ?_ ?_
       rotate_left
       ·
        show Act.put _ (some 31) _ = _
        simp only [Act.put, sA, sZ, sU, i64_w, i32_w]
        rfl
       refine yO 6 32 (bm 18 8191) HT_ (fun K hK => ?_)
       refine Kd.N_append_rows_step (Kd.slice 3 (Kd.int .i64)) (w0 := w) w.heap.size (by rfl) (.tmp 27) (.tmp 31) 44 24 (.slice none 0 0) 24 rfl Try.underlying44 info24 rfl (by decide) (by omega) (.slice Ao18 x509000_2.length co18) x509000_2 y513 _ _ _ (fun k_ => (w.heap.size ≤ k_) ∧ some k_ ≠ (.slice Ao19 x509001_2.length co19 : Value).ownBlock ∧ some k_ ≠ (v520 : Value).ownBlock ∧ k_ ≠ gb506 ∧ k_ ≠ gb508) (fun k_ => ((fun k_ => (w.heap.size ≤ k_) ∧ some k_ ≠ (.slice Ao19 x509001_2.length co19 : Value).ownBlock ∧ some k_ ≠ (v520 : Value).ownBlock ∧ k_ ≠ gb506 ∧ k_ ≠ gb508)) k_ ∧ some k_ ≠ (.slice Ao18 x509000_2.length co18 : Value).ownBlock) rfl rfl ?aO ?aR (fun _ hk => hk) ?aF ?aB ?aS ?aL ?_
       (case aR => exact (by skip; exact Kd.N_F (Kd.N_mono (ok' := (fun k_ => ((fun k_ => (w.heap.size ≤ k_) ∧ some k_ ≠ (.slice Ao19 x509001_2.length co19 : Value).ownBlock ∧ some k_ ≠ (v520 : Value).ownBlock ∧ k_ ≠ gb506 ∧ k_ ≠ gb508)) k_ ∧ some k_ ≠ (.slice Ao18 x509000_2.length co18 : Value).ownBlock)) (HO515.out) (fun k_ hk => ⟨⟨hk.1, ⟨hk.2.2.1, ⟨hk.2.2.2.1, ⟨hk.2.2.2.2.1, hk.2.2.2.2.2⟩⟩⟩⟩, hk.2.1⟩))))
       (case aB => exact (xG2 HB.out GE506.out GE508.out))
       (case aF => exact (fun k_ hk => ⟨(Nat.le_trans (below_size (xG2 HB.out GE506.out GE508.out)) hk), Kd.fresh' (Kd.R_lt (xR HO_509001.out)) k_ hk, Kd.fresh' (Kd.R_lt (xR HO521.out)) k_ hk, Kd.freshB (g := gb506) (o := .cells #[.slice none 0 0, .slice none 0 0] 46 (0, 0)) (xB BK506.out) k_ hk, Kd.freshB (g := gb508) (o := .cells #[.slice Ao18 x509000_2.length co18, .slice Ao19 x509001_2.length co19] 46 (0, 0)) (xB BK508.out) k_ hk⟩))
       (case aO => exact (zN (Kd.N_mono HO_509000.out (fun _ hk => ⟨hk.1.1.1.1, ⟨hk.1.1.1.2.1, ⟨hk.1.1.2, ⟨hk.1.1.1.2.2.1, hk.1.1.1.2.2.2⟩⟩⟩⟩))))
       (case aS => exact (below_size (xG2 HB.out GE506.out GE508.out)))
       (case aL => have := LMc16.out; omega)
       intro v517 w27 ho hb hg hat
       rw [← Ny516.out] at ho
       replace HO_509001 := aM (Kd.R_over' (xR HO_509001.out) (Kd.N_typed (xN HO_509000.out)) (by decide) hg)
       replace BK506 := yR BK506 hg (Kd.N_ne HO_509000.out BK506.out (by decide))
       replace BK508 := yR BK508 hg (Kd.N_ne HO_509000.out BK508.out (by decide))
       replace HO521 := aM (Kd.R_over' (xR HO521.out) (Kd.N_typed (xN HO_509000.out)) (by decide) hg)
       replace HO515 := aM (Kd.N_afterv (ok := (fun k_ => (w.heap.size ≤ k_) ∧ some k_ ≠ (.slice Ao19 x509001_2.length co19 : Value).ownBlock ∧ some k_ ≠ (v520 : Value).ownBlock ∧ k_ ≠ gb506 ∧ k_ ≠ gb508)) (zN (Kd.N_mono HO515.out (fun _ hk => ⟨⟨hk.1, ⟨hk.2.2.1, ⟨hk.2.2.2.1, ⟨hk.2.2.2.2.1, hk.2.2.2.2.2⟩⟩⟩⟩, hk.2.1⟩))) hg hat)
       replace HB := aM (hb)
       have HO518 := aM (ho)
       clear HO_509000
       clear ho hb hg hat
       refine hK.out _ _ ⟨(bC BK508.out 0).trans rfl, (bC BK508.out 1).trans rfl⟩ (fun hHeld => ?_)
       clear hK K
       refine norm_ (a' := ?_) ?_ ?_
       rotate_left
       ·
        show Act.put _ (some 32) _ = _
        simp only [Act.put, sA, sZ, sU, i64_w, i32_w]
        rfl
       refine yP 14 40 (bm 18 24575) HT_ ?_
       exact norm_ (by simp only [putAll, Act.put, sA, sZ, sU]) (hCont (.slice Ao24 t510.length co24, .slice Ao28 y513.length co28, v517, v520) _ ⟨hHeld, (zN (Kd.N_mono HO515.out (fun _ hk => ⟨hk.1.1, ⟨hk.2, ⟨hk.1.2.2.1, ⟨hk.1.2.1, ⟨hk.1.2.2.2.1, hk.1.2.2.2.2⟩⟩⟩⟩⟩))), (zN (Kd.N_mono HO518.out (fun _ hk => ⟨hk.1, ⟨hk.2.2.1, ⟨hk.2.1, ⟨hk.2.2.2.1, hk.2.2.2.2⟩⟩⟩⟩))), (zR (rM HO521.out (fun _ hk => ⟨hk.1.1.1, hk.1.2⟩))), (zR (rM HO_509001.out (fun _ hk => ⟨hk.1.1, hk.1.2⟩))), (xB BK506.out), (xB BK508.out), (xG2 HB.out GE506.out GE508.out)⟩)
     rintro ⟨v511, v514, v517, v520⟩ w29 ⟨hS_, h0_, h1_, h2_, h3_, h4_, h5_, h6_⟩
     have n0_ : Aside0 (Kd.N (Kd.slice 3 (Kd.int .i64)) 24 w29 w.heap.size (fun k_ => (w.heap.size ≤ k_) ∧ some k_ ≠ (v517 : Value).ownBlock ∧ some k_ ≠ (v520 : Value).ownBlock ∧ some k_ ≠ (.slice Ao19 x509001_2.length co19 : Value).ownBlock ∧ k_ ≠ gb506 ∧ k_ ≠ gb508) v514 y513) := ⟨h0_⟩
     have n1_ : Aside0 (Kd.N (Kd.slice 3 (Kd.int .i64)) 24 w29 w.heap.size (fun k_ => (w.heap.size ≤ k_) ∧ some k_ ≠ (v520 : Value).ownBlock ∧ some k_ ≠ (.slice Ao19 x509001_2.length co19 : Value).ownBlock ∧ k_ ≠ gb506 ∧ k_ ≠ gb508) v517 y516) := ⟨h1_⟩
     have n2_ : Aside0 (Kd.R (Kd.int .i64) 3 w29 w.heap.size (fun k_ => (w.heap.size ≤ k_) ∧ some k_ ≠ (.slice Ao19 x509001_2.length co19 : Value).ownBlock) v520 y519) := ⟨h2_⟩
     have n3_ : Aside0 (Kd.R (Kd.int .i64) 3 w29 w.heap.size (fun k_ => (w.heap.size ≤ k_) ∧ some k_ ≠ (v520 : Value).ownBlock) (.slice Ao19 x509001_2.length co19) x509001_2) := ⟨h3_⟩
     have n4_ : Aside0 (w29.heap[gb506]? = some (.cells #[.slice none 0 0, .slice none 0 0] 46 (0, 0))) := ⟨h4_⟩
     have n5_ : Aside0 (w29.heap[gb508]? = some (.cells #[.slice Ao18 x509000_2.length co18, .slice Ao19 x509001_2.length co19] 46 (0, 0))) := ⟨h5_⟩
     have n6_ : Aside0 (Below w.heap.size w w29) := ⟨h6_⟩
     clear HO_509000
     clear HO_509001
     clear BK506
     clear BK508
     clear HB
     clear h0_ h1_ h2_ h3_ h4_ h5_ h6_
     have HO515 := n0_
     have HO518 := n1_
     have HO521 := n2_
     have HO_509001 := n3_
     have BK506 := n4_
     have BK508 := n5_
     have HB := n6_
     clear n0_ n1_ n2_ n3_ n4_ n5_ n6_
     have hHeld : w29.cell? ⟨gb508, 0, none⟩ = some (.slice Ao18 x509000_2.length co18) ∧ w29.cell? ⟨gb508, 1, none⟩ = some (.slice Ao19 x509001_2.length co19) := hS_
     obtain ⟨Ao31, co31, eo31⟩ := Kd.R_slice HO521.out
     (first | subst eo31 | (injection eo31 with f1_ f2_ f3_; have f4_ := f1_.symm; have f5_ := f3_.symm; clear f1_ f2_ f3_; subst f4_; subst f5_))
     refine norm_ (a' := ?_) ?_ ?_
     rotate_left
     ·
      simp only [putAll, Act.put, sA, sZ, sU]
      rfl
     refine yO 13 39 (bm 18 32767) HT_ (fun K hK => ?_)
     refine Kd.R_append_rows_step (Kd.int .i64) (w0 := w) w.heap.size (by rfl) (.tmp 34) (.tmp 38) 24 3 (.int .i64 0) 8 rfl Try.underlying24 info3 rfl (by decide) (by omega) (.slice Ao19 x509001_2.length co19) x509001_2 y519 _ _ _ (fun k_ => (w.heap.size ≤ k_) ∧ some k_ ≠ (.slice Ao31 y519.length co31 : Value).ownBlock) (fun _ => False) rfl rfl ?aO ?aR (fun _ _ h => h) (fun _ h => h.elim) ?aF ?aB ?aS ?aL ?_
     (case aR => exact xC (Kd.R_reads' HO521.out).2.2)
     (case aB => exact (xG2 HB.out GE506.out GE508.out))
     (case aF => exact (fun k_ hk => ⟨(Nat.le_trans (below_size (xG2 HB.out GE506.out GE508.out)) hk), Kd.fresh' (Kd.R_lt (xR HO521.out)) k_ hk⟩))
     (case aO => exact (xR HO_509001.out))
     (case aS => exact (below_size (xG2 HB.out GE506.out GE508.out)))
     (case aL => have := LMc17.out; omega)
     intro v523 w30 ho hb hg hat
     rw [← Ny522.out] at ho
     replace BK506 := yR BK506 hg (Kd.R_ne HO_509001.out BK506.out (by decide))
     replace BK508 := yR BK508 hg (Kd.R_ne HO_509001.out BK508.out (by decide))
     replace HO515 := aM (Kd.N_afterv (ok := (fun k_ => (w.heap.size ≤ k_) ∧ some k_ ≠ (v517 : Value).ownBlock ∧ some k_ ≠ (.slice Ao31 y519.length co31 : Value).ownBlock ∧ k_ ≠ gb506 ∧ k_ ≠ gb508)) (zN (Kd.N_mono HO515.out (fun _ hk => ⟨⟨hk.1, ⟨hk.2.1, ⟨hk.2.2.1, ⟨hk.2.2.2.2.1, hk.2.2.2.2.2⟩⟩⟩⟩, hk.2.2.2.1⟩))) hg hat)
     replace HO518 := aM (Kd.N_afterv (ok := (fun k_ => (w.heap.size ≤ k_) ∧ some k_ ≠ (.slice Ao31 y519.length co31 : Value).ownBlock ∧ k_ ≠ gb506 ∧ k_ ≠ gb508)) (zN (Kd.N_mono HO518.out (fun _ hk => ⟨⟨hk.1, ⟨hk.2.1, ⟨hk.2.2.2.1, hk.2.2.2.2⟩⟩⟩, hk.2.2.1⟩))) hg hat)
     replace HO521 := aM (Kd.R_after (ok := (fun k_ => (w.heap.size ≤ k_))) (xR HO521.out) hg hat)
     replace HB := aM (hb)
     have HO524 := aM (ho)
     clear HO_509001
     clear ho hb hg hat
     obtain ⟨Ao32, co32, eo32⟩ := Kd.N_slice HO518.out
     (first | subst eo32 | (injection eo32 with f1_ f2_ f3_; have f4_ := f1_.symm; have f5_ := f3_.symm; clear f1_ f2_ f3_; subst f4_; subst f5_))
     obtain ⟨Ao34, co34, eo34⟩ := Kd.R_slice HO524.out
     (first | subst eo34 | (injection eo34 with f1_ f2_ f3_; have f4_ := f1_.symm; have f5_ := f3_.symm; clear f1_ f2_ f3_; subst f4_; subst f5_))
     refine hK.out _ _ ⟨(bC BK508.out 0).trans rfl, (bC BK508.out 1).trans rfl⟩ (fun hHeld => ?_)
     clear hK K
     refine norm_ (a' := ?_) ?_ ?_
     rotate_left
     ·
      show Act.put _ (some 39) _ = _
      simp only [Act.put, sA, sZ, sU, i64_w, i32_w]
      rfl
     refine last_ (i := 15) (N := none) (bm 18 65535) rfl rfl (one_of HT_.out (by kernel_rfl)) (by decide) (fun K hK => ?_)
     have hs33 : w30.cell? ⟨gb508, 0, none⟩ = some (.slice Ao18 x509000_2.length co18) := (bC BK508.out 0).trans rfl
     have hfs33 := bF BK508.out 0
     have hns33_0 := NB506_508.out
     have hms33_0 := NB508_506.out
     refine skip_ (w1 := ?_) (by rfl) rfl ?_ ?_
     rotate_left
     ·
      go_simp
      rfl
     refine hK.out _ _ ?_
     clear hK K
     refine yP 16 41 (bm 18 131071) HT_ ?_
     refine last_ (i := 17) (N := none) (bm 18 262143) rfl rfl (one_of HT_.out (by kernel_rfl)) (by decide) (fun K hK => ?_)
     have hs35 : w30.cell? ⟨gb508, 1, none⟩ = some (.slice Ao19 x509001_2.length co19) := (bC BK508.out 1).trans rfl
     have hfs35 := bF BK508.out 1
     have hns35_0 := NB506_508.out
     have hms35_0 := NB508_506.out
     refine skip_ (w1 := ?_) (by rfl) rfl ?_ ?_
     rotate_left
     ·
      go_simp
      rfl
     refine hK.out _ _ ?_
     clear hK K
     refine done_ (done_of HT_.out (by kernel_rfl)) ?_
     try go_wp2
     go_roundg k2
     case measure => have := HJ2.out; have := HK2.out; omega
     case rel => exact ⟨(wrap64 (x21_2 + 1)), (y516), (y522), (.slice Ao32 y516.length co32), (.slice Ao34 y522.length co34), yZ, H', ⟨by have := HJ2.out; have := HK2.out; omega⟩, ⟨zN (Kd.N_mono (Kd.N_far (p := ⟨gb508, 1, none⟩) (Kd.N_far (p := ⟨gb508, 0, none⟩) (Kd.N_mono HO518.out (fun k_ hk => (⟨hk, hk.1.2.2.2⟩ : _ ∧ k_ ≠ gb508))) (fun _ hk => hk.2) (.slice Ao32 y516.length co32)) (fun _ hk => hk.2) (.slice Ao34 y522.length co34)) (fun _ hk => ⟨hk.1.1.1, ⟨hk.1.2, ⟨hk.1.1.2.2.1, hk.1.1.2.2.2⟩⟩⟩))⟩, ⟨zR (rM (Kd.R_far (p := ⟨gb508, 1, none⟩) (Kd.R_far (p := ⟨gb508, 0, none⟩) (Kd.R_types HO524.out BK508.out (by decide)) (fun _ hk => hk.2) (.slice Ao32 y516.length co32)) (fun _ hk => hk.2) (.slice Ao34 y522.length co34)) (fun _ hk => hk.1.1))⟩, ⟨by (with_reducible repeat (first | refine bN ?_ _ | refine bD ?_ | refine bA ?_ _)); refine blk_far ?_ NB506_508.out _; (with_reducible repeat (first | refine bN ?_ _ | refine bD ?_ | refine bA ?_ _)); refine blk_far ?_ NB506_508.out _; (with_reducible repeat (first | refine bN ?_ _ | refine bD ?_ | refine bA ?_ _)); exact BK506.out⟩, ⟨by (with_reducible repeat (first | refine bN ?_ _ | refine bD ?_ | refine bA ?_ _)); refine blk_put (cs := #[.slice Ao32 y516.length co32, .slice Ao19 x509001_2.length co19]) ?_ 1 _ rfl; (with_reducible repeat (first | refine bN ?_ _ | refine bD ?_ | refine bA ?_ _)); refine blk_put (cs := #[.slice Ao18 x509000_2.length co18, .slice Ao19 x509001_2.length co19]) ?_ 0 _ rfl; (with_reducible repeat (first | refine bN ?_ _ | refine bD ?_ | refine bA ?_ _)); exact BK508.out⟩, ⟨xG2 HB.out GE506.out GE508.out⟩⟩
end Go.Proofs.Ytmfmgnpefjmieaa.PFnThresholdTables
