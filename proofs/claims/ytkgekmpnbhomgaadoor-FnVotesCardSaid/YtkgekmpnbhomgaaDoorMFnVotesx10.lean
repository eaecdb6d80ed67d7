-- Laid for this claim by a program of the session's own (wip/tool/myprint.py).
import Derived.Test.YtkgekmpnbhomgaaDoorMFnVotesx0
import Derived.Test.YtkgekmpnbhomgaaDoorMFnVotesx2
import Derived.Test.YtkgekmpnbhomgaaDoorMFnVotesx4
import Derived.Test.YtkgekmpnbhomgaaDoorMFnVotesx5
import Derived.Test.YtkgekmpnbhomgaaDoorMFnVotesx8
import Derived.Test.YtkgekmpnbhomgaaDoorMFnVotesx9
namespace Go.Proofs.YtkgekmpnbhomgaaDoor.PFnVotes
open Go.RowKit Go.Proofs.YtkgekmpnbhomgaaDoorW.PrintWords Go.Proofs.YtkgekmpnbhomgaaDoorW.PrintLast Go.Proofs.YtkgekmpnbhomgaaDoorW.PrintMore
attribute [local go_sem] max2_int min2_int max_two min_two max_three min_three max_four min_four
set_option linter.unusedVariables false
set_option maxHeartbeats 8000000
set_option maxRecDepth 100000
set_option linter.unusedSimpArgs false
def spec_l6Edges.l0 : Nat → Bool → List (List Int) → List Bool → Int → Int → Option ((List (List Int)))
 | 0, _, _, _, _, _ => none
 | k + 1, x1, x5, x6, x7, x8 => if x8 < (x6.length : Int) then ((spec_l6Edge.f k x7 x6 x8 x1).bind fun t330 => (if t330 = true then ((spec_l6Bits.f k x7 x8).bind fun t331 => ((spec_l6Put.f k x5 t331).bind fun t334 => (spec_l6Edges.l0 k x1 t334 x6 x7 (wrap64 (x8 + 1))))) else (spec_l6Edges.l0 k x1 x5 x6 x7 (wrap64 (x8 + 1))))) else (some x5)
def spec_l6Edges.f (k : Nat) (l0_0 : List Int) (a0_1 : Int) (a1 : Bool) : Option ((List (List Int))) := (spec_l6Wins.f k l0_0 a0_1).bind fun t327 => (spec_l6Edges.l0 k a1 (([] : List (List Int))) t327 (l0_0.length : Int) 0)
def spec_l6Edges.T1 : Bool × List (List Nat × List Nat) := (true, [([], []), ([], []), ([1], [1]), ([], []), ([3], [3]), ([4], [4]), ([0, 2, 0], [0]), ([2, 6, 0, 1, 2, 6], [2]), ([5, 7, 0, 1, 2, 3, 4, 5, 6, 7], [5])])
def spec_l6Edges.B1 : List Nat := [0, 0, 2, 0, 8, 24, 7, 71, 255]
theorem spec_l6Edges.tab1 : rtab .any (opsOf Tryd.f39 1) = spec_l6Edges.T1 := by kernel_rfl
theorem spec_l6Edges.bits1 : waitsOk spec_l6Edges.T1.2 spec_l6Edges.B1 = true := by kernel_rfl
theorem spec_l6Edges.calls (k : Nat) (A0_0 : Option Addr) (c0_0 : Nat) (l0_0 : List Int) (a0_1 : Int) (a1 : Bool) (r : List (List Int)) (w : World) (hr0_0 : Kd.C (Kd.int .i64) w A0_0 l0_0.length l0_0) (hc0_0 : l0_0.length ≤ c0_0) (h : spec_l6Edges.f k l0_0 a0_1 a1 = some r) :
  Calls Tryd.prog 39 #[.agg #[.slice A0_0 l0_0.length c0_0, .int .i64 a0_1], .bool a1] w fun e w' => ∃ v0_ : Value, e = .returned (v0_) ∧ Kd.N (Kd.slice 3 (Kd.int .i64)) 24 w' w.heap.size (fun k_ => (w.heap.size ≤ k_)) v0_ r ∧ Below w.heap.size w w' := by
 have hu26 := Tryd.underlying26
 have HR0_0 := aM hr0_0
 have HC0_0 := aM hc0_0
 clear hr0_0 hc0_0
 have HB := aM (Below.refl w.heap.size w)
 have H : ((spec_l6Wins.f k l0_0 a0_1).bind fun t327 => (spec_l6Edges.l0 k a1 (([] : List (List Int))) t327 (l0_0.length : Int) 0)) = some r := h
 clear h
 obtain ⟨y324, hy324⟩ := yE (([] : List (List Int)) : List (List Int))
 replace H : ((spec_l6Wins.f k l0_0 a0_1).bind fun t327 => (spec_l6Edges.l0 k a1 y324 t327 (l0_0.length : Int) 0)) = some r := by first | (rw [hy324]; with_reducible exact H) | (have H2_ := (Option.bind_some _ _).symm.trans H; rw [hy324]; with_reducible exact H2_) | (have H2_ := (Option.bind_some _ _).symm.trans H; with_reducible exact H2_) | with_reducible exact H | (rw [hy324]; exact H) | exact H
 have Ny324 := aM hy324
 clear hy324
 replace H := oB.mp H
 obtain ⟨t327, A30, H⟩ := H
 replace H : (spec_l6Edges.l0 k a1 y324 t327 (l0_0.length : Int) 0) = some r := H
 have A3 := aM A30
 clear A30
 have H' := aM H
 clear H
 go_enter Tryd.func39, Tryd.ntmps39
 try go_wp2_with (first | (refine yB 2 #[.slice A0_0 l0_0.length c0_0, .int .i64 a0_1] 26 ?_; intro gb323 hg w4 hbox hb; have BK323 := aM (hbox); have GW323 := yV0 hg HB; have GE323 := yV0 hg HB; replace HB := yS0 HB hb; clear hb hbox hg))
 replace BK323 := aM (bD BK323.out)
 replace HB := aM (eD HB.out)
 refine start_ (n := 9) (S := fun w' => True) (ds := []) (bm 9 0) (by kernel_rfl) rfl rfl trivial (fun hHeld => ?_); refine with_tabW spec_l6Edges.tab1 spec_l6Edges.bits1 (fun HT_ HW_ => ?_)
 generalize w4.drew = w5 at BK323 HB hHeld ⊢
 refine yP 3 12 (bm 9 8) HT_ ?_
 refine inv_at [0, 1, 2, 4, 5, 6, 7, 8] (fun a0_ b a w' => ∃ (v325 : Value) (v328 : Value) (m6_ : Value) (m7_ : Value), a = putSel a0_ b [(0, 9, v325), (1, 10, .agg #[.slice A0_0 l0_0.length c0_0, .int .i64 a0_1]), (2, 11, v328), (4, 13, .slice A0_0 l0_0.length c0_0), (5, 14, .int .i64 (l0_0.length : Int)), (6, 5, m6_), (7, 6, m7_), (8, 7, .int .i64 (l0_0.length : Int))] ∧ (w'.heap[gb323]? = some (.cells #[.slice A0_0 l0_0.length c0_0, .int .i64 a0_1] 26 (0, 0))) ∧ (Below w.heap.size w w') ∧ (b 0 = true → Kd.N (Kd.slice 3 (Kd.int .i64)) 24 w' w.heap.size (fun k_ => (w.heap.size ≤ k_) ∧ k_ ≠ gb323) v325 y324) ∧ (b 2 = true → Kd.R Kd.bool 4 w' w.heap.size (fun k_ => (w.heap.size ≤ k_)) v328 t327) ∧ (b 6 = true → (m6_ : Value) = v325) ∧ (b 7 = true → (m7_ : Value) = v328)) HT_.out HW_.out (by kernel_rfl) (by kernel_rfl) ?_ ?_ ?_
 ·
  exact ⟨.bool false, .bool false, .bool false, .bool false, by simp only [putSel, Bool.false_eq_true, if_false], BK323.out, HB.out, fun h_ => absurd h_ (by decide), fun h_ => absurd h_ (by decide), fun h_ => absurd h_ (by decide), fun h_ => absurd h_ (by decide)⟩
 ·
  skip
  clear BK323 HB
  refine steps_cons ?_ ?_
  ·
   rintro b a w' ⟨v325, v328, m6_, m7_, ha, Q_BK323, Q_HB, Q_HO326, Q_HO329, Q_X6_, Q_X7_⟩ hb_ hon hoff
   refine ⟨_, rfl, fun K hK => ?_⟩
   replace ha := aM ha
   have BK323 := aM Q_BK323
   have HB := aM Q_HB
   refine Kd.N_lit_step (Kd.slice 3 (Kd.int .i64)) _ 24 ?hg (N' := 9) ?hd (xs := ([] : List (List Int))) (inner := []) (ok := (fun k_ => (w.heap.size ≤ k_) ∧ k_ ≠ gb323)) (okp := (fun k_ => (w.heap.size ≤ k_) ∧ k_ ≠ gb323)) ?hr ?hp (fun _ hk => hk) ((show ∀ k_, w'.heap.size ≤ k_ → (fun k_ => (w.heap.size ≤ k_) ∧ k_ ≠ gb323) k_ from fun k_ hk => ⟨(Nat.le_trans (below_size (xG1 HB.out GE323.out)) hk), Kd.freshB (g := gb323) (o := .cells #[.slice A0_0 l0_0.length c0_0, .int .i64 a0_1] 26 (0, 0)) (xB BK323.out) k_ hk⟩) _ (Nat.le_refl _)) (Below.refl _ _) (Nat.le_refl _) (by simp) ?_; (case hd => rfl); (case hg => rfl); (case hr => first | (go_simp; done) | (go_simp; rfl)); (case hp => exact (Reps.none _ _))
   intro v325 w6 ho7 hb hg_ hnew_
   clear hg_ hnew_
   (first | rw [← Ny324.out] at ho7 | (simp only [Int.reduceToNat] at ho7; rw [← Ny324.out] at ho7))
   have n0_ := aM (Kd.N_lower ho7 (below_size (xG1 HB.out GE323.out)))
   have n1_ := yK BK323 hb
   have n2_ := yS1 HB GE323 hb
   have z_HO329 := fun (h0_ : b 2 = true) => (show Kd.R Kd.bool 4 w6 w.heap.size (fun k_ => (w.heap.size ≤ k_)) v328 t327 from by first | exact (Kd.R_below (zR (Q_HO329 h0_)) hb) | exact rM (Kd.R_below (zR (Q_HO329 h0_)) hb) (fun _ h_ => by first | trivial | exact h_ | exact h_.1))
   clear BK323 HB
   have HO326 := n0_
   have BK323 := n1_
   have HB := n2_
   clear n0_ n1_ n2_ hb ho7
   refine hK.out _ _ ⟨v325, v328, m6_, m7_, (by rw [ha.out]; exact putSel_upk 0 hb_ rfl rfl rfl), (xB BK323.out), (xG1 HB.out GE323.out), fun _ => (xN HO326.out), z_HO329, fun h0_ => absurd ((hoff 6 (by kernel_rfl)).symm.trans h0_) (by decide), fun h0_ => absurd ((hoff 7 (by kernel_rfl)).symm.trans h0_) (by decide)⟩
  refine steps_cons ?_ ?_
  ·
   rintro b a w' ⟨v325, v328, m6_, m7_, ha, Q_BK323, Q_HB, Q_HO326, Q_HO329, Q_X6_, Q_X7_⟩ hb_ hon hoff
   refine ⟨_, rfl, fun K hK => ?_⟩
   have e2 : a.tmps[2]? = some (.pointer (some ⟨gb323, 0, none⟩)) := by rw [ha]; exact (putSel_off rfl).trans rfl
   replace ha := aM ha
   have BK323 := aM Q_BK323
   have HB := aM Q_HB
   have hc0_ : w'.cell? ⟨gb323, 0, none⟩ = some (.slice A0_0 l0_0.length c0_0) := (bC BK323.out 0).trans rfl
   have hc1_ : w'.cell? ⟨gb323, 1, none⟩ = some (.int .i64 a0_1) := (bC BK323.out 1).trans rfl
   refine value_ (w1 := w') (v := .agg #[.slice A0_0 l0_0.length c0_0, .int .i64 a0_1]) (by rfl) rfl ?_ ?_
   ·
    go_simp
    (try simp only [i64_w])
    try rfl
   refine hK.out _ _ ⟨v325, v328, m6_, m7_, (by rw [ha.out]; exact putSel_upk 1 hb_ rfl rfl rfl), Q_BK323, Q_HB, Q_HO326, fun h0_ => absurd ((hoff 2 (by kernel_rfl)).symm.trans h0_) (by decide), fun h0_ => absurd ((hoff 6 (by kernel_rfl)).symm.trans h0_) (by decide), fun h0_ => absurd ((hoff 7 (by kernel_rfl)).symm.trans h0_) (by decide)⟩
  refine steps_cons ?_ ?_
  ·
   rintro b a w' ⟨v325, v328, m6_, m7_, ha, Q_BK323, Q_HB, Q_HO326, Q_HO329, Q_X6_, Q_X7_⟩ hb_ hon hoff
   refine ⟨_, rfl, fun K hK => ?_⟩
   have e10 : a.tmps[10]? = some (.agg #[.slice A0_0 l0_0.length c0_0, .int .i64 a0_1]) := by rw [ha]; exact putSel_on (e := (1, 10, .agg #[.slice A0_0 l0_0.length c0_0, .int .i64 a0_1])) 1 rfl rfl (hon 1 (by kernel_rfl)) rfl
   replace ha := aM ha
   have BK323 := aM Q_BK323
   have HB := aM Q_HB
   refine goes_ Tryd.func34 (by kernel_rfl) rfl #[.agg #[.slice A0_0 l0_0.length c0_0, .int .i64 a0_1]] (by rfl) rfl rfl (by first | (simp only [List.map_toArray, List.map_cons, List.map_nil, Act.eval, Array.getD_eq_getD_getElem?, Option.getD_some, e10]; done) | (simp only [List.map_toArray, List.map_cons, List.map_nil, Act.eval, Array.getD_eq_getD_getElem?, Option.getD_some, e10]; rfl)) ?_
   with_reducible refine (spec_l6Wins.calls k _ _ l0_0 a0_1 t327 _ ?side1 ?side2 A3.out).mono ?_
   (case side1 => exact xC (Kd.C_below HR0_0.out HB.out))
   (case side2 => exact HC0_0.out)
   rintro e w6 ⟨v328, rfl, ho0, hb⟩
   refine ⟨_, rfl, ?_⟩
   have n0_ := aM (Kd.R_lower (Kd.R_newM (M := fun k_ => (w.heap.size ≤ k_)) ho0 (below_size (xG1 HB.out GE323.out)) (fun k_ h_ => h_)) (below_size (xG1 HB.out GE323.out)))
   have n1_ := yK BK323 hb
   have n2_ := yS1 HB GE323 hb
   have z_HO326 := fun (h0_ : b 0 = true) => (show Kd.N (Kd.slice 3 (Kd.int .i64)) 24 w6 w.heap.size (fun k_ => (w.heap.size ≤ k_) ∧ k_ ≠ gb323) v325 y324 from by first | exact (Kd.N_elder' (zN (Q_HO326 h0_)) (Kd.R_base ho0) hb) | exact Kd.N_mono (Kd.N_elder' (zN (Q_HO326 h0_)) (Kd.R_base ho0) hb) (fun _ h_ => by first | trivial | exact h_ | exact h_.1))
   clear BK323 HB
   have HO329 := n0_
   have BK323 := n1_
   have HB := n2_
   clear n0_ n1_ n2_
   (try clear hb)
   (try clear hb2)
   (try clear hk)
   (try clear hi)
   (try clear ho0)
   refine hK.out _ _ ⟨v325, v328, m6_, m7_, (by rw [ha.out]; exact putSel_upk 2 hb_ rfl rfl rfl), (xB BK323.out), (xG1 HB.out GE323.out), z_HO326, fun _ => (zR (rM HO329.out (fun _ hk => hk.1))), fun h0_ => absurd ((hoff 6 (by kernel_rfl)).symm.trans h0_) (by decide), fun h0_ => absurd ((hoff 7 (by kernel_rfl)).symm.trans h0_) (by decide)⟩
  refine steps_cons ?_ ?_
  ·
   rintro b a w' ⟨v325, v328, m6_, m7_, ha, Q_BK323, Q_HB, Q_HO326, Q_HO329, Q_X6_, Q_X7_⟩ hb_ hon hoff
   refine ⟨_, rfl, fun K hK => ?_⟩
   have e12 : a.tmps[12]? = some (.pointer (some ⟨gb323, 0, none⟩)) := by rw [ha]; exact (putSel_off rfl).trans rfl
   replace ha := aM ha
   have BK323 := aM Q_BK323
   have HB := aM Q_HB
   have hc0_ : w'.cell? ⟨gb323, 0, none⟩ = some (.slice A0_0 l0_0.length c0_0) := (bC BK323.out 0).trans rfl
   have hc1_ : w'.cell? ⟨gb323, 1, none⟩ = some (.int .i64 a0_1) := (bC BK323.out 1).trans rfl
   refine value_ (w1 := w') (v := .slice A0_0 l0_0.length c0_0) (by rfl) rfl ?_ ?_
   ·
    go_simp
    (try simp only [i64_w])
    try rfl
   refine hK.out _ _ ⟨v325, v328, m6_, m7_, (by rw [ha.out]; exact putSel_upk 3 hb_ rfl rfl rfl), Q_BK323, Q_HB, Q_HO326, Q_HO329, Q_X6_, Q_X7_⟩
  refine steps_cons ?_ ?_
  ·
   rintro b a w' ⟨v325, v328, m6_, m7_, ha, Q_BK323, Q_HB, Q_HO326, Q_HO329, Q_X6_, Q_X7_⟩ hb_ hon hoff
   refine ⟨_, rfl, fun K hK => ?_⟩
   have e13 : a.tmps[13]? = some (.slice A0_0 l0_0.length c0_0) := by rw [ha]; exact putSel_on (e := (4, 13, .slice A0_0 l0_0.length c0_0)) 3 rfl rfl (hon 4 (by kernel_rfl)) rfl
   replace ha := aM ha
   have BK323 := aM Q_BK323
   have HB := aM Q_HB
   refine value_ (w1 := w') (v := .int .i64 (l0_0.length : Int)) (by rfl) rfl ?_ ?_
   ·
    go_simp
    (try simp only [i64_w])
    try rfl
   refine hK.out _ _ ⟨v325, v328, m6_, m7_, (by rw [ha.out]; exact putSel_upk 4 hb_ rfl rfl rfl), Q_BK323, Q_HB, Q_HO326, Q_HO329, Q_X6_, Q_X7_⟩
  refine steps_cons ?_ ?_
  ·
   rintro b a w' ⟨v325, v328, m6_, m7_, ha, Q_BK323, Q_HB, Q_HO326, Q_HO329, Q_X6_, Q_X7_⟩ hb_ hon hoff
   refine ⟨_, rfl, fun K hK => ?_⟩
   have e9 : a.tmps[9]? = some (v325) := by rw [ha]; exact putSel_on (e := (0, 9, v325)) 0 rfl rfl (hon 0 (by kernel_rfl)) rfl
   replace ha := aM ha
   have BK323 := aM Q_BK323
   have HB := aM Q_HB
   have HO326 := aM (Q_HO326 (hon 0 (by kernel_rfl)))
   have HO329 := aM (Q_HO329 (hon 2 (by kernel_rfl)))
   refine value_ (w1 := w') (v := v325) (by rfl) rfl ?_ ?_
   ·
    go_simp
    (try simp only [i64_w])
    try rfl
   refine hK.out _ _ ⟨v325, v328, (v325), m7_, (by rw [ha.out]; exact putSel_upk 5 hb_ rfl rfl rfl), Q_BK323, Q_HB, Q_HO326, Q_HO329, fun _ => rfl, fun h0_ => absurd ((hoff 7 (by kernel_rfl)).symm.trans h0_) (by decide)⟩
  refine steps_cons ?_ ?_
  ·
   rintro b a w' ⟨v325, v328, m6_, m7_, ha, Q_BK323, Q_HB, Q_HO326, Q_HO329, Q_X6_, Q_X7_⟩ hb_ hon hoff
   refine ⟨_, rfl, fun K hK => ?_⟩
   have e11 : a.tmps[11]? = some (v328) := by rw [ha]; exact putSel_on (e := (2, 11, v328)) 2 rfl rfl (hon 2 (by kernel_rfl)) rfl
   replace ha := aM ha
   have BK323 := aM Q_BK323
   have HB := aM Q_HB
   have HO326 := aM (Q_HO326 (hon 0 (by kernel_rfl)))
   have HO329 := aM (Q_HO329 (hon 2 (by kernel_rfl)))
   refine value_ (w1 := w') (v := v328) (by rfl) rfl ?_ ?_
   ·
    go_simp
    (try simp only [i64_w])
    try rfl
   refine hK.out _ _ ⟨v325, v328, m6_, (v328), (by rw [ha.out]; exact putSel_upk 6 hb_ rfl rfl rfl), Q_BK323, Q_HB, Q_HO326, Q_HO329, Q_X6_, fun _ => rfl⟩
  refine steps_cons ?_ ?_
  ·
   rintro b a w' ⟨v325, v328, m6_, m7_, ha, Q_BK323, Q_HB, Q_HO326, Q_HO329, Q_X6_, Q_X7_⟩ hb_ hon hoff
   refine ⟨_, rfl, fun K hK => ?_⟩
   have e14 : a.tmps[14]? = some (.int .i64 (l0_0.length : Int)) := by rw [ha]; exact putSel_on (e := (5, 14, .int .i64 (l0_0.length : Int))) 4 rfl rfl (hon 5 (by kernel_rfl)) rfl
   replace ha := aM ha
   have BK323 := aM Q_BK323
   have HB := aM Q_HB
   have HO326 := aM (Q_HO326 (hon 0 (by kernel_rfl)))
   have HO329 := aM (Q_HO329 (hon 2 (by kernel_rfl)))
   refine value_ (w1 := w') (v := .int .i64 (l0_0.length : Int)) (by rfl) rfl ?_ ?_
   ·
    go_simp
    (try simp only [i64_w])
    try rfl
   refine hK.out _ _ ⟨v325, v328, m6_, m7_, (by rw [ha.out]; exact putSel_upk 7 hb_ rfl rfl rfl), Q_BK323, Q_HB, Q_HO326, Q_HO329, Q_X6_, Q_X7_⟩
  exact steps_nil
 rintro b a w9 hall ⟨v325, v328, m6_, m7_, ha, Q_BK323, Q_HB, Q_HO326, Q_HO329, Q_X6_, Q_X7_⟩
 clear BK323 HB
 have hb0_ := hall 0 (by kernel_rfl)
 have hb1_ := hall 1 (by kernel_rfl)
 have hb2_ := hall 2 (by kernel_rfl)
 have hb4_ := hall 4 (by kernel_rfl)
 have hb5_ := hall 5 (by kernel_rfl)
 have hb6_ := hall 6 (by kernel_rfl)
 have hb7_ := hall 7 (by kernel_rfl)
 have hb8_ := hall 8 (by kernel_rfl)
 subst ha
 obtain rfl := (Q_X6_ hb6_).symm
 obtain rfl := (Q_X7_ hb7_).symm
 simp only [putSel, hb0_, hb1_, hb2_, hb4_, hb5_, hb6_, hb7_, hb8_, if_true, Act.put, sA, sZ, sU]
 have BK323 := aM Q_BK323
 clear Q_BK323
 have HB := aM Q_HB
 clear Q_HB
 have HO326 := aM (Q_HO326 hb0_)
 clear Q_HO326
 have HO329 := aM (Q_HO329 hb2_)
 clear Q_HO329 hall hb0_ hb1_ hb2_ hb4_ hb5_ hb6_ hb7_ hb8_
 try go_wp2
 go_loopg [5, 8] k (fun kq v5 v8 w' => ∃ (x5_1 : List (List Int)) (x8_1 : Int), v8 = .int .i64 x8_1 ∧ Aside0 (spec_l6Edges.l0 kq a1 x5_1 t327 (l0_0.length : Int) x8_1 = some r) ∧ Aside0 (kq ≤ k) ∧ Aside0 (Kd.N (Kd.slice 3 (Kd.int .i64)) 24 w' w.heap.size (fun k_ => (w.heap.size ≤ k_) ∧ some k_ ≠ (v328 : Value).ownBlock ∧ k_ ≠ gb323) v5 x5_1) ∧ Aside0 (Kd.R Kd.bool 4 w' w.heap.size (fun k_ => (w.heap.size ≤ k_)) v328 t327) ∧ Aside0 (w'.heap[gb323]? = some (.cells #[(.slice A0_0 l0_0.length c0_0), .int .i64 a0_1] 26 (0, 0))) ∧ Aside0 (Below w.heap.size w w'))
 case atStart => exact ⟨(y324), (0), yZ, H', ⟨Nat.le_refl _⟩, ⟨by (with_reducible repeat (first | apply Kd.N_alloc | apply Kd.N_drewN | apply Kd.N_drew)); (first | exact HO326.out | (have h_ := HO326.out; (first | rw [Ny324.out] at h_ ⊢); refine ⟨fun k_ hk_ => ?_, by obtain ⟨_, rows, hl, hR, _⟩ := h_; exact ⟨rows, hl, hR, fun j x c hx => by simp at hx⟩⟩; obtain ⟨cells_, hc_⟩ := Kd.N_typed h_ k_ hk_; have ho_ := h_.1 k_ hk_; (repeat' apply And.intro) <;> first | exact ho_.1 | exact ho_.2 | exact ho_ | (intro e_; obtain ⟨c2_, hc2_⟩ := Kd.R_typed HO329.out k_ e_.symm; rw [hc_] at hc2_; injection hc2_ with hc2_; injection hc2_ with _ hc2_; exact absurd hc2_ (by decide))))⟩, ⟨xR HO329.out⟩, ⟨xB BK323.out⟩, ⟨xG1 HB.out GE323.out⟩⟩
 case round =>
  clear H'
  try clear c1; try clear p2; try clear c3
  obtain ⟨x5_1, x8_1, rfl, HA, HK1, HO_5, HO_6, BK323, HB⟩ := hrel
  cases gk with
  | zero => exact absurd HA.out (by simp [spec_l6Edges.l0])
  | succ k1 =>
   have H := HA.out
   clear HA
   simp only [spec_l6Edges.l0] at H
   by_cases c10 : x8_1 < (t327.length : Int)
   ·
    rw [if_pos c10] at H
    have c10b0 := decide_eq_true c10
    clear c10
    replace H := oB.mp H
    obtain ⟨t330, A110, H⟩ := H
    replace H : (if t330 = true then ((spec_l6Bits.f k1 (l0_0.length : Int) x8_1).bind fun t331 => ((spec_l6Put.f k1 x5_1 t331).bind fun t334 => (spec_l6Edges.l0 k1 a1 t334 t327 (l0_0.length : Int) (wrap64 (x8_1 + 1))))) else (spec_l6Edges.l0 k1 a1 x5_1 t327 (l0_0.length : Int) (wrap64 (x8_1 + 1)))) = some r := H
    have A11 := aM A110
    clear A110
    by_cases c12 : t330 = true
    ·
     subst c12
     have H1 : ((spec_l6Bits.f k1 (l0_0.length : Int) x8_1).bind fun t331 => ((spec_l6Put.f k1 x5_1 t331).bind fun t334 => (spec_l6Edges.l0 k1 a1 t334 t327 (l0_0.length : Int) (wrap64 (x8_1 + 1))))) = some r := by rw [if_pos rfl] at H; exact H
     clear H
     have H := H1
     clear H1
     replace H := oB.mp H
     obtain ⟨t331, A130, H⟩ := H
     replace H : ((spec_l6Put.f k1 x5_1 t331).bind fun t334 => (spec_l6Edges.l0 k1 a1 t334 t327 (l0_0.length : Int) (wrap64 (x8_1 + 1)))) = some r := H
     have A13 := aM A130
     clear A130
     replace H := oB.mp H
     obtain ⟨t334, A140, H⟩ := H
     replace H : (spec_l6Edges.l0 k1 a1 t334 t327 (l0_0.length : Int) (wrap64 (x8_1 + 1))) = some r := H
     have A14 := aM A140
     clear A140
     have H' := aM H
     clear H
     obtain ⟨Ao15, co15, eo15⟩ := Kd.R_slice HO_6.out
     subst eo15
     go_wp2_with (first | (refine yL 25 Tryd.func58 #[.int .i64 (l0_0.length : Int), .slice Ao15 t327.length co15, .int .i64 x8_1, .bool a1] ?_; (with_reducible refine (spec_l6Edge.calls k1 (l0_0.length : Int) _ _ t327 x8_1 a1 true _ ?side1 ?side2 A11.out).mono ?_); (case side1 => exact xC (Kd.R_reads' HO_6.out).2.2); (case side2 => exact (Kd.R_reads' HO_6.out).2.1); rintro e w' ⟨rfl, ⟨nd, rfl⟩⟩; refine ⟨_, rfl, ?_⟩) | (refine yL 29 Tryd.func25 #[.int .i64 (l0_0.length : Int), .int .i64 x8_1] ?_; (with_reducible refine (spec_l6Bits.calls k1 (l0_0.length : Int) x8_1 t331 _ A13.out).mono ?_); rintro e w16 ⟨v332, rfl, ho0, hb⟩; refine ⟨_, rfl, ?_⟩; replace HO_5 := aM (Kd.N_elder' (xN HO_5.out) (Kd.R_base ho0) hb); replace HO_6 := aM (Kd.R_below (xR HO_6.out) hb); have HO333 := aM (Kd.R_lower (Kd.R_newM (M := fun k_ => (w.heap.size ≤ k_)) ho0 (below_size (xG1 HB.out GE323.out)) (fun k_ h_ => h_)) (below_size (xG1 HB.out GE323.out))); replace BK323 := yK BK323 hb; replace HB := yS1 HB GE323 hb; (try clear hb; try clear hb2; try clear hk; try clear hi; try clear ho0); obtain ⟨Ao17, co17, eo17⟩ := Kd.N_slice HO_5.out; subst eo17; obtain ⟨Ao18, co18, eo18⟩ := Kd.R_slice HO333.out; subst eo18) | (refine yL 30 Tryd.func59 #[.slice Ao17 x5_1.length co17, .slice Ao18 t331.length co18] ?_; (with_reducible refine (spec_l6Put.calls k1 (fun k_ => (((w.heap.size ≤ k_) ∧ (some k_ ≠ (.slice Ao15 t327.length co15 : Value).ownBlock ∧ k_ ≠ gb323)) ∧ some k_ ≠ (.slice Ao18 t331.length co18 : Value).ownBlock)) _ _ x5_1 (fun k_ => some k_ = (.slice Ao18 t331.length co18 : Value).ownBlock) _ _ t331 t334 _ ?side1 ?side2 A14.out).mono ?_); (case side1 => exact Kd.N_V (HO_5.out)); (case side2 => exact Kd.R_V (Kd.R_tight rfl (Kd.R_types (Kd.R_apart' (Kd.R_apart' (HO333.out) (Kd.N_typed HO_5.out) (by decide)) (Kd.R_typed HO_6.out) (by decide)) BK323.out (by decide)))); rintro e w19 ⟨v335, rfl, ho0, hb⟩; refine ⟨_, rfl, ?_⟩; have HO336 := aM (Kd.N_lower (Kd.N_mono (ok' := fun k_ => (w.heap.size ≤ k_) ∧ some k_ ≠ (.slice Ao15 t327.length co15 : Value).ownBlock ∧ k_ ≠ gb323) ho0 (fun k_ hk_ => ⟨Or.elim hk_ (fun hs_ => Or.elim hs_ (fun hs_ => hs_.1.1) (fun hs_ => ((Kd.R_types (Kd.R_apart' (Kd.R_apart' (HO333.out) (Kd.N_typed HO_5.out) (by decide)) (Kd.R_typed HO_6.out) (by decide)) BK323.out (by decide)).1 k_ hs_.symm).1.1.1.1)) (fun hn_ => (Nat.le_trans (below_size (xG1 HB.out GE323.out)) hn_)), Or.elim hk_ (fun hs_ => Or.elim hs_ (fun hs_ => hs_.1.2.1) (fun hs_ => ((Kd.R_types (Kd.R_apart' (Kd.R_apart' (HO333.out) (Kd.N_typed HO_5.out) (by decide)) (Kd.R_typed HO_6.out) (by decide)) BK323.out (by decide)).1 k_ hs_.symm).1.2)) (fun hn_ => (Kd.fresh' (Kd.R_lt (xR HO_6.out)) k_ hn_)), Or.elim hk_ (fun hs_ => Or.elim hs_ (fun hs_ => hs_.1.2.2) (fun hs_ => ((Kd.R_types (Kd.R_apart' (Kd.R_apart' (HO333.out) (Kd.N_typed HO_5.out) (by decide)) (Kd.R_typed HO_6.out) (by decide)) BK323.out (by decide)).1 k_ hs_.symm).2)) (fun hn_ => (Kd.freshB (g := gb323) (o := .cells #[.slice A0_0 l0_0.length c0_0, .int .i64 a0_1] 26 (0, 0)) (xB BK323.out) k_ hn_))⟩)) (below_size (xG1 HB.out GE323.out))); replace HO_5 := aM (Kd.N_elder' (xN HO_5.out) (by first | exact Kd.N_base ho0 | exact Kd.S_base ho0 | exact Kd.R_base ho0) hb); replace HO_6 := aM (Kd.R_below (xR HO_6.out) hb); replace HO333 := aM (Kd.R_below (xR HO333.out) hb); replace BK323 := yK BK323 hb; replace HB := yS1 HB GE323 hb; (try clear hb; try clear hb2; try clear hk; try clear hi; try clear ho0)))
     go_roundg k1
     case measure => have := HK1.out; omega
     case rel => exact ⟨(t334), (wrap64 (x8_1 + 1)), yZ, H', ⟨by have := HK1.out; omega⟩, ⟨xN HO336.out⟩, ⟨xR HO_6.out⟩, ⟨xB BK323.out⟩, ⟨xG1 HB.out GE323.out⟩⟩
    ·
     replace c12 := Bool.eq_false_iff.mpr c12
     subst c12
     have H1 : (spec_l6Edges.l0 k1 a1 x5_1 t327 (l0_0.length : Int) (wrap64 (x8_1 + 1))) = some r := by rw [if_neg (show ¬ (false = true) by decide)] at H; exact H
     clear H
     have H := H1
     clear H1
     have H' := aM H
     clear H
     obtain ⟨Ao20, co20, eo20⟩ := Kd.R_slice HO_6.out
     subst eo20
     go_wp2_with (first | (refine yL 25 Tryd.func58 #[.int .i64 (l0_0.length : Int), .slice Ao20 t327.length co20, .int .i64 x8_1, .bool a1] ?_; (with_reducible refine (spec_l6Edge.calls k1 (l0_0.length : Int) _ _ t327 x8_1 a1 false _ ?side1 ?side2 A11.out).mono ?_); (case side1 => exact xC (Kd.R_reads' HO_6.out).2.2); (case side2 => exact (Kd.R_reads' HO_6.out).2.1); rintro e w' ⟨rfl, ⟨nd, rfl⟩⟩; refine ⟨_, rfl, ?_⟩))
     go_roundg k1
     case measure => have := HK1.out; omega
     case rel => exact ⟨(x5_1), (wrap64 (x8_1 + 1)), yZ, H', ⟨by have := HK1.out; omega⟩, ⟨xN HO_5.out⟩, ⟨xR HO_6.out⟩, ⟨xB BK323.out⟩, ⟨xG1 HB.out GE323.out⟩⟩
   ·
    rw [if_neg c10] at H
    have c10b0 := decide_eq_false c10
    clear c10
    obtain rfl := Option.some.inj H
    obtain ⟨Ao21, co21, eo21⟩ := Kd.R_slice HO_6.out
    subst eo21
    go_wp2
    go_ret
    exact ⟨_, yF, zN (Kd.N_mono HO_5.out (fun _ hk => hk.1)), xG1 HB.out GE323.out⟩
def spec_LeastWins.f (k : Nat) (l0_0 : List Int) (a0_1 : Int) : Option ((List (List Int)) × Bool) := (spec_l6Vote.f k l0_0 a0_1).bind fun t338 => (if t338 = true then ((spec_l6Edges.f k l0_0 a0_1 true).bind fun t339 => (some (t339, true))) else (some ((([] : List (List Int))), false)))
theorem spec_LeastWins.calls (k : Nat) (A0_0 : Option Addr) (c0_0 : Nat) (l0_0 : List Int) (a0_1 : Int) (r1 : List (List Int)) (r2 : Bool) (w : World) (hr0_0 : Kd.C (Kd.int .i64) w A0_0 l0_0.length l0_0) (hc0_0 : l0_0.length ≤ c0_0) (h : spec_LeastWins.f k l0_0 a0_1 = some (r1, r2)) :
  Calls Tryd.prog 9 #[.agg #[.slice A0_0 l0_0.length c0_0, .int .i64 a0_1]] w fun e w' => ∃ v0_ : Value, e = .returned (.tuple #[v0_, .bool r2]) ∧ Kd.N (Kd.slice 3 (Kd.int .i64)) 24 w' w.heap.size (fun k_ => (w.heap.size ≤ k_)) v0_ r1 ∧ Below w.heap.size w w' := by
 have hu26 := Tryd.underlying26
 have HR0_0 := aM hr0_0
 have HC0_0 := aM hc0_0
 clear hr0_0 hc0_0
 have HB := aM (Below.refl w.heap.size w)
 have H : ((spec_l6Vote.f k l0_0 a0_1).bind fun t338 => (if t338 = true then ((spec_l6Edges.f k l0_0 a0_1 true).bind fun t339 => (some (t339, true))) else (some ((([] : List (List Int))), false)))) = some (r1, r2) := h
 clear h
 replace H := oB.mp H
 obtain ⟨t338, A20, H⟩ := H
 replace H : (if t338 = true then ((spec_l6Edges.f k l0_0 a0_1 true).bind fun t339 => (some (t339, true))) else (some ((([] : List (List Int))), false))) = some (r1, r2) := H
 have A2 := aM A20
 clear A20
 by_cases c3 : t338 = true
 ·
  subst c3
  have H1 : ((spec_l6Edges.f k l0_0 a0_1 true).bind fun t339 => (some (t339, true))) = some (r1, r2) := by rw [if_pos rfl] at H; exact H
  clear H
  have H := H1
  clear H1
  replace H := oB.mp H
  obtain ⟨t339, A40, H⟩ := H
  replace H : (some (t339, true)) = some (r1, r2) := H
  have A4 := aM A40
  clear A40
  simp only [Option.some.injEq, Prod.mk.injEq] at H
  obtain ⟨rfl, rfl⟩ := H
  go_enter Tryd.func9, Tryd.ntmps9
  go_wp2_with (first | (refine yB 1 #[.slice A0_0 l0_0.length c0_0, .int .i64 a0_1] 26 ?_; intro gb337 hg w5 hbox hb; have BK337 := aM (hbox); have GW337 := yV0 hg HB; have GE337 := yV0 hg HB; replace HB := yS0 HB hb; clear hb hbox hg; obtain ⟨hcz6_0, hcz6_1, hfz6_0, hfz6_1⟩ := yD2 BK337) | (refine yL 5 Tryd.func38 #[.agg #[.slice A0_0 l0_0.length c0_0, .int .i64 a0_1]] ?_; (with_reducible refine (spec_l6Vote.calls k _ _ l0_0 a0_1 true _ ?side1 ?side2 A2.out).mono ?_); (case side1 => exact xC (Kd.C_below HR0_0.out HB.out)); (case side2 => exact HC0_0.out); rintro e w7 ⟨rfl, hb⟩; refine ⟨_, rfl, ?_⟩; replace BK337 := yK BK337 hb; replace HB := yS1 HB GE337 hb; (try clear hb; try clear hb2; try clear hk; try clear hi); obtain ⟨hcz8_0, hcz8_1, hfz8_0, hfz8_1⟩ := yD2 BK337) | (refine yL 9 Tryd.func39 #[.agg #[.slice A0_0 l0_0.length c0_0, .int .i64 a0_1], .bool true] ?_; (with_reducible refine (spec_l6Edges.calls k _ _ l0_0 a0_1 true t339 _ ?side1 ?side2 A4.out).mono ?_); (case side1 => exact xC (Kd.C_below HR0_0.out HB.out)); (case side2 => exact HC0_0.out); rintro e w9 ⟨v340, rfl, ho0, hb⟩; refine ⟨_, rfl, ?_⟩; have HO341 := aM (Kd.N_lower (Kd.N_mono (ok' := fun k_ => (w.heap.size ≤ k_) ∧ k_ ≠ gb337) ho0 (fun k_ hk_ => ⟨(Nat.le_trans (below_size (xG1 HB.out GE337.out)) hk_), (Kd.freshB (g := gb337) (o := .cells #[.slice A0_0 l0_0.length c0_0, .int .i64 a0_1] 26 (0, 0)) (xB BK337.out) k_ hk_)⟩)) (below_size (xG1 HB.out GE337.out))); replace BK337 := yK BK337 hb; replace HB := yS1 HB GE337 hb; (try clear hb; try clear hb2; try clear hk; try clear hi; try clear ho0)))
  go_ret2
  exact ⟨_, yF, zN (Kd.N_mono HO341.out (fun _ hk => hk.1)), xG1 HB.out GE337.out⟩
 ·
  replace c3 := Bool.eq_false_iff.mpr c3
  subst c3
  have H1 : (some ((([] : List (List Int))), false)) = some (r1, r2) := by rw [if_neg (show ¬ (false = true) by decide)] at H; exact H
  clear H
  have H := H1
  clear H1
  obtain ⟨y342, hy342⟩ := yE (([] : List (List Int)) : List (List Int))
  replace H : (some (y342, false)) = some (r1, r2) := by first | (rw [hy342]; with_reducible exact H) | (have H2_ := (Option.bind_some _ _).symm.trans H; rw [hy342]; with_reducible exact H2_) | (have H2_ := (Option.bind_some _ _).symm.trans H; with_reducible exact H2_) | with_reducible exact H | (rw [hy342]; exact H) | exact H
  have Ny342 := aM hy342
  clear hy342
  simp only [Option.some.injEq, Prod.mk.injEq] at H
  obtain ⟨rfl, rfl⟩ := H
  go_enter Tryd.func9, Tryd.ntmps9
  go_wp2_with (first | (refine yB 1 #[.slice A0_0 l0_0.length c0_0, .int .i64 a0_1] 26 ?_; intro gb337 hg w10 hbox hb; have BK337 := aM (hbox); have GW337 := yV0 hg HB; have GE337 := yV0 hg HB; replace HB := yS0 HB hb; clear hb hbox hg; obtain ⟨hcz11_0, hcz11_1, hfz11_0, hfz11_1⟩ := yD2 BK337) | (refine yL 5 Tryd.func38 #[.agg #[.slice A0_0 l0_0.length c0_0, .int .i64 a0_1]] ?_; (with_reducible refine (spec_l6Vote.calls k _ _ l0_0 a0_1 false _ ?side1 ?side2 A2.out).mono ?_); (case side1 => exact xC (Kd.C_below HR0_0.out HB.out)); (case side2 => exact HC0_0.out); rintro e w12 ⟨rfl, hb⟩; refine ⟨_, rfl, ?_⟩; replace BK337 := yK BK337 hb; replace HB := yS1 HB GE337 hb; (try clear hb; try clear hb2; try clear hk; try clear hi)) | ((with_reducible refine gate_dst (N := 7) rfl ?_); refine Kd.N_lit (Kd.slice 3 (Kd.int .i64)) _ 24 ?hg (N' := 7) ?hd (xs := ([] : List (List Int))) (inner := []) (ok := (fun k_ => (w.heap.size ≤ k_) ∧ k_ ≠ gb337)) (okp := (fun k_ => (w.heap.size ≤ k_) ∧ k_ ≠ gb337)) ?hr ?hp (fun _ hk => hk) ((show ∀ k_, w12.heap.size ≤ k_ → (fun k_ => (w.heap.size ≤ k_) ∧ k_ ≠ gb337) k_ from fun k_ hk => ⟨(Nat.le_trans (below_size (xG1 HB.out GE337.out)) hk), Kd.freshB (g := gb337) (o := .cells #[.slice A0_0 l0_0.length c0_0, .int .i64 a0_1] 26 (0, 0)) (xB BK337.out) k_ hk⟩) _ (Nat.le_refl _)) (Below.refl _ _) (Nat.le_refl _) (by simp) ?_; (case hd => rfl); (case hg => rfl); (case hr => first | (go_simp; done) | (go_simp; rfl)); (case hp => exact (Reps.none _ _)); intro v343 w13 ho14 hb hg_ hnew_; clear hg_ hnew_; (first | rw [← Ny342.out] at ho14 | (simp only [Int.reduceToNat] at ho14; rw [← Ny342.out] at ho14)); have HO344 := aM (Kd.N_lower ho14 (below_size (xG1 HB.out GE337.out))); replace BK337 := yK BK337 hb; replace HB := yS1 HB GE337 hb; clear hb ho14))
  go_ret2
  exact ⟨_, yF, zN (Kd.N_mono HO344.out (fun _ hk => hk.1)), xG1 HB.out GE337.out⟩
def laws_rInts.l0 : Nat → List Int → List Int → Int → Option (Bool)
 | 0, _, _, _ => none
 | k + 1, x0, x1, x5 => if x5 < (x0.length : Int) then (if 0 ≤ x5 then (if x5 < (x1.length : Int) then (if (rd x0 x5) = (rd x1 x5) then (laws_rInts.l0 k x0 x1 (wrap64 (x5 + 1))) else (some false)) else (none)) else (none)) else (some true)
def laws_rInts.f (k : Nat) (l0 : List Int) (l1 : List Int) : Option (Bool) := if (l0.length : Int) = (l1.length : Int) then (laws_rInts.l0 k l0 l1 0) else (some false)
theorem laws_rInts.calls (k : Nat) (A0 : Option Addr) (c0 : Nat) (l0 : List Int) (A1 : Option Addr) (c1 : Nat) (l1 : List Int) (r : Bool) (w : World) (hr0 : Kd.C (Kd.int .i64) w A0 l0.length l0) (hc0 : l0.length ≤ c0) (hr1 : Kd.C (Kd.int .i64) w A1 l1.length l1) (hc1 : l1.length ≤ c1) (h : laws_rInts.f k l0 l1 = some r) :
  Calls Tryd.prog 43 #[.slice A0 l0.length c0, .slice A1 l1.length c1] w fun e w' => e = .returned (.bool r) ∧ Drawn0 w w' := by
 have HR0 := aM hr0
 have HC0 := aM hc0
 clear hr0 hc0
 have HR1 := aM hr1
 have HC1 := aM hc1
 clear hr1 hc1
 have H : (if (l0.length : Int) = (l1.length : Int) then (laws_rInts.l0 k l0 l1 0) else (some false)) = some r := h
 clear h
 by_cases c3 : (l0.length : Int) = (l1.length : Int)
 ·
  rw [if_pos c3] at H
  have c3b0 : ((l0.length : Int) == (l1.length : Int)) = true := beq_iff_eq.mpr c3
  have c3b1 : ((l0.length : Int) != (l1.length : Int)) = false := bne_eq_false_iff_eq.mpr c3
  have c3b2 : (l0.length == l1.length) = true := by first | simpa using c3 | (simp at c3 ⊢; omega)
  clear c3
  have H' := aM H
  clear H
  go_enter Tryd.func43, Tryd.ntmps43
  go_wp2
  repeat (go_quiet (fail); try go_wp2)
  go_loopg [5] k (fun kq v5 w' => ∃ (x5_1 : Int), v5 = .int .i64 x5_1 ∧ Aside0 (laws_rInts.l0 kq l0 l1 x5_1 = some r) ∧ Aside0 (kq ≤ k) ∧ Drawn0 w w')
  case atStart => exact ⟨(0), yZ, H', ⟨Nat.le_refl _⟩, by repeat (first | exact Drawn0.refl _ | apply Drawn0.step)⟩
  case round =>
   clear H'
   try clear c1; try clear p2; try clear c3; try clear c3b0; try clear c3b1; try clear c3b2
   obtain ⟨x5_1, rfl, HA, HK1, ⟨m1, rfl⟩⟩ := hrel
   cases gk with
   | zero => exact absurd HA.out (by simp [laws_rInts.l0])
   | succ k1 =>
    have H := HA.out
    clear HA
    simp only [laws_rInts.l0] at H
    by_cases c4 : x5_1 < (l0.length : Int)
    ·
     rw [if_pos c4] at H
     have c4b0 := decide_eq_true c4
     clear c4
     by_cases c5 : 0 ≤ x5_1
     ·
      rw [if_pos c5] at H
      have c5b0 := decide_eq_true c5
      clear c5
      by_cases c6 : x5_1 < (l1.length : Int)
      ·
       rw [if_pos c6] at H
       have c6b0 := decide_eq_true c6
       clear c6
       by_cases c7 : (rd l0 x5_1) = (rd l1 x5_1)
       ·
        rw [if_pos c7] at H
        have c7b0 : ((rd l0 x5_1) == (rd l1 x5_1)) = true := beq_iff_eq.mpr c7
        have c7b1 : ((rd l0 x5_1) != (rd l1 x5_1)) = false := bne_eq_false_iff_eq.mpr c7
        clear c7
        have H' := aM H
        clear H
        have p345 : 0 ≤ (x5_1 : Int) := yA
        have q345 : x5_1 < (l0.length : Int) := yA
        obtain ⟨ad345, e345, hx345_0⟩ := Kd.at_int HR0.out x5_1 p345 q345
        cases e345
        replace p345 := eq_true p345
        replace q345 := eq_true q345
        have p346 : 0 ≤ (x5_1 : Int) := yA
        have q346 : x5_1 < (l1.length : Int) := yA
        obtain ⟨ad346, e346, hx346_0⟩ := Kd.at_int HR1.out x5_1 p346 q346
        cases e346
        replace p346 := eq_true p346
        replace q346 := eq_true q346
        go_wp2
        repeat (go_quiet (fail); try go_wp2)
        go_roundg k1
        case measure => have := HK1.out; omega
        case rel => exact ⟨(wrap64 (x5_1 + 1)), yZ, H', ⟨by have := HK1.out; omega⟩, by repeat (first | exact Drawn0.refl _ | apply Drawn0.step)⟩
       ·
        rw [if_neg c7] at H
        have c7b0 : ((rd l0 x5_1) == (rd l1 x5_1)) = false := beq_eq_false_iff_ne.mpr c7
        have c7b1 : ((rd l0 x5_1) != (rd l1 x5_1)) = true := bne_iff_ne.mpr c7
        obtain rfl := Option.some.inj H
        have p345 : 0 ≤ (x5_1 : Int) := yA
        have q345 : x5_1 < (l0.length : Int) := yA
        obtain ⟨ad345, e345, hx345_0⟩ := Kd.at_int HR0.out x5_1 p345 q345
        cases e345
        replace p345 := eq_true p345
        replace q345 := eq_true q345
        have p346 : 0 ≤ (x5_1 : Int) := yA
        have q346 : x5_1 < (l1.length : Int) := yA
        obtain ⟨ad346, e346, hx346_0⟩ := Kd.at_int HR1.out x5_1 p346 q346
        cases e346
        replace p346 := eq_true p346
        replace q346 := eq_true q346
        go_wp2
        repeat (go_quiet (fail); try go_wp2)
        go_ret
        exact ⟨by first | rfl | (simp; done) | (simp [*]; done), by repeat (first | exact Drawn0.refl _ | apply Drawn0.step)⟩
      ·
       rw [if_neg c6] at H
       exact absurd H (by simp)
     ·
      rw [if_neg c5] at H
      exact absurd H (by simp)
    ·
     rw [if_neg c4] at H
     have c4b0 := decide_eq_false c4
     clear c4
     obtain rfl := Option.some.inj H
     go_wp2
     repeat (go_quiet (fail); try go_wp2)
     go_ret
     exact ⟨by first | rfl | (simp; done) | (simp [*]; done), by repeat (first | exact Drawn0.refl _ | apply Drawn0.step)⟩
 ·
  rw [if_neg c3] at H
  have c3b0 : ((l0.length : Int) == (l1.length : Int)) = false := beq_eq_false_iff_ne.mpr c3
  have c3b1 : ((l0.length : Int) != (l1.length : Int)) = true := bne_iff_ne.mpr c3
  have c3b2 : (l0.length == l1.length) = false := by first | simpa using c3 | (simp at c3 ⊢; omega)
  obtain rfl := Option.some.inj H
  go_enter Tryd.func43, Tryd.ntmps43
  go_wp2
  repeat (go_quiet (fail); try go_wp2)
  go_ret
  exact ⟨by first | rfl | (simp; done) | (simp [*]; done), by repeat (first | exact Drawn0.refl _ | apply Drawn0.step)⟩
def laws_rTable.l0 : Nat → List (List Int) → List (List Int) → Int → Option (Bool)
 | 0, _, _, _ => none
 | k + 1, x0, x1, x5 => if x5 < (x0.length : Int) then (if 0 ≤ x5 then (if x5 < (x1.length : Int) then ((laws_rInts.f k (rd_L3 x0 x5) (rd_L3 x1 x5)).bind fun t349 => (if t349 = true then (laws_rTable.l0 k x0 x1 (wrap64 (x5 + 1))) else (some false))) else (none)) else (none)) else (some true)
def laws_rTable.f (k : Nat) (l0 : List (List Int)) (l1 : List (List Int)) : Option (Bool) := if (l0.length : Int) = (l1.length : Int) then (laws_rTable.l0 k l0 l1 0) else (some false)
theorem laws_rTable.calls (k : Nat) (A0 : Option Addr) (c0 : Nat) (l0 : List (List Int)) (A1 : Option Addr) (c1 : Nat) (l1 : List (List Int)) (r : Bool) (w : World) (hr0 : Kd.C (Kd.slice 3 (Kd.int .i64)) w A0 l0.length l0) (hc0 : l0.length ≤ c0) (hr1 : Kd.C (Kd.slice 3 (Kd.int .i64)) w A1 l1.length l1) (hc1 : l1.length ≤ c1) (h : laws_rTable.f k l0 l1 = some r) :
  Calls Tryd.prog 11 #[.slice A0 l0.length c0, .slice A1 l1.length c1] w fun e w' => e = .returned (.bool r) ∧ Drawn0 w w' := by
 have HR0 := aM hr0
 have HC0 := aM hc0
 clear hr0 hc0
 have HR1 := aM hr1
 have HC1 := aM hc1
 clear hr1 hc1
 have H : (if (l0.length : Int) = (l1.length : Int) then (laws_rTable.l0 k l0 l1 0) else (some false)) = some r := h
 clear h
 by_cases c3 : (l0.length : Int) = (l1.length : Int)
 ·
  rw [if_pos c3] at H
  have c3b0 : ((l0.length : Int) == (l1.length : Int)) = true := beq_iff_eq.mpr c3
  have c3b1 : ((l0.length : Int) != (l1.length : Int)) = false := bne_eq_false_iff_eq.mpr c3
  have c3b2 : (l0.length == l1.length) = true := by first | simpa using c3 | (simp at c3 ⊢; omega)
  clear c3
  have H' := aM H
  clear H
  go_enter Tryd.func11, Tryd.ntmps11
  go_wp2
  repeat (go_quiet (fail); try go_wp2)
  go_loopg [5] k (fun kq v5 w' => ∃ (x5_1 : Int), v5 = .int .i64 x5_1 ∧ Aside0 (laws_rTable.l0 kq l0 l1 x5_1 = some r) ∧ Aside0 (kq ≤ k) ∧ Drawn0 w w')
  case atStart => exact ⟨(0), yZ, H', ⟨Nat.le_refl _⟩, by repeat (first | exact Drawn0.refl _ | apply Drawn0.step)⟩
  case round =>
   clear H'
   try clear c1; try clear p2; try clear c3; try clear c3b0; try clear c3b1; try clear c3b2
   obtain ⟨x5_1, rfl, HA, HK1, ⟨m1, rfl⟩⟩ := hrel
   cases gk with
   | zero => exact absurd HA.out (by simp [laws_rTable.l0])
   | succ k1 =>
    have H := HA.out
    clear HA
    simp only [laws_rTable.l0] at H
    by_cases c4 : x5_1 < (l0.length : Int)
    ·
     rw [if_pos c4] at H
     have c4b0 := decide_eq_true c4
     clear c4
     by_cases c5 : 0 ≤ x5_1
     ·
      rw [if_pos c5] at H
      have c5b0 := decide_eq_true c5
      clear c5
      by_cases c6 : x5_1 < (l1.length : Int)
      ·
       rw [if_pos c6] at H
       have c6b0 := decide_eq_true c6
       clear c6
       replace H := oB.mp H
       obtain ⟨t349, A70, H⟩ := H
       replace H : (if t349 = true then (laws_rTable.l0 k1 l0 l1 (wrap64 (x5_1 + 1))) else (some false)) = some r := H
       have A7 := aM A70
       clear A70
       by_cases c8 : t349 = true
       ·
        subst c8
        have H1 : (laws_rTable.l0 k1 l0 l1 (wrap64 (x5_1 + 1))) = some r := by rw [if_pos rfl] at H; exact H
        clear H
        have H := H1
        clear H1
        have H' := aM H
        clear H
        have p347 : 0 ≤ (x5_1 : Int) := yA
        have q347 : x5_1 < (l0.length : Int) := yA
        obtain ⟨ad347, A347_0, c347_0, e347, hx347_0, hl347_0, hi347_0⟩ := at_L3 HR0.out x5_1 p347 q347
        cases e347
        have HR347_0 := aM hi347_0
        have HC347_0 := aM hl347_0
        clear hi347_0 hl347_0
        replace p347 := eq_true p347
        replace q347 := eq_true q347
        have p348 : 0 ≤ (x5_1 : Int) := yA
        have q348 : x5_1 < (l1.length : Int) := yA
        obtain ⟨ad348, A348_0, c348_0, e348, hx348_0, hl348_0, hi348_0⟩ := at_L3 HR1.out x5_1 p348 q348
        cases e348
        have HR348_0 := aM hi348_0
        have HC348_0 := aM hl348_0
        clear hi348_0 hl348_0
        replace p348 := eq_true p348
        replace q348 := eq_true q348
        go_wp2_with (first | (go_at_call 43; (with_reducible refine (laws_rInts.calls k1 _ _ (rd_L3 l0 x5_1) _ _ (rd_L3 l1 x5_1) true _ ?side1 ?side2 ?side3 ?side4 A7.out).mono ?_); (case side1 => exact xC HR347_0.out); (case side2 => exact HC347_0.out); (case side3 => exact xC HR348_0.out); (case side4 => exact HC348_0.out); rintro e w' ⟨rfl, ⟨nd, rfl⟩⟩; (try first | exact ⟨rfl, _, World.drewN_drewN _ _ _⟩ | exact ⟨rfl, _, Eq.trans (World.drewN_drewN _ _ _) (congrArg (World.drewN _) (Nat.add_assoc _ _ _))⟩)))
        repeat (go_quiet (first | (go_at_call 43; (with_reducible refine (laws_rInts.calls k1 _ _ (rd_L3 l0 x5_1) _ _ (rd_L3 l1 x5_1) true _ ?side1 ?side2 ?side3 ?side4 A7.out).mono ?_); (case side1 => exact xC HR347_0.out); (case side2 => exact HC347_0.out); (case side3 => exact xC HR348_0.out); (case side4 => exact HC348_0.out); rintro e w' ⟨rfl, ⟨nd, rfl⟩⟩; (try first | exact ⟨rfl, _, World.drewN_drewN _ _ _⟩ | exact ⟨rfl, _, Eq.trans (World.drewN_drewN _ _ _) (congrArg (World.drewN _) (Nat.add_assoc _ _ _))⟩))); try go_wp2_with (first | (go_at_call 43; (with_reducible refine (laws_rInts.calls k1 _ _ (rd_L3 l0 x5_1) _ _ (rd_L3 l1 x5_1) true _ ?side1 ?side2 ?side3 ?side4 A7.out).mono ?_); (case side1 => exact xC HR347_0.out); (case side2 => exact HC347_0.out); (case side3 => exact xC HR348_0.out); (case side4 => exact HC348_0.out); rintro e w' ⟨rfl, ⟨nd, rfl⟩⟩; (try first | exact ⟨rfl, _, World.drewN_drewN _ _ _⟩ | exact ⟨rfl, _, Eq.trans (World.drewN_drewN _ _ _) (congrArg (World.drewN _) (Nat.add_assoc _ _ _))⟩))))
        go_roundg k1
        case measure => have := HK1.out; omega
        case rel => exact ⟨(wrap64 (x5_1 + 1)), yZ, H', ⟨by have := HK1.out; omega⟩, by repeat (first | exact Drawn0.refl _ | apply Drawn0.step)⟩
       ·
        replace c8 := Bool.eq_false_iff.mpr c8
        subst c8
        have H1 : (some false) = some r := by rw [if_neg (show ¬ (false = true) by decide)] at H; exact H
        clear H
        have H := H1
        clear H1
        obtain rfl := Option.some.inj H
        have p347 : 0 ≤ (x5_1 : Int) := yA
        have q347 : x5_1 < (l0.length : Int) := yA
        obtain ⟨ad347, A347_0, c347_0, e347, hx347_0, hl347_0, hi347_0⟩ := at_L3 HR0.out x5_1 p347 q347
        cases e347
        have HR347_0 := aM hi347_0
        have HC347_0 := aM hl347_0
        clear hi347_0 hl347_0
        replace p347 := eq_true p347
        replace q347 := eq_true q347
        have p348 : 0 ≤ (x5_1 : Int) := yA
        have q348 : x5_1 < (l1.length : Int) := yA
        obtain ⟨ad348, A348_0, c348_0, e348, hx348_0, hl348_0, hi348_0⟩ := at_L3 HR1.out x5_1 p348 q348
        cases e348
        have HR348_0 := aM hi348_0
        have HC348_0 := aM hl348_0
        clear hi348_0 hl348_0
        replace p348 := eq_true p348
        replace q348 := eq_true q348
        go_wp2_with (first | (go_at_call 43; (with_reducible refine (laws_rInts.calls k1 _ _ (rd_L3 l0 x5_1) _ _ (rd_L3 l1 x5_1) false _ ?side1 ?side2 ?side3 ?side4 A7.out).mono ?_); (case side1 => exact xC HR347_0.out); (case side2 => exact HC347_0.out); (case side3 => exact xC HR348_0.out); (case side4 => exact HC348_0.out); rintro e w' ⟨rfl, ⟨nd, rfl⟩⟩; (try first | exact ⟨rfl, _, World.drewN_drewN _ _ _⟩ | exact ⟨rfl, _, Eq.trans (World.drewN_drewN _ _ _) (congrArg (World.drewN _) (Nat.add_assoc _ _ _))⟩)))
        repeat (go_quiet (first | (go_at_call 43; (with_reducible refine (laws_rInts.calls k1 _ _ (rd_L3 l0 x5_1) _ _ (rd_L3 l1 x5_1) false _ ?side1 ?side2 ?side3 ?side4 A7.out).mono ?_); (case side1 => exact xC HR347_0.out); (case side2 => exact HC347_0.out); (case side3 => exact xC HR348_0.out); (case side4 => exact HC348_0.out); rintro e w' ⟨rfl, ⟨nd, rfl⟩⟩; (try first | exact ⟨rfl, _, World.drewN_drewN _ _ _⟩ | exact ⟨rfl, _, Eq.trans (World.drewN_drewN _ _ _) (congrArg (World.drewN _) (Nat.add_assoc _ _ _))⟩))); try go_wp2_with (first | (go_at_call 43; (with_reducible refine (laws_rInts.calls k1 _ _ (rd_L3 l0 x5_1) _ _ (rd_L3 l1 x5_1) false _ ?side1 ?side2 ?side3 ?side4 A7.out).mono ?_); (case side1 => exact xC HR347_0.out); (case side2 => exact HC347_0.out); (case side3 => exact xC HR348_0.out); (case side4 => exact HC348_0.out); rintro e w' ⟨rfl, ⟨nd, rfl⟩⟩; (try first | exact ⟨rfl, _, World.drewN_drewN _ _ _⟩ | exact ⟨rfl, _, Eq.trans (World.drewN_drewN _ _ _) (congrArg (World.drewN _) (Nat.add_assoc _ _ _))⟩))))
        go_ret
        exact ⟨by first | rfl | (simp; done) | (simp [*]; done), by repeat (first | exact Drawn0.refl _ | apply Drawn0.step)⟩
      ·
       rw [if_neg c6] at H
       exact absurd H (by simp)
     ·
      rw [if_neg c5] at H
      exact absurd H (by simp)
    ·
     rw [if_neg c4] at H
     have c4b0 := decide_eq_false c4
     clear c4
     obtain rfl := Option.some.inj H
     go_wp2
     repeat (go_quiet (fail); try go_wp2)
     go_ret
     exact ⟨by first | rfl | (simp; done) | (simp [*]; done), by repeat (first | exact Drawn0.refl _ | apply Drawn0.step)⟩
 ·
  rw [if_neg c3] at H
  have c3b0 : ((l0.length : Int) == (l1.length : Int)) = false := beq_eq_false_iff_ne.mpr c3
  have c3b1 : ((l0.length : Int) != (l1.length : Int)) = true := bne_iff_ne.mpr c3
  have c3b2 : (l0.length == l1.length) = false := by first | simpa using c3 | (simp at c3 ⊢; omega)
  obtain rfl := Option.some.inj H
  go_enter Tryd.func11, Tryd.ntmps11
  go_wp2
  repeat (go_quiet (fail); try go_wp2)
  go_ret
  exact ⟨by first | rfl | (simp; done) | (simp [*]; done), by repeat (first | exact Drawn0.refl _ | apply Drawn0.step)⟩
end Go.Proofs.YtkgekmpnbhomgaaDoor.PFnVotes
