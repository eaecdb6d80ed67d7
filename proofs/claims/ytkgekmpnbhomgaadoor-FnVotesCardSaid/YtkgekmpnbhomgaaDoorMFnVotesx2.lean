-- Laid for this claim by a program of the session's own (wip/tool/myprint.py).
import Derived.Test.YtkgekmpnbhomgaaDoorMFnVotesx0
import Derived.Test.YtkgekmpnbhomgaaDoorMFnVotesx1
namespace Go.Proofs.YtkgekmpnbhomgaaDoor.PFnVotes
open Go.RowKit Go.Proofs.YtkgekmpnbhomgaaDoorW.PrintWords Go.Proofs.YtkgekmpnbhomgaaDoorW.PrintLast Go.Proofs.YtkgekmpnbhomgaaDoorW.PrintMore
attribute [local go_sem] max2_int min2_int max_two min_two max_three min_three max_four min_four
set_option linter.unusedVariables false
set_option maxHeartbeats 8000000
set_option maxRecDepth 100000
set_option linter.unusedSimpArgs false
mutual
def spec_l1Cur_someVote.l0 : Nat → Int → Int → List Int → Int → Int → List Int → Int → Option (List Int × Int × Int × Int)
 | 0, _, _, _, _, _, _, _ => none
 | k + 1, x6, x7, x1000, x1001, x1002, x117000, x117001 => if x7 > 0 then ((spec_l1Cur_among.f x1000 x1001 x1002 (([1, 2, 3, 1, 0, 5, 7] : List Int))).bind fun bt127 => (if x117000.length < 17592186044416 then (spec_l1Cur_someVote.l0 k (wrap64 (x6 + bt127.1)) (wrap64 (x7 - 1)) x1000 bt127.2.1 bt127.2.2 (x117000 ++ [bt127.1]) x117001) else (none))) else ((spec_l1Most.f x6 1).bind fun t133 => ((spec_l1Cur_pick.f x1000 x1001 x1002 t133).bind fun bt134 => ((spec_l1Cur_one.f x1000 bt134.2.1 bt134.2.2 3).bind fun bt137 => (if bt137.1 = true then (spec_l1Cur_someVote.j1 k x6 x1000 bt137.2.1 bt137.2.2 x117000 (wrap64 ((wrap64 (Int.tdiv x6 2)) + 1))) else (spec_l1Cur_someVote.j1 k x6 x1000 bt137.2.1 bt137.2.2 x117000 (wrap64 (1 + bt134.1)))))))
def spec_l1Cur_someVote.j1 : Nat → Int → List Int → Int → Int → List Int → Int → Option (List Int × Int × Int × Int)
 | 0, _, _, _, _, _, _ => none
 | k + 1, x6, x1000, x1001, x1002, x117000, x117001 => (spec_l1Cur_pick.f x1000 x1001 x1002 40).bind fun bt140 => (if bt140.1 = 0 then ((spec_l1Cur_among.f x1000 bt140.2.1 bt140.2.2 (([0, x6, wrap64 (x6 + 1), (-1)] : List Int))).bind fun bt146 => (some (x117000, bt146.1, bt146.2.1, bt146.2.2))) else (if bt140.1 = 1 then ((spec_l1Cur_among.f x1000 bt140.2.1 bt140.2.2 (([20, 21, (-1), 4611686018427387904] : List Int))).bind fun bt152 => (if 0 < (x117000.length : Int) then (some ((x117000.set (0 : Int).toNat bt152.1), x117001, bt152.2.1, bt152.2.2)) else (none))) else (if bt140.1 = 2 then (spec_l1Cur_someVote.l1 k x1000 bt140.2.1 bt140.2.2 x117000 x117001) else (if bt140.1 = 3 then (some (([] : List Int), 0, bt140.2.1, bt140.2.2)) else (some (x117000, x117001, bt140.2.1, bt140.2.2))))))
def spec_l1Cur_someVote.l1 : Nat → List Int → Int → Int → List Int → Int → Option (List Int × Int × Int × Int)
 | 0, _, _, _, _, _ => none
 | k + 1, x1000, x1001, x1002, x117000, x117001 => if (x117000.length : Int) < 9 then (if x117000.length < 17592186044416 then (spec_l1Cur_someVote.l1 k x1000 x1001 x1002 (x117000 ++ [1]) x117001) else (none)) else (some (x117000, x117001, x1001, x1002))
end
def spec_l1Cur_someVote.f (k : Nat) (s0_0 : List Int) (s0_1 : Int) (s0_2 : Int) (a1 : Int) : Option (List Int × Int × Int × Int) := (spec_l1Cur_among.f s0_0 s0_1 s0_2 (([3, 4, 5, 2, 1, 6, 8] : List Int))).bind fun bt120 => ((spec_l1Least.f bt120.1 a1).bind fun t123 => (spec_l1Cur_someVote.l0 k 0 t123 s0_0 bt120.2.1 bt120.2.2 ([] : List Int) 0))
theorem spec_l1Cur_someVote.calls (k : Nat) (g : Nat) (s0_0 : List Int) (s0_1 : Int) (s0_2 : Int) (a1 : Int) (r1 : List Int) (r2 : Int) (r3 : Int) (r4 : Int) (w0 w : World) (hI : IsS46 w0 w g s0_0 s0_1 s0_2) (hB : Below w0.heap.size w0 w) (h : spec_l1Cur_someVote.f k s0_0 s0_1 s0_2 a1 = some (r1, r2, r3, r4)) :
  Calls Tryd.prog 49 #[.pointer (some ⟨g, 0, none⟩), .int .i64 a1] w fun e w' => ∃ v0_ : Value, e = .returned (.agg #[v0_, .int .i64 r2]) ∧ Kd.R (Kd.int .i64) 3 w' w.heap.size (fun _ => True) v0_ r1 ∧ IsS46 w0 w' g s0_0 r3 r4 ∧ Below w0.heap.size w0 w' ∧ KeepBut w w' g none := by
 have hu26 := Tryd.underlying26
 have HI0 := aM hI
 have HK := aM (KeepBut.refl w g none)
 have HL := aM hB.size
 clear hI
 have HW0 := aM hB.size
 have HB := aM hB
 clear hB
 have H : ((spec_l1Cur_among.f s0_0 s0_1 s0_2 (([3, 4, 5, 2, 1, 6, 8] : List Int))).bind fun bt120 => ((spec_l1Least.f bt120.1 a1).bind fun t123 => (spec_l1Cur_someVote.l0 k 0 t123 s0_0 bt120.2.1 bt120.2.2 ([] : List Int) 0))) = some (r1, r2, r3, r4) := h
 clear h
 obtain ⟨y117, hy117⟩ := yE (([3, 4, 5, 2, 1, 6, 8] : List Int) : List Int)
 replace H : ((spec_l1Cur_among.f s0_0 s0_1 s0_2 y117).bind fun bt120 => ((spec_l1Least.f bt120.1 a1).bind fun t123 => (spec_l1Cur_someVote.l0 k 0 t123 s0_0 bt120.2.1 bt120.2.2 ([] : List Int) 0))) = some (r1, r2, r3, r4) := by first | (rw [hy117]; with_reducible exact H) | (have H2_ := (Option.bind_some _ _).symm.trans H; rw [hy117]; with_reducible exact H2_) | (have H2_ := (Option.bind_some _ _).symm.trans H; with_reducible exact H2_) | with_reducible exact H | (rw [hy117]; exact H) | exact H
 have Ny117 := aM hy117
 clear hy117
 replace H := oB.mp H
 obtain ⟨⟨t120, t121, t122⟩, A30, H⟩ := H
 replace H : ((spec_l1Least.f t120 a1).bind fun t123 => (spec_l1Cur_someVote.l0 k 0 t123 s0_0 t121 t122 ([] : List Int) 0)) = some (r1, r2, r3, r4) := H
 have A3 := aM A30
 clear A30
 replace H := oB.mp H
 obtain ⟨t123, A40, H⟩ := H
 replace H : (spec_l1Cur_someVote.l0 k 0 t123 s0_0 t121 t122 ([] : List Int) 0) = some (r1, r2, r3, r4) := H
 have A4 := aM A40
 clear A40
 have H' := aM H
 clear H
 go_enter Tryd.func49, Tryd.ntmps49
 go_wp2_with (first | (refine yB 4 #[.slice none 0 0, .int .i64 0] 26 ?_; intro gb115 hg w5 hbox hb; replace HB := aM (below_step (xG1 HB.out (IsS46.ge HI0.out)) hb); have BK115 := aM (hbox); have GW115 := aM ((by rw [hg]; exact (keep_size (w := w) (g := g) (row := none) (xK0 HK.out)) : w.heap.size ≤ gb115)); have GE115 := aM ((Nat.le_trans HW0.out (by rw [hg]; exact (keep_size (w := w) (g := g) (row := none) (xK0 HK.out)) : w.heap.size ≤ gb115) : w0.heap.size ≤ gb115)); replace HK := aM (KeepBut.trans (xK0 HK.out) (KeepBut.of_below hb g none) (.inl rfl)); have NB0_115 := aM ((by rw [hg]; exact Nat.ne_of_lt (IsS46.lt (show IsS46 w0 _ g s0_0 s0_1 s0_2 from IsS46.x0 HI0.out)) : g ≠ gb115)); have NB115_0 := aM ((by rw [hg]; exact Nat.ne_of_gt (IsS46.lt (show IsS46 w0 _ g s0_0 s0_1 s0_2 from IsS46.x0 HI0.out)) : gb115 ≠ g)); replace HI0 := aM (IsS46.below (IsS46.x0 HI0.out) hb); clear hb hbox hg) | (refine yB 5 #[.slice none 0 0, .int .i64 0] 26 ?_; intro gb116 hg w6 hbox hb; replace HB := aM (below_step (xG2 HB.out (IsS46.ge HI0.out) GE115.out) hb); have BK116 := aM (hbox); have GW116 := aM ((by rw [hg]; exact (keep_size (w := w) (g := g) (row := none) (xK1 HK.out GW115.out)) : w.heap.size ≤ gb116)); have GE116 := aM ((Nat.le_trans HW0.out (by rw [hg]; exact (keep_size (w := w) (g := g) (row := none) (xK1 HK.out GW115.out)) : w.heap.size ≤ gb116) : w0.heap.size ≤ gb116)); replace HK := aM (KeepBut.trans (xK1 HK.out GW115.out) (KeepBut.of_below hb g none) (.inl rfl)); have NB115_116 := yX hg BK115; have NB116_115 := yY NB115_116; replace BK115 := yK BK115 hb; have NB0_116 := aM ((by rw [hg]; exact Nat.ne_of_lt (IsS46.lt (show IsS46 w0 _ g s0_0 s0_1 s0_2 from IsS46.x1 HI0.out NB0_115.out)) : g ≠ gb116)); have NB116_0 := aM ((by rw [hg]; exact Nat.ne_of_gt (IsS46.lt (show IsS46 w0 _ g s0_0 s0_1 s0_2 from IsS46.x1 HI0.out NB0_115.out)) : gb116 ≠ g)); replace HI0 := aM (IsS46.below (IsS46.x1 HI0.out NB0_115.out) hb); clear hb hbox hg; have hnb7 := NB116_115.out; have hnc7 := NB115_116.out; have hnb8 := NB116_0.out; have hnc8 := NB0_116.out; obtain ⟨hcz9_0, hcz9_1, hfz9_0, hfz9_1⟩ := yD2 BK116) | ((with_reducible refine gate_dst (N := 11) rfl ?_); refine Kd.R_lit (Kd.int .i64) _ 3 ?hg (N := 11) ?hd (xs := ([3, 4, 5, 2, 1, 6, 8] : List Int)) (inner := [.int .i64 3, .int .i64 4, .int .i64 5, .int .i64 2, .int .i64 1, .int .i64 6, .int .i64 8]) (ok := fun _ => True) (okp := fun _ => True) ?hr ?hp (fun _ hk => hk) trivial (Below.refl _ _) (Nat.le_refl _) (by simp) ?_; (case hd => rfl); (case hg => rfl); (case hr => first | (go_simp; done) | (go_simp; rfl)); (case hp => exact (Reps.one (show Kd.M (Kd.int .i64) _ _ _ 3 [.int .i64 3] from rfl) (Reps.one (show Kd.M (Kd.int .i64) _ _ _ 4 [.int .i64 4] from rfl) (Reps.one (show Kd.M (Kd.int .i64) _ _ _ 5 [.int .i64 5] from rfl) (Reps.one (show Kd.M (Kd.int .i64) _ _ _ 2 [.int .i64 2] from rfl) (Reps.one (show Kd.M (Kd.int .i64) _ _ _ 1 [.int .i64 1] from rfl) (Reps.one (show Kd.M (Kd.int .i64) _ _ _ 6 [.int .i64 6] from rfl) (Reps.one (show Kd.M (Kd.int .i64) _ _ _ 8 [.int .i64 8] from rfl) (Reps.none _ _))))))))); intro v118 w10 ho11 hb hg_ hnew_; clear hg_ hnew_; (first | rw [← Ny117.out] at ho11 | (simp only [Int.reduceToNat] at ho11; rw [← Ny117.out] at ho11)); have HO119 := aM (Kd.R_lower ho11 (keep_size (w := w) (g := g) (row := none) (xK2 HK.out GW115.out GW116.out))); replace BK115 := yK1 BK115 NB115_116 hb; replace BK116 := aM (bB (g := gb116) (o := .cells #[.slice none 0 0, .int .i64 0] 26 (0, 0)) (by (with_reducible repeat (first | refine bN ?_ _ | refine bD ?_ | refine bA ?_ _)); refine blk_put (cs := #[.slice none 0 0, .int .i64 0]) ?_ 1 _ rfl; (with_reducible repeat (first | refine bN ?_ _ | refine bD ?_ | refine bA ?_ _)); refine blk_put (cs := #[.slice none 0 0, .int .i64 0]) ?_ 0 _ rfl; (with_reducible repeat (first | refine bN ?_ _ | refine bD ?_ | refine bA ?_ _)); exact BK116.out) hb); replace HK := aM (KeepBut.trans (xK2 HK.out GW115.out GW116.out) (KeepBut.of_below hb g none) (.inl rfl)); replace HB := aM (below_step (xG3 HB.out (IsS46.ge HI0.out) GE115.out GE116.out) hb); replace HI0 := aM (IsS46.below (show IsS46 w0 ((w6.setCell ⟨gb116, 0, none⟩ (.slice none 0 0)).setCell ⟨gb116, 1, none⟩ (.int .i64 0)) g s0_0 s0_1 s0_2 from IsS46.x2 HI0.out NB0_115.out NB0_116.out) hb); clear hb ho11; obtain ⟨Ao12, co12, eo12⟩ := Kd.R_slice HO119.out; subst eo12) | (refine yL 12 Tryd.func51 #[.pointer (some ⟨g, 0, none⟩), .slice Ao12 y117.length co12] ?_; (with_reducible refine (spec_l1Cur_among.calls g s0_0 s0_1 s0_2 _ _ y117 t120 t121 t122 w0 _ ?side1 ?side2 ?side3 ?side4 ?side5 A3.out).mono ?_); (case side1 => exact IsS46.x2 HI0.out NB0_115.out NB0_116.out); (case side2 => exact xG3 HB.out (IsS46.ge HI0.out) GE115.out GE116.out); (case side3 => exact xC (Kd.R_reads' HO119.out).2.2); (case side4 => exact (Kd.R_reads' HO119.out).2.1); (case side5 => exact far_slice (IsS46.own_ne HI0.out HO119.out (by decide))); rintro e w13 ⟨rfl, hi, hb, hk⟩; refine ⟨_, rfl, ?_⟩; replace BK115 := yQ hk BK115 NB115_0; replace BK116 := yQ hk BK116 NB116_0; replace HO119 := aM (rM (Kd.R_keep (IsS46.apart (show IsS46 w0 _ g s0_0 s0_1 s0_2 from IsS46.x2 HI0.out NB0_115.out NB0_116.out) (xR HO119.out) (by decide)) hk (fun _ h => h.2)) (fun _ h => h.1)); replace HK := aM (KeepBut.trans (xK2 HK.out GW115.out GW116.out) hk (.inl rfl)); replace HB := aM (hb); replace HI0 := aM (hi); (try clear hb; try clear hb2; try clear hk; try clear hi)) | (refine yL 14 Tryd.func26 #[.int .i64 t120, .int .i64 a1] ?_; (with_reducible refine (spec_l1Least.calls t120 a1 t123 _ A4.out).mono ?_); rintro e w' ⟨rfl, ⟨nd, rfl⟩⟩; refine ⟨_, rfl, ?_⟩))
 go_loopg [6, 7] k (fun kq v6 v7 w' => ∃ (x6_1 : Int) (x7_1 : Int) (x1001_1 : Int) (x1002_1 : Int) (x117000_1 : List Int) (u117000 : Value), v6 = .int .i64 x6_1 ∧ v7 = .int .i64 x7_1 ∧ Aside0 (spec_l1Cur_someVote.l0 kq x6_1 x7_1 s0_0 x1001_1 x1002_1 x117000_1 0 = some (r1, r2, r3, r4)) ∧ Aside0 (kq ≤ k) ∧ Aside0 (Kd.R (Kd.int .i64) 3 w' w.heap.size (fun _ => True) u117000 x117000_1) ∧ Aside0 (w'.heap[gb115]? = some (.cells #[(.slice none 0 0), .int .i64 0] 26 (0, 0))) ∧ Aside0 (w'.heap[gb116]? = some (.cells #[u117000, .int .i64 0] 26 (0, 0))) ∧ Aside0 (IsS46 w0 w' g s0_0 x1001_1 x1002_1) ∧ Aside0 (KeepBut w w' g none) ∧ Aside0 (Below w0.heap.size w0 w'))
 case atStart => exact ⟨(0), (t123), (t121), (t122), (([] : List Int)), (.slice none 0 0), yZ, yZ, H', ⟨Nat.le_refl _⟩, ⟨by first | exact Kd.R_nil _ _ _ _ _ | exact Kd.N_nil _ _ _ _ _ | exact Kd.V_nil _ _ _ _ _ | exact Kd.Q_nil _ _ _ _ _ | exact Kd.S_nil _ _ _ _ _⟩, ⟨xB BK115.out⟩, ⟨xB BK116.out⟩, ⟨IsS46.x2 HI0.out NB0_115.out NB0_116.out⟩, ⟨xK2 HK.out GW115.out GW116.out⟩, ⟨xG3 HB.out (IsS46.ge HI0.out) GE115.out GE116.out⟩⟩
 case round =>
  clear H'
  try clear c2; try clear p2; try clear c4; try clear c5; try clear c7; try clear c8; try clear hcz9_0; try clear hcz9_1; try clear hfz9_0; try clear hfz9_1
  obtain ⟨x6_1, x7_1, x1001_1, x1002_1, x117000_1, u117000, rfl, rfl, HA, HK1, HO_117000, BK115, BK116, HI0, HK, HB⟩ := hrel
  cases gk with
  | zero => exact absurd HA.out (by simp [spec_l1Cur_someVote.l0])
  | succ k1 =>
   have H := HA.out
   clear HA
   simp only [spec_l1Cur_someVote.l0] at H
   by_cases c14 : x7_1 > 0
   ·
    rw [if_pos c14] at H
    have c14b0 : decide (0 < x7_1) = true := decide_eq_true c14
    clear c14
    obtain ⟨y124, hy124⟩ := yE (([1, 2, 3, 1, 0, 5, 7] : List Int) : List Int)
    replace H : ((spec_l1Cur_among.f s0_0 x1001_1 x1002_1 y124).bind fun bt127 => (if x117000_1.length < 17592186044416 then (spec_l1Cur_someVote.l0 k1 (wrap64 (x6_1 + bt127.1)) (wrap64 (x7_1 - 1)) s0_0 bt127.2.1 bt127.2.2 (x117000_1 ++ [bt127.1]) 0) else (none))) = some (r1, r2, r3, r4) := by first | (rw [hy124]; with_reducible exact H) | (have H2_ := (Option.bind_some _ _).symm.trans H; rw [hy124]; with_reducible exact H2_) | (have H2_ := (Option.bind_some _ _).symm.trans H; with_reducible exact H2_) | with_reducible exact H | (rw [hy124]; exact H) | exact H
    have Ny124 := aM hy124
    clear hy124
    replace H := oB.mp H
    obtain ⟨⟨t127, t128, t129⟩, A150, H⟩ := H
    replace H : (if x117000_1.length < 17592186044416 then (spec_l1Cur_someVote.l0 k1 (wrap64 (x6_1 + t127)) (wrap64 (x7_1 - 1)) s0_0 t128 t129 (x117000_1 ++ [t127]) 0) else (none)) = some (r1, r2, r3, r4) := H
    have A15 := aM A150
    clear A150
    by_cases c16 : x117000_1.length < 17592186044416
    ·
     rw [if_pos c16] at H
     have LMc16 := aM c16
     clear c16
     obtain ⟨y130, hy130⟩ := yE (x117000_1 ++ [t127] : List Int)
     replace H : (spec_l1Cur_someVote.l0 k1 (wrap64 (x6_1 + t127)) (wrap64 (x7_1 - 1)) s0_0 t128 t129 y130 0) = some (r1, r2, r3, r4) := by first | (rw [hy130]; with_reducible exact H) | (have H2_ := (Option.bind_some _ _).symm.trans H; rw [hy130]; with_reducible exact H2_) | (have H2_ := (Option.bind_some _ _).symm.trans H; with_reducible exact H2_) | with_reducible exact H | (rw [hy130]; exact H) | exact H
     have Ny130 := aM hy130
     clear hy130
     have H' := aM H
     clear H
     go_wp2_with (first | ((with_reducible refine gate_dst (N := 20) rfl ?_); refine Kd.R_lit (Kd.int .i64) _ 3 ?hg (N := 20) ?hd (xs := ([1, 2, 3, 1, 0, 5, 7] : List Int)) (inner := [.int .i64 1, .int .i64 2, .int .i64 3, .int .i64 1, .int .i64 0, .int .i64 5, .int .i64 7]) (ok := fun _ => True) (okp := fun _ => True) ?hr ?hp (fun _ hk => hk) trivial (Below.refl _ _) (Nat.le_refl _) (by simp) ?_; (case hd => rfl); (case hg => rfl); (case hr => first | (go_simp; done) | (go_simp; rfl)); (case hp => exact (Reps.one (show Kd.M (Kd.int .i64) _ _ _ 1 [.int .i64 1] from rfl) (Reps.one (show Kd.M (Kd.int .i64) _ _ _ 2 [.int .i64 2] from rfl) (Reps.one (show Kd.M (Kd.int .i64) _ _ _ 3 [.int .i64 3] from rfl) (Reps.one (show Kd.M (Kd.int .i64) _ _ _ 1 [.int .i64 1] from rfl) (Reps.one (show Kd.M (Kd.int .i64) _ _ _ 0 [.int .i64 0] from rfl) (Reps.one (show Kd.M (Kd.int .i64) _ _ _ 5 [.int .i64 5] from rfl) (Reps.one (show Kd.M (Kd.int .i64) _ _ _ 7 [.int .i64 7] from rfl) (Reps.none _ _))))))))); intro v125 w17 ho18 hb hg_ hnew_; clear hg_ hnew_; (first | rw [← Ny124.out] at ho18 | (simp only [Int.reduceToNat] at ho18; rw [← Ny124.out] at ho18)); have HO126 := aM (Kd.R_lower (Kd.R_new' ho18 (Kd.R_lt (xR HO_117000.out))) (keep_size (w := w) (g := g) (row := none) (xK2 HK.out GW115.out GW116.out))); replace HO_117000 := aM (Kd.R_elder' (xR HO_117000.out) (Kd.R_base ho18) hb); replace BK115 := yK BK115 hb; replace BK116 := yK BK116 hb; replace HK := aM (KeepBut.trans (xK2 HK.out GW115.out GW116.out) (KeepBut.of_below hb g none) (.inl rfl)); replace HB := aM (below_step (xG3 HB.out (IsS46.ge HI0.out) GE115.out GE116.out) hb); replace HI0 := aM (IsS46.below (IsS46.x2 HI0.out NB0_115.out NB0_116.out) hb); clear hb ho18; obtain ⟨Ao19, co19, eo19⟩ := Kd.R_slice HO126.out; subst eo19) | (refine yL 21 Tryd.func51 #[.pointer (some ⟨g, 0, none⟩), .slice Ao19 y124.length co19] ?_; (with_reducible refine (spec_l1Cur_among.calls g s0_0 x1001_1 x1002_1 _ _ y124 t127 t128 t129 w0 _ ?side1 ?side2 ?side3 ?side4 ?side5 A15.out).mono ?_); (case side1 => exact IsS46.x2 HI0.out NB0_115.out NB0_116.out); (case side2 => exact xG3 HB.out (IsS46.ge HI0.out) GE115.out GE116.out); (case side3 => exact xC (Kd.R_reads' HO126.out).2.2); (case side4 => exact (Kd.R_reads' HO126.out).2.1); (case side5 => exact far_slice (IsS46.own_ne HI0.out HO126.out (by decide))); rintro e w20 ⟨rfl, hi, hb, hk⟩; refine ⟨_, rfl, ?_⟩; replace HO_117000 := aM (rM (Kd.R_keep (IsS46.apart (show IsS46 w0 _ g s0_0 x1001_1 x1002_1 from IsS46.x2 HI0.out NB0_115.out NB0_116.out) (xR HO_117000.out) (by decide)) hk (fun _ h => h.2)) (fun _ h => h.1)); replace BK115 := yQ hk BK115 NB115_0; replace BK116 := yQ hk BK116 NB116_0; replace HO126 := aM (rM (Kd.R_keep (IsS46.apart (show IsS46 w0 _ g s0_0 x1001_1 x1002_1 from IsS46.x2 HI0.out NB0_115.out NB0_116.out) (xR HO126.out) (by decide)) hk (fun _ h => h.2)) (fun _ h => h.1)); replace HK := aM (KeepBut.trans (xK2 HK.out GW115.out GW116.out) hk (.inl rfl)); replace HB := aM (hb); replace HI0 := aM (hi); (try clear hb; try clear hb2; try clear hk; try clear hi); have hnb21 := NB116_115.out; have hnc21 := NB115_116.out; have hnb22 := NB116_0.out; have hnc22 := NB0_116.out; obtain ⟨hcz23_0, hcz23_1, hfz23_0, hfz23_1⟩ := yD2 BK116) | ((with_reducible refine gate_builtin (b := .append) (xs := #[.tmp 23, .tmp 25]) rfl ?_); at_builtin; refine Kd.R_append (Kd.int .i64) w.heap.size rfl (.tmp 23) (.tmp 25) 24 3 (.int .i64 0) 8 rfl Tryd.underlying24 info3 rfl (by decide) (by omega) u117000 x117000_1 t127 [.int .i64 t127] (fun k_ => some k_ ≠ (.slice Ao19 y124.length co19 : Value).ownBlock) (fun _ => False) rfl rfl ?aP (fun _ hk => hk.elim) ?aF ?aO (Below.refl _ _) ?aS ?aL ?_; (case aP => exact rfl); (case aF => exact (fun k_ hk => Kd.fresh' (Kd.R_lt (xR HO126.out)) k_ hk)); (case aO => exact (zR (rM HO_117000.out (fun _ hk => hk.2)))); (case aS => exact (keep_size (w := w) (g := g) (row := none) (xK2 HK.out GW115.out GW116.out))); (case aL => have := LMc16.out; omega); intro v131 w24 ho hb hg hat; rw [← Ny130.out] at ho; replace BK115 := yR BK115 hg (Kd.R_ne HO_117000.out BK115.out (by decide)); replace BK116 := yR BK116 hg (Kd.R_ne HO_117000.out BK116.out (by decide)); replace HO126 := aM (Kd.R_after (ok := (fun _ => True)) (xR HO126.out) hg hat); replace HB := aM (below_weaken (xG3 HB.out (IsS46.ge HI0.out) GE115.out GE116.out) HL.out hb); replace HI0 := aM (IsS46.grown (IsS46.x2 HI0.out NB0_115.out NB0_116.out) hg (IsS46.own_ne HI0.out HO_117000.out (by decide))); replace HK := aM (KeepBut.trans (xK2 HK.out GW115.out GW116.out) (KeepBut.of_grown hg g) (Kd.R_base2 HO_117000.out)); have HO132 := aM (ho); clear HO_117000; clear ho hb hg hat; obtain ⟨Ao25, co25, eo25⟩ := Kd.R_slice HO132.out; subst eo25; obtain ⟨hcz26_0, hcz26_1, hfz26_0, hfz26_1⟩ := yD2 BK116))
     go_roundg k1
     case measure => have := HK1.out; omega
     case rel => exact ⟨(wrap64 (x6_1 + t127)), (wrap64 (x7_1 - 1)), (t128), (t129), (y130), (.slice Ao25 y130.length co25), yZ, yZ, H', ⟨by have := HK1.out; omega⟩, ⟨zR (rM (Kd.R_far (p := ⟨gb116, 0, none⟩) (Kd.R_types HO132.out BK116.out (by decide)) (fun _ hk => hk.2) (.slice Ao25 y130.length co25)) (fun _ hk => trivial))⟩, ⟨by (with_reducible repeat (first | refine bN ?_ _ | refine bD ?_ | refine bA ?_ _)); refine blk_far ?_ NB115_116.out _; (with_reducible repeat (first | refine bN ?_ _ | refine bD ?_ | refine bA ?_ _)); exact BK115.out⟩, ⟨by (with_reducible repeat (first | refine bN ?_ _ | refine bD ?_ | refine bA ?_ _)); refine blk_put (cs := #[u117000, .int .i64 0]) ?_ 0 _ rfl; (with_reducible repeat (first | refine bN ?_ _ | refine bD ?_ | refine bA ?_ _)); exact BK116.out⟩, ⟨IsS46.x2 HI0.out NB0_115.out NB0_116.out⟩, ⟨xK2 HK.out GW115.out GW116.out⟩, ⟨xG3 HB.out (IsS46.ge HI0.out) GE115.out GE116.out⟩⟩
    ·
     rw [if_neg c16] at H
     exact absurd H (by simp)
   ·
    rw [if_neg c14] at H
    have c14b0 : decide (0 < x7_1) = false := decide_eq_false c14
    clear c14
    replace H := oB.mp H
    obtain ⟨t133, A270, H⟩ := H
    replace H : ((spec_l1Cur_pick.f s0_0 x1001_1 x1002_1 t133).bind fun bt134 => ((spec_l1Cur_one.f s0_0 bt134.2.1 bt134.2.2 3).bind fun bt137 => (if bt137.1 = true then (spec_l1Cur_someVote.j1 k1 x6_1 s0_0 bt137.2.1 bt137.2.2 x117000_1 (wrap64 ((wrap64 (Int.tdiv x6_1 2)) + 1))) else (spec_l1Cur_someVote.j1 k1 x6_1 s0_0 bt137.2.1 bt137.2.2 x117000_1 (wrap64 (1 + bt134.1)))))) = some (r1, r2, r3, r4) := H
    have A27 := aM A270
    clear A270
    replace H := oB.mp H
    obtain ⟨⟨t134, t135, t136⟩, A280, H⟩ := H
    replace H : ((spec_l1Cur_one.f s0_0 t135 t136 3).bind fun bt137 => (if bt137.1 = true then (spec_l1Cur_someVote.j1 k1 x6_1 s0_0 bt137.2.1 bt137.2.2 x117000_1 (wrap64 ((wrap64 (Int.tdiv x6_1 2)) + 1))) else (spec_l1Cur_someVote.j1 k1 x6_1 s0_0 bt137.2.1 bt137.2.2 x117000_1 (wrap64 (1 + t134))))) = some (r1, r2, r3, r4) := H
    have A28 := aM A280
    clear A280
    replace H := oB.mp H
    obtain ⟨⟨t137, t138, t139⟩, A290, H⟩ := H
    replace H : (if t137 = true then (spec_l1Cur_someVote.j1 k1 x6_1 s0_0 t138 t139 x117000_1 (wrap64 ((wrap64 (Int.tdiv x6_1 2)) + 1))) else (spec_l1Cur_someVote.j1 k1 x6_1 s0_0 t138 t139 x117000_1 (wrap64 (1 + t134)))) = some (r1, r2, r3, r4) := H
    have A29 := aM A290
    clear A290
    have HC30 := aM H
    clear H
    go_upto_if 38 with (first | (refine yL 33 Tryd.func62 #[.int .i64 x6_1, .int .i64 1] ?_; (with_reducible refine (spec_l1Most.calls x6_1 1 t133 _ A27.out).mono ?_); rintro e w' ⟨rfl, ⟨nd, rfl⟩⟩; refine ⟨_, rfl, ?_⟩; (try (rw [drewN_self wr]; generalize hq_ : World.drewN wr _ = wr; have n0_ : Aside0 (Kd.R (Kd.int .i64) 3 wr w.heap.size (fun k_ => True) u117000 x117000_1) := ⟨by rw [← hq_]; exact (xR HO_117000.out)⟩; have n1_ : Aside0 (wr.heap[gb115]? = some (.cells #[.slice none 0 0, .int .i64 0] 26 (0, 0))) := ⟨by rw [← hq_]; exact (xB BK115.out)⟩; have n2_ : Aside0 (wr.heap[gb116]? = some (.cells #[u117000, .int .i64 0] 26 (0, 0))) := ⟨by rw [← hq_]; exact (xB BK116.out)⟩; have n3_ : Aside0 (IsS46 w0 wr g s0_0 x1001_1 x1002_1) := ⟨by rw [← hq_]; exact (IsS46.x2 HI0.out NB0_115.out NB0_116.out)⟩; have n4_ : Aside0 (KeepBut w wr g none) := ⟨by rw [← hq_]; exact (xK2 HK.out GW115.out GW116.out)⟩; have n5_ : Aside0 (Below w0.heap.size w0 wr) := ⟨by rw [← hq_]; exact (xG3 HB.out (IsS46.ge HI0.out) GE115.out GE116.out)⟩; clear HO_117000 BK115 BK116 HI0 HK HB hq_; have HO_117000 := n0_; have BK115 := n1_; have BK116 := n2_; have HI0 := n3_; have HK := n4_; have HB := n5_; clear n0_ n1_ n2_ n3_ n4_ n5_))) | (refine yL 34 Tryd.func27 #[.pointer (some ⟨g, 0, none⟩), .int .i64 t133] ?_; (with_reducible refine (spec_l1Cur_pick.calls g s0_0 x1001_1 x1002_1 t133 t134 t135 t136 w0 _ ?side1 ?side2 A28.out).mono ?_); (case side1 => exact IsS46.x2 HI0.out NB0_115.out NB0_116.out); (case side2 => exact xG3 HB.out (IsS46.ge HI0.out) GE115.out GE116.out); rintro e w31 ⟨rfl, hi, hb, hk⟩; refine ⟨_, rfl, ?_⟩; replace HO_117000 := aM (rM (Kd.R_keep (IsS46.apart (show IsS46 w0 _ g s0_0 x1001_1 x1002_1 from IsS46.x2 HI0.out NB0_115.out NB0_116.out) (xR HO_117000.out) (by decide)) hk (fun _ h => h.2)) (fun _ h => h.1)); replace BK115 := yQ hk BK115 NB115_0; replace BK116 := yQ hk BK116 NB116_0; replace HK := aM (KeepBut.trans (xK2 HK.out GW115.out GW116.out) hk (.inl rfl)); replace HB := aM (hb); replace HI0 := aM (hi); (try clear hb; try clear hb2; try clear hk; try clear hi); have hnb32 := NB116_115.out; have hnc32 := NB115_116.out; have hnb33 := NB116_0.out; have hnc33 := NB0_116.out; obtain ⟨hcz34_0, hcz34_1, hfz34_0, hfz34_1⟩ := yD2 BK116) | (refine yL 38 Tryd.func28 #[.pointer (some ⟨g, 0, none⟩), .int .i64 3] ?_; (with_reducible refine (spec_l1Cur_one.calls g s0_0 t135 t136 3 t137 t138 t139 w0 _ ?side1 ?side2 A29.out).mono ?_); (case side1 => exact IsS46.x2 HI0.out NB0_115.out NB0_116.out); (case side2 => exact xG3 HB.out (IsS46.ge HI0.out) GE115.out GE116.out); rintro e w35 ⟨rfl, hi, hb, hk⟩; refine ⟨_, rfl, ?_⟩; replace HO_117000 := aM (rM (Kd.R_keep (IsS46.apart (show IsS46 w0 _ g s0_0 t135 t136 from IsS46.x2 HI0.out NB0_115.out NB0_116.out) (zR (rM (Kd.R_far (p := ⟨gb116, 1, none⟩) (Kd.R_types HO_117000.out BK116.out (by decide)) (fun _ hk => hk.2) (.int .i64 (wrap64 (1 + t134)))) (fun _ h_ => h_.1))) (by decide)) hk (fun _ h => h.2)) (fun _ h => h.1)); replace BK115 := yQ1 hk BK115 NB115_0 NB115_116; replace BK116 := aM (KeepBut.blk hk (g' := gb116) (o := .cells #[u117000, .int .i64 (wrap64 (1 + t134))] 26 (0, 0)) (by (with_reducible repeat (first | refine bN ?_ _ | refine bD ?_ | refine bA ?_ _)); refine blk_put (cs := #[u117000, .int .i64 0]) ?_ 1 _ rfl; (with_reducible repeat (first | refine bN ?_ _ | refine bD ?_ | refine bA ?_ _)); exact BK116.out) NB116_0.out (by simp)); replace HK := aM (KeepBut.trans (xK2 HK.out GW115.out GW116.out) hk (.inl rfl)); replace HB := aM (hb); replace HI0 := aM (hi); (try clear hb; try clear hb2; try clear hk; try clear hi)))
    (try simp only [Act.put, sA, sZ, sU])
    go_cut [] (fun wc => ∃ (kq : Nat) (x117001_29 : Int), Aside0 (spec_l1Cur_someVote.j1 kq x6_1 s0_0 t138 t139 x117000_1 x117001_29 = some (r1, r2, r3, r4)) ∧ Aside0 (kq ≤ k1) ∧ Aside0 (Kd.R (Kd.int .i64) 3 wc w.heap.size (fun _ => True) u117000 x117000_1) ∧ Aside0 (wc.heap[gb115]? = some (.cells #[(.slice none 0 0), .int .i64 0] 26 (0, 0))) ∧ Aside0 (wc.heap[gb116]? = some (.cells #[u117000, .int .i64 x117001_29] 26 (0, 0))) ∧ Aside0 (IsS46 w0 wc g s0_0 t138 t139) ∧ Aside0 (KeepBut w wc g none) ∧ Aside0 (Below w0.heap.size w0 wc))
    case first =>
     have H := HC30.out
     clear HC30
     by_cases c36 : t137 = true
     ·
      subst c36
      have H1 : (spec_l1Cur_someVote.j1 k1 x6_1 s0_0 t138 t139 x117000_1 (wrap64 ((wrap64 (Int.tdiv x6_1 2)) + 1))) = some (r1, r2, r3, r4) := by rw [if_pos rfl] at H; exact H
      clear H
      have H := H1
      clear H1
      have H' := aM H
      clear H
      have hnb37 := NB116_115.out
      have hnc37 := NB115_116.out
      have hnb38 := NB116_0.out
      have hnc38 := NB0_116.out
      have hcz39_0 := yC0 BK116
      have hcz39_1 := yC1 BK116
      have hfz39_0 := bF BK116.out 0
      have hfz39_1 := bF BK116.out 1
      go_wp2
      go_meet
      case rel => exact ⟨_, (wrap64 ((wrap64 (Int.tdiv x6_1 2)) + 1)), H', ⟨by have := HK1.out; first | omega | exact Nat.le_refl _⟩, ⟨zR (rM (Kd.R_far (p := ⟨gb116, 1, none⟩) (Kd.R_types HO_117000.out BK116.out (by decide)) (fun _ hk => hk.2) (.int .i64 (wrap64 ((wrap64 (Int.tdiv x6_1 2)) + 1)))) (fun _ hk => trivial))⟩, ⟨by (with_reducible repeat (first | refine bN ?_ _ | refine bD ?_ | refine bA ?_ _)); refine blk_far ?_ NB115_116.out _; (with_reducible repeat (first | refine bN ?_ _ | refine bD ?_ | refine bA ?_ _)); exact BK115.out⟩, ⟨by (with_reducible repeat (first | refine bN ?_ _ | refine bD ?_ | refine bA ?_ _)); refine blk_put (cs := #[u117000, .int .i64 (wrap64 (1 + t134))]) ?_ 1 _ rfl; (with_reducible repeat (first | refine bN ?_ _ | refine bD ?_ | refine bA ?_ _)); exact BK116.out⟩, ⟨IsS46.x2 HI0.out NB0_115.out NB0_116.out⟩, ⟨xK2 HK.out GW115.out GW116.out⟩, ⟨xG3 HB.out (IsS46.ge HI0.out) GE115.out GE116.out⟩⟩
     ·
      replace c36 := Bool.eq_false_iff.mpr c36
      subst c36
      have H1 : (spec_l1Cur_someVote.j1 k1 x6_1 s0_0 t138 t139 x117000_1 (wrap64 (1 + t134))) = some (r1, r2, r3, r4) := by rw [if_neg (show ¬ (false = true) by decide)] at H; exact H
      clear H
      have H := H1
      clear H1
      have H' := aM H
      clear H
      go_wp2
      go_meet
      case rel => exact ⟨_, (wrap64 (1 + t134)), H', ⟨by have := HK1.out; first | omega | exact Nat.le_refl _⟩, ⟨xR HO_117000.out⟩, ⟨xB BK115.out⟩, ⟨xB BK116.out⟩, ⟨IsS46.x2 HI0.out NB0_115.out NB0_116.out⟩, ⟨xK2 HK.out GW115.out GW116.out⟩, ⟨xG3 HB.out (IsS46.ge HI0.out) GE115.out GE116.out⟩⟩
    case rest =>
     clear HC30
     try clear c1; try clear c2; try clear p2; try clear c3; try clear c4; try clear c5; try clear c6; try clear p6; try clear c7; try clear c8; try clear c14; try clear c14b0; try clear c16; try clear c21; try clear c22; try clear c26; try clear c27; try clear c28; try clear c32; try clear c33; try clear c36; try clear c37; try clear c38; try clear hcz23_0; try clear hcz23_1; try clear hcz26_0; try clear hcz26_1; try clear hcz34_0; try clear hcz34_1; try clear hcz39_0; try clear hcz39_1; try clear hcz9_0; try clear hcz9_1; try clear hfz23_0; try clear hfz23_1; try clear hfz26_0; try clear hfz26_1; try clear hfz34_0; try clear hfz34_1; try clear hfz39_0; try clear hfz39_1; try clear hfz9_0; try clear hfz9_1; try clear p2
     obtain ⟨kq, x117001_29, HA, HJ29, HO_117000, BK115, BK116, HI0, HK, HB⟩ := hcut
     cases kq with
     | zero => exact absurd HA.out (by simp [spec_l1Cur_someVote.j1])
     | succ kj29 =>
      have H := HA.out
      clear HA
      simp only [spec_l1Cur_someVote.j1] at H
      replace H := oB.mp H
      obtain ⟨⟨t140, t141, t142⟩, A400, H⟩ := H
      replace H : (if t140 = 0 then ((spec_l1Cur_among.f s0_0 t141 t142 (([0, x6_1, wrap64 (x6_1 + 1), (-1)] : List Int))).bind fun bt146 => (some (x117000_1, bt146.1, bt146.2.1, bt146.2.2))) else (if t140 = 1 then ((spec_l1Cur_among.f s0_0 t141 t142 (([20, 21, (-1), 4611686018427387904] : List Int))).bind fun bt152 => (if 0 < (x117000_1.length : Int) then (some ((x117000_1.set (0 : Int).toNat bt152.1), x117001_29, bt152.2.1, bt152.2.2)) else (none))) else (if t140 = 2 then (spec_l1Cur_someVote.l1 kj29 s0_0 t141 t142 x117000_1 x117001_29) else (if t140 = 3 then (some (([] : List Int), 0, t141, t142)) else (some (x117000_1, x117001_29, t141, t142)))))) = some (r1, r2, r3, r4) := H
      have A40 := aM A400
      clear A400
      by_cases c41 : t140 = 0
      ·
       rw [if_pos c41] at H
       have c41b0 : (t140 == 0) = true := beq_iff_eq.mpr c41
       have c41b1 : (t140 != 0) = false := bne_eq_false_iff_eq.mpr c41
       clear c41
       obtain ⟨y143, hy143⟩ := yE (([0, x6_1, wrap64 (x6_1 + 1), (-1)] : List Int) : List Int)
       replace H : ((spec_l1Cur_among.f s0_0 t141 t142 y143).bind fun bt146 => (some (x117000_1, bt146.1, bt146.2.1, bt146.2.2))) = some (r1, r2, r3, r4) := by first | (rw [hy143]; with_reducible exact H) | (have H2_ := (Option.bind_some _ _).symm.trans H; rw [hy143]; with_reducible exact H2_) | (have H2_ := (Option.bind_some _ _).symm.trans H; with_reducible exact H2_) | with_reducible exact H | (rw [hy143]; exact H) | exact H
       have Ny143 := aM hy143
       clear hy143
       replace H := oB.mp H
       obtain ⟨⟨t146, t147, t148⟩, A420, H⟩ := H
       replace H : (some (x117000_1, t146, t147, t148)) = some (r1, r2, r3, r4) := H
       have A42 := aM A420
       clear A420
       simp only [Option.some.injEq, Prod.mk.injEq] at H
       obtain ⟨rfl, rfl, rfl, rfl⟩ := H
       go_wp2_with (first | (refine yL 44 Tryd.func27 #[.pointer (some ⟨g, 0, none⟩), .int .i64 40] ?_; (with_reducible refine (spec_l1Cur_pick.calls g s0_0 t138 t139 40 t140 t141 t142 w0 _ ?side1 ?side2 A40.out).mono ?_); (case side1 => exact IsS46.x2 HI0.out NB0_115.out NB0_116.out); (case side2 => exact xG3 HB.out (IsS46.ge HI0.out) GE115.out GE116.out); rintro e w43 ⟨rfl, hi, hb, hk⟩; refine ⟨_, rfl, ?_⟩; replace HO_117000 := aM (rM (Kd.R_keep (IsS46.apart (show IsS46 w0 _ g s0_0 t138 t139 from IsS46.x2 HI0.out NB0_115.out NB0_116.out) (xR HO_117000.out) (by decide)) hk (fun _ h => h.2)) (fun _ h => h.1)); replace BK115 := yQ hk BK115 NB115_0; replace BK116 := yQ hk BK116 NB116_0; replace HK := aM (KeepBut.trans (xK2 HK.out GW115.out GW116.out) hk (.inl rfl)); replace HB := aM (hb); replace HI0 := aM (hi); (try clear hb; try clear hb2; try clear hk; try clear hi)) | ((with_reducible refine gate_dst (N := 51) rfl ?_); refine Kd.R_lit (Kd.int .i64) _ 3 ?hg (N := 51) ?hd (xs := ([0, x6_1, wrap64 (x6_1 + 1), (-1)] : List Int)) (inner := [.int .i64 0, .int .i64 x6_1, .int .i64 (wrap64 (x6_1 + 1)), .int .i64 (-1)]) (ok := fun _ => True) (okp := fun _ => True) ?hr ?hp (fun _ hk => hk) trivial (Below.refl _ _) (Nat.le_refl _) (by simp) ?_; (case hd => rfl); (case hg => rfl); (case hr => first | (go_simp; done) | (go_simp; rfl)); (case hp => exact (Reps.one (show Kd.M (Kd.int .i64) _ _ _ 0 [.int .i64 0] from rfl) (Reps.one (show Kd.M (Kd.int .i64) _ _ _ x6_1 [.int .i64 x6_1] from rfl) (Reps.one (show Kd.M (Kd.int .i64) _ _ _ (wrap64 (x6_1 + 1)) [.int .i64 (wrap64 (x6_1 + 1))] from rfl) (Reps.one (show Kd.M (Kd.int .i64) _ _ _ (-1) [.int .i64 (-1)] from rfl) (Reps.none _ _)))))); intro v144 w44 ho45 hb hg_ hnew_; clear hg_ hnew_; (first | rw [← Ny143.out] at ho45 | (simp only [Int.reduceToNat] at ho45; rw [← Ny143.out] at ho45)); have HO145 := aM (Kd.R_lower (Kd.R_new' ho45 (Kd.R_lt (xR HO_117000.out))) (keep_size (w := w) (g := g) (row := none) (xK2 HK.out GW115.out GW116.out))); replace HO_117000 := aM (Kd.R_elder' (xR HO_117000.out) (Kd.R_base ho45) hb); replace BK115 := yK BK115 hb; replace BK116 := yK BK116 hb; replace HK := aM (KeepBut.trans (xK2 HK.out GW115.out GW116.out) (KeepBut.of_below hb g none) (.inl rfl)); replace HB := aM (below_step (xG3 HB.out (IsS46.ge HI0.out) GE115.out GE116.out) hb); replace HI0 := aM (IsS46.below (IsS46.x2 HI0.out NB0_115.out NB0_116.out) hb); clear hb ho45; obtain ⟨Ao46, co46, eo46⟩ := Kd.R_slice HO145.out; subst eo46) | (refine yL 52 Tryd.func51 #[.pointer (some ⟨g, 0, none⟩), .slice Ao46 y143.length co46] ?_; (with_reducible refine (spec_l1Cur_among.calls g s0_0 t141 t142 _ _ y143 t146 t147 t148 w0 _ ?side1 ?side2 ?side3 ?side4 ?side5 A42.out).mono ?_); (case side1 => exact IsS46.x2 HI0.out NB0_115.out NB0_116.out); (case side2 => exact xG3 HB.out (IsS46.ge HI0.out) GE115.out GE116.out); (case side3 => exact xC (Kd.R_reads' HO145.out).2.2); (case side4 => exact (Kd.R_reads' HO145.out).2.1); (case side5 => exact far_slice (IsS46.own_ne HI0.out HO145.out (by decide))); rintro e w47 ⟨rfl, hi, hb, hk⟩; refine ⟨_, rfl, ?_⟩; replace HO_117000 := aM (rM (Kd.R_keep (IsS46.apart (show IsS46 w0 _ g s0_0 t141 t142 from IsS46.x2 HI0.out NB0_115.out NB0_116.out) (xR HO_117000.out) (by decide)) hk (fun _ h => h.2)) (fun _ h => h.1)); replace BK115 := yQ hk BK115 NB115_0; replace BK116 := yQ hk BK116 NB116_0; replace HO145 := aM (rM (Kd.R_keep (IsS46.apart (show IsS46 w0 _ g s0_0 t141 t142 from IsS46.x2 HI0.out NB0_115.out NB0_116.out) (xR HO145.out) (by decide)) hk (fun _ h => h.2)) (fun _ h => h.1)); replace HK := aM (KeepBut.trans (xK2 HK.out GW115.out GW116.out) hk (.inl rfl)); replace HB := aM (hb); replace HI0 := aM (hi); (try clear hb; try clear hb2; try clear hk; try clear hi); have hnb48 := NB116_115.out; have hnc48 := NB115_116.out; have hnb49 := NB116_0.out; have hnc49 := NB0_116.out; obtain ⟨hcz50_0, hcz50_1, hfz50_0, hfz50_1⟩ := yD2 BK116; obtain ⟨Ao51, co51, eo51⟩ := Kd.R_slice HO_117000.out; subst eo51; have hnb52 := NB115_0.out; have hnc52 := NB0_115.out; obtain ⟨hcz53_0, hcz53_1, hfz53_0, hfz53_1⟩ := yD2 BK115))
       refine bodyPost_ret (results_cell_row rfl _ _ gb115 26 #[.slice Ao51 x117000_1.length co51, .int .i64 t146] (0, 0) _ rfl (by (with_reducible repeat (first | refine bN ?_ _ | refine bD ?_ | refine bA ?_ _)); refine blk_put (cs := #[.slice Ao51 x117000_1.length co51, .int .i64 0]) ?_ 1 _ rfl; (with_reducible repeat (first | refine bN ?_ _ | refine bD ?_ | refine bA ?_ _)); refine blk_put (cs := #[.slice none 0 0, .int .i64 0]) ?_ 0 _ rfl; (with_reducible repeat (first | refine bN ?_ _ | refine bD ?_ | refine bA ?_ _)); refine blk_far ?_ NB115_116.out _; (with_reducible repeat (first | refine bN ?_ _ | refine bD ?_ | refine bA ?_ _)); exact BK115.out) Tryd.underlying26 rfl (by kernel_rfl)) rfl ?_
       exact ⟨_, yF, zR (rM (Kd.R_far (p := ⟨gb115, 1, none⟩) (Kd.R_far (p := ⟨gb115, 0, none⟩) (Kd.R_far (p := ⟨gb116, 1, none⟩) (Kd.R_types (Kd.R_types HO_117000.out BK116.out (by decide)) BK115.out (by decide)) (fun _ hk => hk.1.2) (.int .i64 t146)) (fun _ hk => hk.2) (.slice Ao51 x117000_1.length co51)) (fun _ hk => hk.2) (.int .i64 t146)) (fun _ hk => trivial)), IsS46.x2 HI0.out NB0_115.out NB0_116.out, xG3 HB.out (IsS46.ge HI0.out) GE115.out GE116.out, xK2 HK.out GW115.out GW116.out⟩
      ·
       rw [if_neg c41] at H
       have c41b0 : (t140 == 0) = false := beq_eq_false_iff_ne.mpr c41
       have c41b1 : (t140 != 0) = true := bne_iff_ne.mpr c41
       by_cases c54 : t140 = 1
       ·
        rw [if_pos c54] at H
        have c54b0 : (t140 == 1) = true := beq_iff_eq.mpr c54
        have c54b1 : (t140 != 1) = false := bne_eq_false_iff_eq.mpr c54
        clear c54
        obtain ⟨y149, hy149⟩ := yE (([20, 21, (-1), 4611686018427387904] : List Int) : List Int)
        replace H : ((spec_l1Cur_among.f s0_0 t141 t142 y149).bind fun bt152 => (if 0 < (x117000_1.length : Int) then (some ((x117000_1.set (0 : Int).toNat bt152.1), x117001_29, bt152.2.1, bt152.2.2)) else (none))) = some (r1, r2, r3, r4) := by first | (rw [hy149]; with_reducible exact H) | (have H2_ := (Option.bind_some _ _).symm.trans H; rw [hy149]; with_reducible exact H2_) | (have H2_ := (Option.bind_some _ _).symm.trans H; with_reducible exact H2_) | with_reducible exact H | (rw [hy149]; exact H) | exact H
        have Ny149 := aM hy149
        clear hy149
        replace H := oB.mp H
        obtain ⟨⟨t152, t153, t154⟩, A550, H⟩ := H
        replace H : (if 0 < (x117000_1.length : Int) then (some ((x117000_1.set (0 : Int).toNat t152), x117001_29, t153, t154)) else (none)) = some (r1, r2, r3, r4) := H
        have A55 := aM A550
        clear A550
        by_cases c56 : 0 < (x117000_1.length : Int)
        ·
         rw [if_pos c56] at H
         have c56b0 := decide_eq_true c56
         have c56b1 : decide (0 < x117000_1.length) = true := decide_eq_true (by omega)
         clear c56
         obtain ⟨y155, hy155⟩ := yE (x117000_1.set (0 : Int).toNat t152 : List Int)
         replace H : (some (y155, x117001_29, t153, t154)) = some (r1, r2, r3, r4) := by first | (rw [hy155]; with_reducible exact H) | (have H2_ := (Option.bind_some _ _).symm.trans H; rw [hy155]; with_reducible exact H2_) | (have H2_ := (Option.bind_some _ _).symm.trans H; with_reducible exact H2_) | with_reducible exact H | (rw [hy155]; exact H) | exact H
         have Ny155 := aM hy155
         clear hy155
         simp only [Option.some.injEq, Prod.mk.injEq] at H
         obtain ⟨rfl, rfl, rfl, rfl⟩ := H
         try go_wp2_with (first | (refine yL 44 Tryd.func27 #[.pointer (some ⟨g, 0, none⟩), .int .i64 40] ?_; (with_reducible refine (spec_l1Cur_pick.calls g s0_0 t138 t139 40 t140 t141 t142 w0 _ ?side1 ?side2 A40.out).mono ?_); (case side1 => exact IsS46.x2 HI0.out NB0_115.out NB0_116.out); (case side2 => exact xG3 HB.out (IsS46.ge HI0.out) GE115.out GE116.out); rintro e w58 ⟨rfl, hi, hb, hk⟩; refine ⟨_, rfl, ?_⟩; replace HO_117000 := aM (rM (Kd.R_keep (IsS46.apart (show IsS46 w0 _ g s0_0 t138 t139 from IsS46.x2 HI0.out NB0_115.out NB0_116.out) (xR HO_117000.out) (by decide)) hk (fun _ h => h.2)) (fun _ h => h.1)); replace BK115 := yQ hk BK115 NB115_0; replace BK116 := yQ hk BK116 NB116_0; replace HK := aM (KeepBut.trans (xK2 HK.out GW115.out GW116.out) hk (.inl rfl)); replace HB := aM (hb); replace HI0 := aM (hi); (try clear hb; try clear hb2; try clear hk; try clear hi)))
         replace HO_117000 := aM (rD HO_117000.out)
         replace BK115 := aM (bD BK115.out)
         replace BK116 := aM (bD BK116.out)
         replace HI0 := aM (IsS46.drew HI0.out)
         replace HK := aM (keep_drew HK.out)
         replace HB := aM (eD HB.out)
         refine start_ (n := 7) (S := fun w' => w'.cell? ⟨gb116, 0, none⟩ = some (u117000) ∧ w'.cell? ⟨gb116, 1, none⟩ = some (.int .i64 x117001_29)) (ds := [6]) (bm 7 0) (by kernel_rfl) rfl rfl ⟨(bC BK116.out 0).trans rfl, (bC BK116.out 1).trans rfl⟩ (fun hHeld => ?_)
         generalize w58.drew = w59 at HO_117000 BK115 BK116 HI0 HK HB hHeld ⊢
         refine pure_ (i := 0) (N := some 56) (v := ?_) (a' := ?_) (bm 7 1) rfl rfl (by kernel_rfl) (fun _ _ _ h => h) (Or.inl ⟨by rfl, ?_⟩) ?_ ?_
         rotate_left
         ·
          intro w'
          go_simp
          with_reducible rfl
         rotate_left
         ·
          simp only [Act.put, sA, sZ, sU, i64_w, i32_w]
          rfl
         refine pure_ (i := 2) (N := some 58) (v := ?_) (a' := ?_) (bm 7 5) rfl rfl (by kernel_rfl) (fun _ _ _ h => h) (Or.inl ⟨by rfl, ?_⟩) ?_ ?_
         rotate_left
         ·
          intro w'
          go_simp
          with_reducible rfl
         rotate_left
         ·
          simp only [Act.put, sA, sZ, sU, i64_w, i32_w]
          rfl
         refine take_ (i := 1) (N := some 57) (v := ?_) (a' := ?_) (bm 7 7) rfl rfl (by kernel_rfl) (fun _ _ _ h => h) (Or.inl ⟨by rfl, ?_⟩) hHeld ?_ ?_
         rotate_left
         ·
          rintro w' ⟨s0, s1⟩
          first | (go_simp; with_reducible rfl) | (simp only [add_plain] at s0 s1; go_simp; with_reducible rfl)
         rotate_left
         ·
          simp only [Act.put, sA, sZ, sU, i64_w, i32_w]
          rfl
         refine one_ (i := 3) (N := some 59) (bm 7 15) rfl rfl (by kernel_rfl) (by decide) (fun K hK => ?_)
         refine Kd.R_lit_step (Kd.int .i64) _ 3 ?hg (N := 59) ?hd (xs := ([20, 21, (-1), 4611686018427387904] : List Int)) (inner := [.int .i64 20, .int .i64 21, .int .i64 (-1), .int .i64 4611686018427387904]) (ok := fun _ => True) (okp := fun _ => True) ?hr ?hp (fun _ hk => hk) trivial (Below.refl _ _) (Nat.le_refl _) (by simp) ?_; (case hd => rfl); (case hg => rfl); (case hr => first | (go_simp; done) | (go_simp; rfl)); (case hp => exact (Reps.one (show Kd.M (Kd.int .i64) _ _ _ 20 [.int .i64 20] from rfl) (Reps.one (show Kd.M (Kd.int .i64) _ _ _ 21 [.int .i64 21] from rfl) (Reps.one (show Kd.M (Kd.int .i64) _ _ _ (-1) [.int .i64 (-1)] from rfl) (Reps.one (show Kd.M (Kd.int .i64) _ _ _ 4611686018427387904 [.int .i64 4611686018427387904] from rfl) (Reps.none _ _))))))
         intro v150 w60 ho61 hb hg_ hnew_
         clear hg_ hnew_
         (first | rw [← Ny149.out] at ho61 | (simp only [Int.reduceToNat] at ho61; rw [← Ny149.out] at ho61))
         have n0_ := aM (Kd.R_elder' (xR HO_117000.out) (Kd.R_base ho61) hb)
         have n1_ := aM (Kd.R_lower (Kd.R_new' ho61 (Kd.R_lt (xR HO_117000.out))) (keep_size (w := w) (g := g) (row := none) (xK2 HK.out GW115.out GW116.out)))
         have n2_ := yK BK115 hb
         have n3_ := yK BK116 hb
         have n4_ := aM (IsS46.below (IsS46.x2 HI0.out NB0_115.out NB0_116.out) hb)
         have n5_ := aM (KeepBut.trans (xK2 HK.out GW115.out GW116.out) (KeepBut.of_below hb g none) (.inl rfl))
         have n6_ := aM (below_step (xG3 HB.out (IsS46.ge HI0.out) GE115.out GE116.out) hb)
         clear HO_117000 BK115 BK116 HI0 HK HB
         have HO_117000 := n0_
         have HO151 := n1_
         have BK115 := n2_
         have BK116 := n3_
         have HI0 := n4_
         have HK := n5_
         have HB := n6_
         clear n0_ n1_ n2_ n3_ n4_ n5_ n6_ hb ho61
         obtain ⟨Ao62, co62, eo62⟩ := Kd.R_slice HO151.out
         (first | subst eo62 | (injection eo62 with f1_ f2_ f3_; have f4_ := f1_.symm; have f5_ := f3_.symm; clear f1_ f2_ f3_; subst f4_; subst f5_))
         refine hK.out _ _ ⟨(bC BK116.out 0).trans rfl, (bC BK116.out 1).trans rfl⟩ (fun hHeld => ?_)
         clear hK K
         refine norm_ (a' := ?_) ?_ ?_
         rotate_left
         ·
          show Act.put _ (some 59) _ = _
          simp only [Act.put, sA, sZ, sU, i64_w, i32_w]
          rfl
         refine one_ (i := 4) (N := some 60) (bm 7 31) rfl rfl (by kernel_rfl) (by decide) (fun K hK => ?_)
         refine yG Tryd.func51 #[.pointer (some ⟨g, 0, none⟩), .slice Ao62 y149.length co62] ?_
         with_reducible refine (spec_l1Cur_among.calls g s0_0 t141 t142 _ _ y149 t152 t153 t154 w0 _ ?side1 ?side2 ?side3 ?side4 ?side5 A55.out).mono ?_
         (case side1 => exact IsS46.x2 HI0.out NB0_115.out NB0_116.out)
         (case side2 => exact xG3 HB.out (IsS46.ge HI0.out) GE115.out GE116.out)
         (case side3 => exact xC (Kd.R_reads' HO151.out).2.2)
         (case side4 => exact (Kd.R_reads' HO151.out).2.1)
         (case side5 => exact far_slice (IsS46.own_ne HI0.out HO151.out (by decide)))
         rintro e w63 ⟨rfl, hi, hb, hk⟩
         refine ⟨_, rfl, ?_⟩
         replace HO_117000 := aM (rM (Kd.R_keep (IsS46.apart (show IsS46 w0 _ g s0_0 t141 t142 from IsS46.x2 HI0.out NB0_115.out NB0_116.out) (xR HO_117000.out) (by decide)) hk (fun _ h => h.2)) (fun _ h => h.1))
         replace BK115 := yQ hk BK115 NB115_0
         replace BK116 := yQ hk BK116 NB116_0
         replace HO151 := aM (rM (Kd.R_keep (IsS46.apart (show IsS46 w0 _ g s0_0 t141 t142 from IsS46.x2 HI0.out NB0_115.out NB0_116.out) (xR HO151.out) (by decide)) hk (fun _ h => h.2)) (fun _ h => h.1))
         replace HK := aM (KeepBut.trans (xK2 HK.out GW115.out GW116.out) hk (.inl rfl))
         replace HB := aM (hb)
         replace HI0 := aM (hi)
         (try clear hb)
         (try clear hb2)
         (try clear hk)
         (try clear hi)
         have p57 : 0 ≤ (0 : Int) := (by omega)
         have q57 : (0 : Int) < ((x117000_1.length : Int) : Int) := yA
         have qi57 : (0 < x117000_1.length) = True := eq_true (by omega)
         obtain ⟨go57, co57, eo57, gb57, gl57, cl57, HG57⟩ := Kd.R_form HO_117000.out (by omega)
         (first | cases eo57 | (injection eo57 with ea_ en_ ec_; (first | subst ea_ | (injection ea_ with ea_; subst ea_)); subst ec_; clear en_))
         have GB57 := aM gb57
         have GG57 := aM HG57
         clear gb57 gl57 HG57
         obtain ⟨hx57_0, hf57_0⟩ := Kd.R_celln 0 HO_117000.out (0 : Int) p57 q57
         (try rw [show ((0 : Int)).toNat = 0 from rfl] at hx57_0)
         (try simp only [Nat.reduceMul, Nat.zero_mul, Nat.zero_add, Nat.reduceAdd] at hx57_0)
         (try rw [show ((0 : Int)).toNat = 0 from rfl] at hf57_0)
         (try simp only [Nat.reduceMul, Nat.zero_mul, Nat.zero_add, Nat.reduceAdd] at hf57_0)
         replace p57 := eq_true p57
         replace q57 := eq_true q57
         have HN0_go57 := aM (show g ≠ go57 from by have h_ := IsS46.own_ne HI0.out HO_117000.out (by decide); intro e_; exact h_ (by rw [e_]; rfl))
         have HP64 := Kd.R_putn HO_117000.out (0 : Int) t152
         rw [← Ny155.out] at HP64
         have HQ64 := aM HP64
         clear HP64
         refine hK.out _ _ ⟨(bC BK116.out 0).trans rfl, (bC BK116.out 1).trans rfl⟩ (fun hHeld => ?_)
         clear hK K
         refine norm_ (a' := ?_) ?_ ?_
         rotate_left
         ·
          show Act.put _ (some 60) _ = _
          simp only [Act.put, sA, sZ, sU, i64_w, i32_w]
          rfl
         refine pure_ (i := 5) (N := some 61) (v := ?_) (a' := ?_) (bm 7 63) rfl rfl (by kernel_rfl) (fun _ _ _ h => h) (Or.inl ⟨by rfl, ?_⟩) ?_ ?_
         rotate_left
         ·
          intro w'
          go_simp
          with_reducible rfl
         rotate_left
         ·
          simp only [Act.put, sA, sZ, sU, i64_w, i32_w]
          rfl
         refine last_ (i := 6) (N := none) (bm 7 127) rfl rfl (by kernel_rfl) (by decide) (fun K hK => ?_)
         refine skip_ (w1 := ?_) (by rfl) rfl ?_ ?_
         rotate_left
         ·
          go_simp
          rfl
         refine hK.out _ _ ?_
         clear hK K
         refine done_ (by kernel_rfl) ?_
         have n0_ : Aside0 (Kd.R (Kd.int .i64) 3 (w63.setCell ⟨go57, 0, none⟩ (.int .i64 t152)) w.heap.size (fun k_ => some k_ ≠ (.slice Ao62 y149.length co62 : Value).ownBlock) (.slice (some ⟨go57, 0, none⟩) x117000_1.length co57) y155) := ⟨zR (rM HQ64.out (fun _ hk => hk.2))⟩
         have n1_ : Aside0 (Kd.R (Kd.int .i64) 3 (w63.setCell ⟨go57, 0, none⟩ (.int .i64 t152)) w.heap.size (fun k_ => some k_ ≠ (.slice (some ⟨go57, 0, none⟩) x117000_1.length co57 : Value).ownBlock) (.slice Ao62 y149.length co62) y149) := ⟨zR (rM (Kd.R_far (p := ⟨go57, 0, none⟩) (rM HO151.out (fun k_ hk => (⟨hk, fun e_ => hk.2 (by rw [e_]; rfl)⟩ : _ ∧ k_ ≠ go57))) (fun _ hk => hk.2) (.int .i64 t152)) (fun _ hk => hk.1.2))⟩
         have n2_ : Aside0 ((w63.setCell ⟨go57, 0, none⟩ (.int .i64 t152)).heap[gb115]? = some (.cells #[.slice none 0 0, .int .i64 0] 26 (0, 0))) := ⟨by (with_reducible repeat (first | refine bN ?_ _ | refine bD ?_ | refine bA ?_ _)); refine blk_far ?_ (by have h_ := Kd.R_ne HO_117000.out BK115.out (by decide); intro e_; exact h_ (by rw [e_]; rfl)) _; (with_reducible repeat (first | refine bN ?_ _ | refine bD ?_ | refine bA ?_ _)); exact BK115.out⟩
         have n3_ : Aside0 ((w63.setCell ⟨go57, 0, none⟩ (.int .i64 t152)).heap[gb116]? = some (.cells #[.slice (some ⟨go57, 0, none⟩) x117000_1.length co57, .int .i64 x117001_29] 26 (0, 0))) := ⟨by (with_reducible repeat (first | refine bN ?_ _ | refine bD ?_ | refine bA ?_ _)); refine blk_far ?_ (by have h_ := Kd.R_ne HO_117000.out BK116.out (by decide); intro e_; exact h_ (by rw [e_]; rfl)) _; (with_reducible repeat (first | refine bN ?_ _ | refine bD ?_ | refine bA ?_ _)); exact BK116.out⟩
         have n4_ : Aside0 (IsS46 w0 (w63.setCell ⟨go57, 0, none⟩ (.int .i64 t152)) g s0_0 t153 t154) := ⟨IsS46.x3 HI0.out HN0_go57.out NB0_115.out NB0_116.out⟩
         have n5_ : Aside0 (KeepBut w (w63.setCell ⟨go57, 0, none⟩ (.int .i64 t152)) g none) := ⟨xK3 HK.out GB57.out GW115.out GW116.out⟩
         have n6_ : Aside0 (Below w0.heap.size w0 (w63.setCell ⟨go57, 0, none⟩ (.int .i64 t152))) := ⟨by repeat (first | (with_reducible first | exact HB.out | apply eA | apply eN | apply eD | refine eS ?_ (Nat.le_trans HL.out GB57.out) | refine eS ?_ (IsS46.ge HI0.out) | refine eS ?_ GE115.out | refine eS ?_ GE116.out) | exact HB.out)⟩
         (try clear HO_117000)
         (try clear HO151)
         (try clear BK115)
         (try clear BK116)
         (try clear HI0)
         (try clear HK)
         (try clear HB)
         generalize (w63.setCell ⟨go57, 0, none⟩ (.int .i64 t152)) = w65 at n0_ n1_ n2_ n3_ n4_ n5_ n6_ ⊢
         have HO_117000 := n0_
         have HO151 := n1_
         have BK115 := n2_
         have BK116 := n3_
         have HI0 := n4_
         have HK := n5_
         have HB := n6_
         clear n0_ n1_ n2_ n3_ n4_ n5_ n6_
         have hnb66 := NB116_115.out
         have hnc66 := NB115_116.out
         have hnb67 := NB116_0.out
         have hnc67 := NB0_116.out
         have hcz68_0 := yC0 BK116
         have hcz68_1 := yC1 BK116
         have hfz68_0 := bF BK116.out 0
         have hfz68_1 := bF BK116.out 1
         have hnb69 := NB115_0.out
         have hnc69 := NB0_115.out
         have hcz70_0 := yC0 BK115
         have hcz70_1 := yC1 BK115
         have hfz70_0 := bF BK115.out 0
         have hfz70_1 := bF BK115.out 1
         try go_wp2
         refine bodyPost_ret (results_cell_row rfl _ _ gb115 26 #[.slice (some ⟨go57, 0, none⟩) x117000_1.length co57, .int .i64 x117001_29] (0, 0) _ rfl (by (with_reducible repeat (first | refine bN ?_ _ | refine bD ?_ | refine bA ?_ _)); refine blk_put (cs := #[.slice (some ⟨go57, 0, none⟩) x117000_1.length co57, .int .i64 0]) ?_ 1 _ rfl; (with_reducible repeat (first | refine bN ?_ _ | refine bD ?_ | refine bA ?_ _)); refine blk_put (cs := #[.slice none 0 0, .int .i64 0]) ?_ 0 _ rfl; (with_reducible repeat (first | refine bN ?_ _ | refine bD ?_ | refine bA ?_ _)); exact BK115.out) Tryd.underlying26 rfl (by kernel_rfl)) rfl ?_
         exact ⟨_, yF, zR (rM (Kd.R_far (p := ⟨gb115, 1, none⟩) (Kd.R_far (p := ⟨gb115, 0, none⟩) (Kd.R_types HO_117000.out BK115.out (by decide)) (fun _ hk => hk.2) (.slice (some ⟨go57, 0, none⟩) x117000_1.length co57)) (fun _ hk => hk.2) (.int .i64 x117001_29)) (fun _ hk => trivial)), IsS46.x2 HI0.out NB0_115.out NB0_116.out, xG3 HB.out (IsS46.ge HI0.out) GE115.out GE116.out, xK2 HK.out GW115.out GW116.out⟩
        ·
         rw [if_neg c56] at H
         exact absurd H (by simp)
       ·
        rw [if_neg c54] at H
        have c54b0 : (t140 == 1) = false := beq_eq_false_iff_ne.mpr c54
        have c54b1 : (t140 != 1) = true := bne_iff_ne.mpr c54
        by_cases c71 : t140 = 2
        ·
         rw [if_pos c71] at H
         have c71b0 : (t140 == 2) = true := beq_iff_eq.mpr c71
         have c71b1 : (t140 != 2) = false := bne_eq_false_iff_eq.mpr c71
         clear c71
         have H' := aM H
         clear H
         go_wp2_with (first | (refine yL 44 Tryd.func27 #[.pointer (some ⟨g, 0, none⟩), .int .i64 40] ?_; (with_reducible refine (spec_l1Cur_pick.calls g s0_0 t138 t139 40 t140 t141 t142 w0 _ ?side1 ?side2 A40.out).mono ?_); (case side1 => exact IsS46.x2 HI0.out NB0_115.out NB0_116.out); (case side2 => exact xG3 HB.out (IsS46.ge HI0.out) GE115.out GE116.out); rintro e w72 ⟨rfl, hi, hb, hk⟩; refine ⟨_, rfl, ?_⟩; replace HO_117000 := aM (rM (Kd.R_keep (IsS46.apart (show IsS46 w0 _ g s0_0 t138 t139 from IsS46.x2 HI0.out NB0_115.out NB0_116.out) (xR HO_117000.out) (by decide)) hk (fun _ h => h.2)) (fun _ h => h.1)); replace BK115 := yQ hk BK115 NB115_0; replace BK116 := yQ hk BK116 NB116_0; replace HK := aM (KeepBut.trans (xK2 HK.out GW115.out GW116.out) hk (.inl rfl)); replace HB := aM (hb); replace HI0 := aM (hi); (try clear hb; try clear hb2; try clear hk; try clear hi)))
         go_loopg [] kj29 (fun kq w' => ∃ (x117000_3 : List Int) (u117000 : Value), Aside0 (spec_l1Cur_someVote.l1 kq s0_0 t141 t142 x117000_3 x117001_29 = some (r1, r2, r3, r4)) ∧ Aside0 (kq ≤ kj29) ∧ Aside0 (Kd.R (Kd.int .i64) 3 w' w.heap.size (fun _ => True) u117000 x117000_3) ∧ Aside0 (w'.heap[gb115]? = some (.cells #[(.slice none 0 0), .int .i64 0] 26 (0, 0))) ∧ Aside0 (w'.heap[gb116]? = some (.cells #[u117000, .int .i64 x117001_29] 26 (0, 0))) ∧ Aside0 (IsS46 w0 w' g s0_0 t141 t142) ∧ Aside0 (KeepBut w w' g none) ∧ Aside0 (Below w0.heap.size w0 w'))
         case atStart => exact ⟨(x117000_1), (u117000), H', ⟨Nat.le_refl _⟩, ⟨xR HO_117000.out⟩, ⟨xB BK115.out⟩, ⟨xB BK116.out⟩, ⟨IsS46.x2 HI0.out NB0_115.out NB0_116.out⟩, ⟨xK2 HK.out GW115.out GW116.out⟩, ⟨xG3 HB.out (IsS46.ge HI0.out) GE115.out GE116.out⟩⟩
         case round =>
          clear H'
          try clear c1; try clear c2; try clear p2; try clear c3; try clear c4; try clear c5; try clear p5; try clear q5; try clear hx5; try clear qi5; try clear hf5; try clear c6; try clear p6; try clear c7; try clear c8; try clear c14; try clear c14b0; try clear c16; try clear c21; try clear c22; try clear c26; try clear c27; try clear c28; try clear c32; try clear c33; try clear c36; try clear c37; try clear c38; try clear c41; try clear c41b0; try clear c41b1; try clear c48; try clear c49; try clear c51; try clear c52; try clear c54; try clear c54b0; try clear c54b1; try clear c56; try clear c56b0; try clear c56b1; try clear p57; try clear q57; try clear hx57; try clear qi57; try clear hf57; try clear c62; try clear p64; try clear c66; try clear c67; try clear c69; try clear c71; try clear c71b0; try clear c71b1; try clear hcz23_0; try clear hcz23_1; try clear hcz26_0; try clear hcz26_1; try clear hcz34_0; try clear hcz34_1; try clear hcz39_0; try clear hcz39_1; try clear hcz50_0; try clear hcz50_1; try clear hcz53_0; try clear hcz53_1; try clear hcz68_0; try clear hcz68_1; try clear hcz70_0; try clear hcz70_1; try clear hcz9_0; try clear hcz9_1; try clear hfz23_0; try clear hfz23_1; try clear hfz26_0; try clear hfz26_1; try clear hfz34_0; try clear hfz34_1; try clear hfz39_0; try clear hfz39_1; try clear hfz50_0; try clear hfz50_1; try clear hfz53_0; try clear hfz53_1; try clear hfz68_0; try clear hfz68_1; try clear hfz70_0; try clear hfz70_1; try clear hfz9_0; try clear hfz9_1; try clear hx57_0; try clear p2; try clear p57; try clear p6; try clear q57
          obtain ⟨x117000_3, u117000, HA, HK3, HO_117000, BK115, BK116, HI0, HK, HB⟩ := hrel
          cases gk with
          | zero => exact absurd HA.out (by simp [spec_l1Cur_someVote.l1])
          | succ k3 =>
           have H := HA.out
           clear HA
           simp only [spec_l1Cur_someVote.l1] at H
           by_cases c73 : (x117000_3.length : Int) < 9
           ·
            rw [if_pos c73] at H
            have c73b0 := decide_eq_true c73
            have c73b1 : decide (x117000_3.length < 9) = true := decide_eq_true (by omega)
            clear c73
            by_cases c74 : x117000_3.length < 17592186044416
            ·
             rw [if_pos c74] at H
             have LMc74 := aM c74
             clear c74
             obtain ⟨y156, hy156⟩ := yE (x117000_3 ++ [1] : List Int)
             replace H : (spec_l1Cur_someVote.l1 k3 s0_0 t141 t142 y156 x117001_29) = some (r1, r2, r3, r4) := by first | (rw [hy156]; with_reducible exact H) | (have H2_ := (Option.bind_some _ _).symm.trans H; rw [hy156]; with_reducible exact H2_) | (have H2_ := (Option.bind_some _ _).symm.trans H; with_reducible exact H2_) | with_reducible exact H | (rw [hy156]; exact H) | exact H
             have Ny156 := aM hy156
             clear hy156
             have H' := aM H
             clear H
             have hnb75 := NB116_115.out
             have hnc75 := NB115_116.out
             have hnb76 := NB116_0.out
             have hnc76 := NB0_116.out
             have hcz77_0 : wr.cell? ⟨gb116, 0, none⟩ = some (u117000) := (bC BK116.out 0).trans rfl
             have hcz77_1 : wr.cell? ⟨gb116, 1, none⟩ = some (.int .i64 x117001_29) := (bC BK116.out 1).trans rfl
             have hfz77_0 := bF BK116.out 0
             have hfz77_1 := bF BK116.out 1
             obtain ⟨Ao78, co78, eo78⟩ := Kd.R_slice HO_117000.out
             subst eo78
             go_wp2_with (first | ((with_reducible refine gate_builtin (b := .append) (xs := #[.tmp 69, .tmp 70]) rfl ?_); at_builtin; refine Kd.R_append (Kd.int .i64) w.heap.size rfl (.tmp 69) (.tmp 70) 24 3 (.int .i64 0) 8 rfl Tryd.underlying24 info3 rfl (by decide) (by omega) (.slice Ao78 x117000_3.length co78) x117000_3 1 [.int .i64 1] (fun _ => True) (fun _ => False) rfl rfl ?aP (fun _ hk => hk.elim) ?aF ?aO (Below.refl _ _) ?aS ?aL ?_; (case aP => exact rfl); (case aF => exact (fun _ _ => trivial)); (case aO => exact (xR HO_117000.out)); (case aS => exact (keep_size (w := w) (g := g) (row := none) (xK2 HK.out GW115.out GW116.out))); (case aL => have := LMc74.out; omega); intro v157 w79 ho hb hg hat; rw [← Ny156.out] at ho; replace BK115 := yR BK115 hg (Kd.R_ne HO_117000.out BK115.out (by decide)); replace BK116 := yR BK116 hg (Kd.R_ne HO_117000.out BK116.out (by decide)); replace HB := aM (below_weaken (xG3 HB.out (IsS46.ge HI0.out) GE115.out GE116.out) HL.out hb); replace HI0 := aM (IsS46.grown (IsS46.x2 HI0.out NB0_115.out NB0_116.out) hg (IsS46.own_ne HI0.out HO_117000.out (by decide))); replace HK := aM (KeepBut.trans (xK2 HK.out GW115.out GW116.out) (KeepBut.of_grown hg g) (Kd.R_base2 HO_117000.out)); have HO158 := aM (ho); clear HO_117000; clear ho hb hg hat; obtain ⟨Ao80, co80, eo80⟩ := Kd.R_slice HO158.out; subst eo80; obtain ⟨hcz81_0, hcz81_1, hfz81_0, hfz81_1⟩ := yD2 BK116))
             go_roundg k3
             case measure => have := HK1.out; have := HJ29.out; have := HK3.out; omega
             case rel => exact ⟨(y156), (.slice Ao80 y156.length co80), H', ⟨by have := HK1.out; have := HJ29.out; have := HK3.out; omega⟩, ⟨zR (rM (Kd.R_far (p := ⟨gb116, 0, none⟩) (Kd.R_types HO158.out BK116.out (by decide)) (fun _ hk => hk.2) (.slice Ao80 y156.length co80)) (fun _ hk => trivial))⟩, ⟨by (with_reducible repeat (first | refine bN ?_ _ | refine bD ?_ | refine bA ?_ _)); refine blk_far ?_ NB115_116.out _; (with_reducible repeat (first | refine bN ?_ _ | refine bD ?_ | refine bA ?_ _)); exact BK115.out⟩, ⟨by (with_reducible repeat (first | refine bN ?_ _ | refine bD ?_ | refine bA ?_ _)); refine blk_put (cs := #[.slice Ao78 x117000_3.length co78, .int .i64 x117001_29]) ?_ 0 _ rfl; (with_reducible repeat (first | refine bN ?_ _ | refine bD ?_ | refine bA ?_ _)); exact BK116.out⟩, ⟨IsS46.x2 HI0.out NB0_115.out NB0_116.out⟩, ⟨xK2 HK.out GW115.out GW116.out⟩, ⟨xG3 HB.out (IsS46.ge HI0.out) GE115.out GE116.out⟩⟩
            ·
             rw [if_neg c74] at H
             exact absurd H (by simp)
           ·
            rw [if_neg c73] at H
            have c73b0 := decide_eq_false c73
            have c73b1 : decide (x117000_3.length < 9) = false := decide_eq_false (by omega)
            clear c73
            simp only [Option.some.injEq, Prod.mk.injEq] at H
            obtain ⟨rfl, rfl, rfl, rfl⟩ := H
            have hnb82 := NB116_115.out
            have hnc82 := NB115_116.out
            have hnb83 := NB116_0.out
            have hnc83 := NB0_116.out
            have hcz84_0 : wr.cell? ⟨gb116, 0, none⟩ = some (u117000) := (bC BK116.out 0).trans rfl
            have hcz84_1 : wr.cell? ⟨gb116, 1, none⟩ = some (.int .i64 x117001_29) := (bC BK116.out 1).trans rfl
            have hfz84_0 := bF BK116.out 0
            have hfz84_1 := bF BK116.out 1
            obtain ⟨Ao85, co85, eo85⟩ := Kd.R_slice HO_117000.out
            subst eo85
            have hnb86 := NB115_0.out
            have hnc86 := NB0_115.out
            have hcz87_0 : wr.cell? ⟨gb115, 0, none⟩ = some (.slice none 0 0) := (bC BK115.out 0).trans rfl
            have hcz87_1 : wr.cell? ⟨gb115, 1, none⟩ = some (.int .i64 0) := (bC BK115.out 1).trans rfl
            have hfz87_0 := bF BK115.out 0
            have hfz87_1 := bF BK115.out 1
            go_wp2
            refine bodyPost_ret (results_cell_row rfl _ _ gb115 26 #[.slice Ao85 x117000_3.length co85, .int .i64 x117001_29] (0, 0) _ rfl (by (with_reducible repeat (first | refine bN ?_ _ | refine bD ?_ | refine bA ?_ _)); refine blk_put (cs := #[.slice Ao85 x117000_3.length co85, .int .i64 0]) ?_ 1 _ rfl; (with_reducible repeat (first | refine bN ?_ _ | refine bD ?_ | refine bA ?_ _)); refine blk_put (cs := #[.slice none 0 0, .int .i64 0]) ?_ 0 _ rfl; (with_reducible repeat (first | refine bN ?_ _ | refine bD ?_ | refine bA ?_ _)); exact BK115.out) Tryd.underlying26 rfl (by kernel_rfl)) rfl ?_
            exact ⟨_, yF, zR (rM (Kd.R_far (p := ⟨gb115, 1, none⟩) (Kd.R_far (p := ⟨gb115, 0, none⟩) (Kd.R_types HO_117000.out BK115.out (by decide)) (fun _ hk => hk.2) (.slice Ao85 x117000_3.length co85)) (fun _ hk => hk.2) (.int .i64 x117001_29)) (fun _ hk => trivial)), IsS46.x2 HI0.out NB0_115.out NB0_116.out, xG3 HB.out (IsS46.ge HI0.out) GE115.out GE116.out, xK2 HK.out GW115.out GW116.out⟩
        ·
         rw [if_neg c71] at H
         have c71b0 : (t140 == 2) = false := beq_eq_false_iff_ne.mpr c71
         have c71b1 : (t140 != 2) = true := bne_iff_ne.mpr c71
         by_cases c88 : t140 = 3
         ·
          rw [if_pos c88] at H
          have c88b0 : (t140 == 3) = true := beq_iff_eq.mpr c88
          have c88b1 : (t140 != 3) = false := bne_eq_false_iff_eq.mpr c88
          clear c88
          simp only [Option.some.injEq, Prod.mk.injEq] at H
          obtain ⟨rfl, rfl, rfl, rfl⟩ := H
          go_wp2_with (first | (refine yL 44 Tryd.func27 #[.pointer (some ⟨g, 0, none⟩), .int .i64 40] ?_; (with_reducible refine (spec_l1Cur_pick.calls g s0_0 t138 t139 40 t140 t141 t142 w0 _ ?side1 ?side2 A40.out).mono ?_); (case side1 => exact IsS46.x2 HI0.out NB0_115.out NB0_116.out); (case side2 => exact xG3 HB.out (IsS46.ge HI0.out) GE115.out GE116.out); rintro e w89 ⟨rfl, hi, hb, hk⟩; refine ⟨_, rfl, ?_⟩; replace HO_117000 := aM (rM (Kd.R_keep (IsS46.apart (show IsS46 w0 _ g s0_0 t138 t139 from IsS46.x2 HI0.out NB0_115.out NB0_116.out) (xR HO_117000.out) (by decide)) hk (fun _ h => h.2)) (fun _ h => h.1)); replace BK115 := yQ hk BK115 NB115_0; replace BK116 := yQ hk BK116 NB116_0; replace HK := aM (KeepBut.trans (xK2 HK.out GW115.out GW116.out) hk (.inl rfl)); replace HB := aM (hb); replace HI0 := aM (hi); (try clear hb; try clear hb2; try clear hk; try clear hi); have hnb90 := NB115_116.out; have hnc90 := NB116_115.out; have hnb91 := NB115_0.out; have hnc91 := NB0_115.out; obtain ⟨hcz92_0, hcz92_1, hfz92_0, hfz92_1⟩ := yD2 BK115))
          refine bodyPost_ret (results_cell_row rfl _ _ gb115 26 #[.slice none 0 0, .int .i64 0] (0, 0) _ rfl (by (with_reducible repeat (first | refine bN ?_ _ | refine bD ?_ | refine bA ?_ _)); refine blk_put (cs := #[.slice none 0 0, .int .i64 0]) ?_ 1 _ rfl; (with_reducible repeat (first | refine bN ?_ _ | refine bD ?_ | refine bA ?_ _)); refine blk_put (cs := #[.slice none 0 0, .int .i64 0]) ?_ 0 _ rfl; (with_reducible repeat (first | refine bN ?_ _ | refine bD ?_ | refine bA ?_ _)); exact BK115.out) Tryd.underlying26 rfl (by kernel_rfl)) rfl ?_
          exact ⟨_, yF, by first | exact Kd.R_nil _ _ _ _ _ | exact Kd.N_nil _ _ _ _ _ | exact Kd.V_nil _ _ _ _ _ | exact Kd.Q_nil _ _ _ _ _ | exact Kd.S_nil _ _ _ _ _, IsS46.x2 HI0.out NB0_115.out NB0_116.out, xG3 HB.out (IsS46.ge HI0.out) GE115.out GE116.out, xK2 HK.out GW115.out GW116.out⟩
         ·
          rw [if_neg c88] at H
          have c88b0 : (t140 == 3) = false := beq_eq_false_iff_ne.mpr c88
          have c88b1 : (t140 != 3) = true := bne_iff_ne.mpr c88
          simp only [Option.some.injEq, Prod.mk.injEq] at H
          obtain ⟨rfl, rfl, rfl, rfl⟩ := H
          go_wp2_with (first | (refine yL 44 Tryd.func27 #[.pointer (some ⟨g, 0, none⟩), .int .i64 40] ?_; (with_reducible refine (spec_l1Cur_pick.calls g s0_0 t138 t139 40 t140 t141 t142 w0 _ ?side1 ?side2 A40.out).mono ?_); (case side1 => exact IsS46.x2 HI0.out NB0_115.out NB0_116.out); (case side2 => exact xG3 HB.out (IsS46.ge HI0.out) GE115.out GE116.out); rintro e w93 ⟨rfl, hi, hb, hk⟩; refine ⟨_, rfl, ?_⟩; replace HO_117000 := aM (rM (Kd.R_keep (IsS46.apart (show IsS46 w0 _ g s0_0 t138 t139 from IsS46.x2 HI0.out NB0_115.out NB0_116.out) (xR HO_117000.out) (by decide)) hk (fun _ h => h.2)) (fun _ h => h.1)); replace BK115 := yQ hk BK115 NB115_0; replace BK116 := yQ hk BK116 NB116_0; replace HK := aM (KeepBut.trans (xK2 HK.out GW115.out GW116.out) hk (.inl rfl)); replace HB := aM (hb); replace HI0 := aM (hi); (try clear hb; try clear hb2; try clear hk; try clear hi); have hnb94 := NB116_115.out; have hnc94 := NB115_116.out; have hnb95 := NB116_0.out; have hnc95 := NB0_116.out; obtain ⟨hcz96_0, hcz96_1, hfz96_0, hfz96_1⟩ := yD2 BK116; obtain ⟨Ao97, co97, eo97⟩ := Kd.R_slice HO_117000.out; subst eo97; have hnb98 := NB115_0.out; have hnc98 := NB0_115.out; obtain ⟨hcz99_0, hcz99_1, hfz99_0, hfz99_1⟩ := yD2 BK115))
          refine bodyPost_ret (results_cell_row rfl _ _ gb115 26 #[.slice Ao97 x117000_1.length co97, .int .i64 x117001_29] (0, 0) _ rfl (by (with_reducible repeat (first | refine bN ?_ _ | refine bD ?_ | refine bA ?_ _)); refine blk_put (cs := #[.slice Ao97 x117000_1.length co97, .int .i64 0]) ?_ 1 _ rfl; (with_reducible repeat (first | refine bN ?_ _ | refine bD ?_ | refine bA ?_ _)); refine blk_put (cs := #[.slice none 0 0, .int .i64 0]) ?_ 0 _ rfl; (with_reducible repeat (first | refine bN ?_ _ | refine bD ?_ | refine bA ?_ _)); exact BK115.out) Tryd.underlying26 rfl (by kernel_rfl)) rfl ?_
          exact ⟨_, yF, zR (rM (Kd.R_far (p := ⟨gb115, 1, none⟩) (Kd.R_far (p := ⟨gb115, 0, none⟩) (Kd.R_types HO_117000.out BK115.out (by decide)) (fun _ hk => hk.2) (.slice Ao97 x117000_1.length co97)) (fun _ hk => hk.2) (.int .i64 x117001_29)) (fun _ hk => trivial)), IsS46.x2 HI0.out NB0_115.out NB0_116.out, xG3 HB.out (IsS46.ge HI0.out) GE115.out GE116.out, xK2 HK.out GW115.out GW116.out⟩
def spec_l1Cur_vote.f (k : Nat) (s0_0 : List Int) (s0_1 : Int) (s0_2 : Int) : Option (List Int × Int × Int × Int) := (spec_l1Cur_someVote.f k s0_0 s0_1 s0_2 8).bind fun bt160 => (some (bt160.1, bt160.2.1, bt160.2.2.1, bt160.2.2.2))
theorem spec_l1Cur_vote.calls (k : Nat) (g : Nat) (s0_0 : List Int) (s0_1 : Int) (s0_2 : Int) (r1 : List Int) (r2 : Int) (r3 : Int) (r4 : Int) (w0 w : World) (hI : IsS46 w0 w g s0_0 s0_1 s0_2) (hB : Below w0.heap.size w0 w) (h : spec_l1Cur_vote.f k s0_0 s0_1 s0_2 = some (r1, r2, r3, r4)) :
  Calls Tryd.prog 24 #[.pointer (some ⟨g, 0, none⟩)] w fun e w' => ∃ v0_ : Value, e = .returned (.agg #[v0_, .int .i64 r2]) ∧ Kd.R (Kd.int .i64) 3 w' w.heap.size (fun _ => True) v0_ r1 ∧ IsS46 w0 w' g s0_0 r3 r4 ∧ Below w0.heap.size w0 w' ∧ KeepBut w w' g none := by
 have hu26 := Tryd.underlying26
 have HI0 := aM hI
 have HK := aM (KeepBut.refl w g none)
 have HL := aM hB.size
 clear hI
 have HW0 := aM hB.size
 have HB := aM hB
 clear hB
 have H : ((spec_l1Cur_someVote.f k s0_0 s0_1 s0_2 8).bind fun bt160 => (some (bt160.1, bt160.2.1, bt160.2.2.1, bt160.2.2.2))) = some (r1, r2, r3, r4) := h
 clear h
 replace H := oB.mp H
 obtain ⟨⟨t160, t163, t164, t165⟩, A20, H⟩ := H
 replace H : (some (t160, t163, t164, t165)) = some (r1, r2, r3, r4) := H
 have A2 := aM A20
 clear A20
 simp only [Option.some.injEq, Prod.mk.injEq] at H
 obtain ⟨rfl, rfl, rfl, rfl⟩ := H
 go_enter Tryd.func24, Tryd.ntmps24
 go_wp2_with (first | (refine yB 2 #[.slice none 0 0, .int .i64 0] 26 ?_; intro gb159 hg w3 hbox hb; replace HB := aM (below_step (xG1 HB.out (IsS46.ge HI0.out)) hb); have BK159 := aM (hbox); have GW159 := aM ((by rw [hg]; exact (keep_size (w := w) (g := g) (row := none) (xK0 HK.out)) : w.heap.size ≤ gb159)); have GE159 := aM ((Nat.le_trans HW0.out (by rw [hg]; exact (keep_size (w := w) (g := g) (row := none) (xK0 HK.out)) : w.heap.size ≤ gb159) : w0.heap.size ≤ gb159)); replace HK := aM (KeepBut.trans (xK0 HK.out) (KeepBut.of_below hb g none) (.inl rfl)); have NB0_159 := aM ((by rw [hg]; exact Nat.ne_of_lt (IsS46.lt (show IsS46 w0 _ g s0_0 s0_1 s0_2 from IsS46.x0 HI0.out)) : g ≠ gb159)); have NB159_0 := aM ((by rw [hg]; exact Nat.ne_of_gt (IsS46.lt (show IsS46 w0 _ g s0_0 s0_1 s0_2 from IsS46.x0 HI0.out)) : gb159 ≠ g)); replace HI0 := aM (IsS46.below (IsS46.x0 HI0.out) hb); clear hb hbox hg) | (refine yL 4 Tryd.func49 #[.pointer (some ⟨g, 0, none⟩), .int .i64 8] ?_; (with_reducible refine (spec_l1Cur_someVote.calls k g s0_0 s0_1 s0_2 8 t160 t163 t164 t165 w0 _ ?side1 ?side2 A2.out).mono ?_); (case side1 => exact IsS46.x1 HI0.out NB0_159.out); (case side2 => exact xG2 HB.out (IsS46.ge HI0.out) GE159.out); rintro e w4 ⟨v161, rfl, ho0, hi, hb, hk⟩; refine ⟨_, rfl, ?_⟩; replace BK159 := yQ hk BK159 NB159_0; have HO162 := aM (Kd.R_lower ho0 (keep_size (w := w) (g := g) (row := none) (xK1 HK.out GW159.out))); replace HK := aM (KeepBut.trans (xK1 HK.out GW159.out) hk (.inl rfl)); replace HB := aM (hb); replace HI0 := aM (hi); (try clear hb; try clear hb2; try clear hk; try clear hi; try clear ho0); obtain ⟨Ao5, co5, eo5⟩ := Kd.R_slice HO162.out; subst eo5; have hnb6 := NB159_0.out; have hnc6 := NB0_159.out; obtain ⟨hcz7_0, hcz7_1, hfz7_0, hfz7_1⟩ := yD2 BK159))
 refine bodyPost_ret (results_cell_row rfl _ _ gb159 26 #[.slice Ao5 t160.length co5, .int .i64 t163] (0, 0) _ rfl (by (with_reducible repeat (first | refine bN ?_ _ | refine bD ?_ | refine bA ?_ _)); refine blk_put (cs := #[.slice Ao5 t160.length co5, .int .i64 0]) ?_ 1 _ rfl; (with_reducible repeat (first | refine bN ?_ _ | refine bD ?_ | refine bA ?_ _)); refine blk_put (cs := #[.slice none 0 0, .int .i64 0]) ?_ 0 _ rfl; (with_reducible repeat (first | refine bN ?_ _ | refine bD ?_ | refine bA ?_ _)); exact BK159.out) Tryd.underlying26 rfl (by kernel_rfl)) rfl ?_
 exact ⟨_, yF, zR (rM (Kd.R_far (p := ⟨gb159, 1, none⟩) (Kd.R_far (p := ⟨gb159, 0, none⟩) (Kd.R_types HO162.out BK159.out (by decide)) (fun _ hk => hk.2) (.slice Ao5 t160.length co5)) (fun _ hk => hk.2) (.int .i64 t163)) (fun _ hk => trivial)), IsS46.x1 HI0.out NB0_159.out, xG2 HB.out (IsS46.ge HI0.out) GE159.out, xK1 HK.out GW159.out⟩
def spec_l6Bits.l0 : Nat → Int → Int → List Int → Int → Option (List Int)
 | 0, _, _, _, _ => none
 | k + 1, x0, x1, x5, x6 => if x6 < x0 then (if 0 ≤ x6 then (if (Go.bits .and .i64 (shr .i64 x1 x6) 1) = 1 then (if x5.length < 17592186044416 then (spec_l6Bits.l0 k x0 x1 (x5 ++ [x6]) (wrap64 (x6 + 1))) else (none)) else (spec_l6Bits.l0 k x0 x1 x5 (wrap64 (x6 + 1)))) else (none)) else (some x5)
def spec_l6Bits.f (k : Nat) (a0 : Int) (a1 : Int) : Option (List Int) := spec_l6Bits.l0 k a0 a1 (([] : List Int)) 0
theorem spec_l6Bits.calls (k : Nat) (a0 : Int) (a1 : Int) (r : List Int) (w : World) (h : spec_l6Bits.f k a0 a1 = some r) :
  Calls Tryd.prog 25 #[.int .i64 a0, .int .i64 a1] w fun e w' => ∃ v0_ : Value, e = .returned (v0_) ∧ Kd.R (Kd.int .i64) 3 w' w.heap.size (fun _ => True) v0_ r ∧ Below w.heap.size w w' := by
 have HB := aM (Below.refl w.heap.size w)
 have H : (spec_l6Bits.l0 k a0 a1 (([] : List Int)) 0) = some r := h
 clear h
 obtain ⟨y166, hy166⟩ := yE (([] : List Int) : List Int)
 replace H : (spec_l6Bits.l0 k a0 a1 y166 0) = some r := by first | (rw [hy166]; with_reducible exact H) | (have H2_ := (Option.bind_some _ _).symm.trans H; rw [hy166]; with_reducible exact H2_) | (have H2_ := (Option.bind_some _ _).symm.trans H; with_reducible exact H2_) | with_reducible exact H | (rw [hy166]; exact H) | exact H
 have Ny166 := aM hy166
 clear hy166
 have H' := aM H
 clear H
 go_enter Tryd.func25, Tryd.ntmps25
 go_wp2_with (first | ((with_reducible refine gate_dst (N := 7) rfl ?_); refine Kd.R_lit (Kd.int .i64) _ 3 ?hg (N := 7) ?hd (xs := ([] : List Int)) (inner := []) (ok := fun _ => True) (okp := fun _ => True) ?hr ?hp (fun _ hk => hk) trivial (Below.refl _ _) (Nat.le_refl _) (by simp) ?_; (case hd => rfl); (case hg => rfl); (case hr => first | (go_simp; done) | (go_simp; rfl)); (case hp => exact (Reps.none _ _)); intro v167 w3 ho4 hb hg_ hnew_; clear hg_ hnew_; (first | rw [← Ny166.out] at ho4 | (simp only [Int.reduceToNat] at ho4; rw [← Ny166.out] at ho4)); have HO168 := aM (Kd.R_lower ho4 (below_size (xH HB.out))); replace HB := yS0 HB hb; clear hb ho4))
 go_loopg [5, 6] k (fun kq v5 v6 w' => ∃ (x5_1 : List Int) (x6_1 : Int), v6 = .int .i64 x6_1 ∧ Aside0 (spec_l6Bits.l0 kq a0 a1 x5_1 x6_1 = some r) ∧ Aside0 (kq ≤ k) ∧ Aside0 (Kd.R (Kd.int .i64) 3 w' w.heap.size (fun _ => True) v5 x5_1) ∧ Aside0 (Below w.heap.size w w'))
 case atStart => exact ⟨(y166), (0), yZ, H', ⟨Nat.le_refl _⟩, ⟨xR HO168.out⟩, ⟨xH HB.out⟩⟩
 case round =>
  clear H'
  try clear c2; try clear p2
  obtain ⟨x5_1, x6_1, rfl, HA, HK1, HO_5, HB⟩ := hrel
  cases gk with
  | zero => exact absurd HA.out (by simp [spec_l6Bits.l0])
  | succ k1 =>
   have H := HA.out
   clear HA
   simp only [spec_l6Bits.l0] at H
   by_cases c5 : x6_1 < a0
   ·
    rw [if_pos c5] at H
    have c5b0 := decide_eq_true c5
    clear c5
    by_cases c6 : 0 ≤ x6_1
    ·
     rw [if_pos c6] at H
     have c6b0 := eq_true c6
     have c6b1 : decide (0 ≤ x6_1) = true := decide_eq_true c6
     clear c6
     obtain ⟨ji7, hji7⟩ := yJ ((shr .i64 a1 x6_1))
     replace H : (if (Go.bits .and .i64 (ji7) 1) = 1 then (if x5_1.length < 17592186044416 then (spec_l6Bits.l0 k1 a0 a1 (x5_1 ++ [x6_1]) (wrap64 (x6_1 + 1))) else (none)) else (spec_l6Bits.l0 k1 a0 a1 x5_1 (wrap64 (x6_1 + 1)))) = some r := by first | (rw [hji7] at H; exact H) | (simp only [hji7] at H ⊢; exact H)
     have hji7_ : (a1 / 2 ^ min x6_1.toNat 64) = ji7 := hji7
     have hji7z : x6_1 ≤ 64 → (a1 / 2 ^ x6_1.toNat) = ji7 := shr_small hji7
     by_cases c8 : (Go.bits .and .i64 (ji7) 1) = 1
     ·
      rw [if_pos c8] at H
      have c8b0 : ((Go.bits .and .i64 (ji7) 1) == 1) = true := beq_iff_eq.mpr c8
      have c8b1 : ((Go.bits .and .i64 (ji7) 1) != 1) = false := bne_eq_false_iff_eq.mpr c8
      clear c8
      by_cases c9 : x5_1.length < 17592186044416
      ·
       rw [if_pos c9] at H
       have LMc9 := aM c9
       clear c9
       obtain ⟨y169, hy169⟩ := yE (x5_1 ++ [x6_1] : List Int)
       replace H : (spec_l6Bits.l0 k1 a0 a1 y169 (wrap64 (x6_1 + 1))) = some r := by first | (rw [hy169]; with_reducible exact H) | (have H2_ := (Option.bind_some _ _).symm.trans H; rw [hy169]; with_reducible exact H2_) | (have H2_ := (Option.bind_some _ _).symm.trans H; with_reducible exact H2_) | with_reducible exact H | (rw [hy169]; exact H) | exact H
       have Ny169 := aM hy169
       clear hy169
       have H' := aM H
       clear H
       go_wp2_with (first | ((with_reducible refine gate_builtin (b := .append) (xs := #[.tmp 18, .tmp 20]) rfl ?_); at_builtin; refine Kd.R_append (Kd.int .i64) (w0 := w) w.heap.size rfl (.tmp 18) (.tmp 20) 24 3 (.int .i64 0) 8 rfl Tryd.underlying24 info3 rfl (by decide) (by omega) u5 x5_1 x6_1 [.int .i64 x6_1] (fun _ => True) (fun _ => False) rfl rfl ?aP (fun _ hk => hk.elim) ?aF ?aO ?aB ?aS ?aL ?_; (case aP => exact rfl); (case aB => exact (xH HB.out)); (case aF => exact (fun _ _ => trivial)); (case aO => exact (xR HO_5.out)); (case aS => exact (below_size (xH HB.out))); (case aL => have := LMc9.out; omega); intro v170 w10 ho hb hg hat; rw [← Ny169.out] at ho; replace HB := aM (hb); have HO171 := aM (ho); clear HO_5; clear ho hb hg hat))
       go_roundg k1
       case measure => have := HK1.out; omega
       case rel => exact ⟨(y169), (wrap64 (x6_1 + 1)), yZ, H', ⟨by have := HK1.out; omega⟩, ⟨xR HO171.out⟩, ⟨xH HB.out⟩⟩
      ·
       rw [if_neg c9] at H
       exact absurd H (by simp)
     ·
      rw [if_neg c8] at H
      have c8b0 : ((Go.bits .and .i64 (ji7) 1) == 1) = false := beq_eq_false_iff_ne.mpr c8
      have c8b1 : ((Go.bits .and .i64 (ji7) 1) != 1) = true := bne_iff_ne.mpr c8
      have H' := aM H
      clear H
      go_wp2
      go_roundg k1
      case measure => have := HK1.out; omega
      case rel => exact ⟨(x5_1), (wrap64 (x6_1 + 1)), yZ, H', ⟨by have := HK1.out; omega⟩, ⟨xR HO_5.out⟩, ⟨xH HB.out⟩⟩
    ·
     rw [if_neg c6] at H
     exact absurd H (by simp)
   ·
    rw [if_neg c5] at H
    have c5b0 := decide_eq_false c5
    clear c5
    obtain rfl := Option.some.inj H
    go_wp2
    go_ret
    exact ⟨_, yF, xR HO_5.out, by repeat (first | (with_reducible first | exact HB.out | apply eA | apply eN | apply eD) | exact HB.out)⟩
end Go.Proofs.YtkgekmpnbhomgaaDoor.PFnVotes
