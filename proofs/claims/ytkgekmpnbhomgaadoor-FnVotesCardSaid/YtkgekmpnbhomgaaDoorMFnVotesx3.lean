-- Laid for this claim by a program of the session's own (wip/tool/myprint.py).
import Derived.Test.YtkgekmpnbhomgaaDoorMFnVotesx0
import Derived.Test.YtkgekmpnbhomgaaDoorMFnVotesx1
import Derived.Test.YtkgekmpnbhomgaaDoorMFnVotesx2
namespace Go.Proofs.YtkgekmpnbhomgaaDoor.PFnVotes
open Go.RowKit Go.Proofs.YtkgekmpnbhomgaaDoorW.PrintWords Go.Proofs.YtkgekmpnbhomgaaDoorW.PrintLast Go.Proofs.YtkgekmpnbhomgaaDoorW.PrintMore
attribute [local go_sem] max2_int min2_int max_two min_two max_three min_three max_four min_four
set_option linter.unusedVariables false
set_option maxHeartbeats 8000000
set_option maxRecDepth 100000
set_option linter.unusedSimpArgs false
def spec_l1Cur_voter.j0 : Nat → Bool → List Int → Int → Int → List Int → Int → Option (Int × Int × Int)
 | 0, _, _, _, _, _, _ => none
 | k + 1, x12, x1000, x1001, x1002, x173000, x173001 => if x12 = true then ((spec_l1Cur_among.f x1000 x1001 x1002 (([(-1), 0, (x173000.length : Int), 4611686018427387904] : List Int))).bind fun bt179 => (some (bt179.1, bt179.2.1, bt179.2.2))) else ((spec_l1Cur_pick.f x1000 x1001 x1002 (x173000.length : Int)).bind fun bt182 => (some (bt182.1, bt182.2.1, bt182.2.2)))
def spec_l1Cur_voter.f (k : Nat) (s0_0 : List Int) (s0_1 : Int) (s0_2 : Int) (l1_0 : List Int) (a1_1 : Int) : Option (Int × Int × Int) := if (l1_0.length : Int) = 0 then (spec_l1Cur_voter.j0 k true s0_0 s0_1 s0_2 l1_0 a1_1) else ((spec_l1Cur_one.f s0_0 s0_1 s0_2 20).bind fun bt173 => (spec_l1Cur_voter.j0 k bt173.1 s0_0 bt173.2.1 bt173.2.2 l1_0 a1_1))
theorem spec_l1Cur_voter.calls (k : Nat) (g : Nat) (s0_0 : List Int) (s0_1 : Int) (s0_2 : Int) (A1_0 : Option Addr) (c1_0 : Nat) (l1_0 : List Int) (a1_1 : Int) (r1 : Int) (r2 : Int) (r3 : Int) (w0 w : World) (hI : IsS46 w0 w g s0_0 s0_1 s0_2) (hB : Below w0.heap.size w0 w) (hr1_0 : Kd.C (Kd.int .i64) w A1_0 l1_0.length l1_0) (hc1_0 : l1_0.length ≤ c1_0) (hf1_0 : ∀ ad, A1_0 = some ad → 0 < l1_0.length → ad.block ≠ g) (h : spec_l1Cur_voter.f k s0_0 s0_1 s0_2 l1_0 a1_1 = some (r1, r2, r3)) :
  Calls Tryd.prog 29 #[.pointer (some ⟨g, 0, none⟩), .agg #[.slice A1_0 l1_0.length c1_0, .int .i64 a1_1]] w fun e w' => e = .returned (.int .i64 r1) ∧ IsS46 w0 w' g s0_0 r2 r3 ∧ Below w0.heap.size w0 w' ∧ KeepBut w w' g none := by
 have hu26 := Tryd.underlying26
 have HR1_0 := aM hr1_0
 have HC1_0 := aM hc1_0
 clear hr1_0 hc1_0
 have HI0 := aM hI
 have HK := aM (KeepBut.refl w g none)
 have HL := aM hB.size
 clear hI
 have HW0 := aM hB.size
 have HB := aM hB
 clear hB
 have H : (if (l1_0.length : Int) = 0 then (spec_l1Cur_voter.j0 k true s0_0 s0_1 s0_2 l1_0 a1_1) else ((spec_l1Cur_one.f s0_0 s0_1 s0_2 20).bind fun bt173 => (spec_l1Cur_voter.j0 k bt173.1 s0_0 bt173.2.1 bt173.2.2 l1_0 a1_1))) = some (r1, r2, r3) := h
 clear h
 have HC3 := aM H
 clear H
 go_enter Tryd.func29, Tryd.ntmps29
 go_upto_region 1 with (first | (refine yB 3 #[.slice A1_0 l1_0.length c1_0, .int .i64 a1_1] 26 ?_; intro gb172 hg w4 hbox hb; replace HB := aM (below_step (xG1 HB.out (IsS46.ge HI0.out)) hb); have BK172 := aM (hbox); have GW172 := aM ((by rw [hg]; exact (keep_size (w := w) (g := g) (row := none) (xK0 HK.out)) : w.heap.size ≤ gb172)); have GE172 := aM ((Nat.le_trans HW0.out (by rw [hg]; exact (keep_size (w := w) (g := g) (row := none) (xK0 HK.out)) : w.heap.size ≤ gb172) : w0.heap.size ≤ gb172)); replace HK := aM (KeepBut.trans (xK0 HK.out) (KeepBut.of_below hb g none) (.inl rfl)); have NB0_172 := aM ((by rw [hg]; exact Nat.ne_of_lt (IsS46.lt (show IsS46 w0 _ g s0_0 s0_1 s0_2 from IsS46.x0 HI0.out)) : g ≠ gb172)); have NB172_0 := aM ((by rw [hg]; exact Nat.ne_of_gt (IsS46.lt (show IsS46 w0 _ g s0_0 s0_1 s0_2 from IsS46.x0 HI0.out)) : gb172 ≠ g)); replace HI0 := aM (IsS46.below (IsS46.x0 HI0.out) hb); clear hb hbox hg))
 (try simp only [Act.put, sA, sZ, sU])
 go_cut [12] (fun v12 wc => ∃ (kq : Nat) (x12_2 : Bool) (x1001_2 : Int) (x1002_2 : Int), v12 = .bool x12_2 ∧ Aside0 (spec_l1Cur_voter.j0 kq x12_2 s0_0 x1001_2 x1002_2 l1_0 a1_1 = some (r1, r2, r3)) ∧ Aside0 (kq ≤ k) ∧ Aside0 (wc.heap[gb172]? = some (.cells #[(.slice A1_0 l1_0.length c1_0), .int .i64 a1_1] 26 (0, 0))) ∧ Aside0 (IsS46 w0 wc g s0_0 x1001_2 x1002_2) ∧ Aside0 (KeepBut w wc g none) ∧ Aside0 (Below w0.heap.size w0 wc))
 case first =>
  have H := HC3.out
  clear HC3
  by_cases c5 : (l1_0.length : Int) = 0
  ·
   rw [if_pos c5] at H
   have c5b0 : ((l1_0.length : Int) == 0) = true := beq_iff_eq.mpr c5
   have c5b1 : ((l1_0.length : Int) != 0) = false := bne_eq_false_iff_eq.mpr c5
   clear c5
   (first | rw [c5b0] | (simp only [i64_w, i32_w]; rw [c5b0]) | skip)
   have H' := aM H
   clear H
   have hnb6 := NB172_0.out
   have hnc6 := NB0_172.out
   have hcz7_0 := yC0 BK172
   have hcz7_1 := yC1 BK172
   have hfz7_0 := bF BK172.out 0
   have hfz7_1 := bF BK172.out 1
   go_wp2
   go_meet
   case rel => exact ⟨_, (true), (s0_1), (s0_2), yZ, H', ⟨yM⟩, ⟨xB BK172.out⟩, ⟨IsS46.x1 HI0.out NB0_172.out⟩, ⟨xK1 HK.out GW172.out⟩, ⟨xG2 HB.out (IsS46.ge HI0.out) GE172.out⟩⟩
  ·
   rw [if_neg c5] at H
   have c5b0 : ((l1_0.length : Int) == 0) = false := beq_eq_false_iff_ne.mpr c5
   have c5b1 : ((l1_0.length : Int) != 0) = true := bne_iff_ne.mpr c5
   have c5b2 : ¬ (l1_0 = []) := fun h_ => c5 (by rw [h_]; rfl)
   (first | rw [c5b0] | (simp only [i64_w, i32_w]; rw [c5b0]) | skip)
   replace H := oB.mp H
   obtain ⟨⟨t173, t174, t175⟩, A80, H⟩ := H
   replace H : (spec_l1Cur_voter.j0 k t173 s0_0 t174 t175 l1_0 a1_1) = some (r1, r2, r3) := H
   have A8 := aM A80
   clear A80
   have H' := aM H
   clear H
   have hnb9 := NB172_0.out
   have hnc9 := NB0_172.out
   have hcz10_0 := yC0 BK172
   have hcz10_1 := yC1 BK172
   have hfz10_0 := bF BK172.out 0
   have hfz10_1 := bF BK172.out 1
   go_wp2_with (first | (go_at_call 28; (with_reducible refine (spec_l1Cur_one.calls g s0_0 s0_1 s0_2 20 t173 t174 t175 w0 _ ?side1 ?side2 A8.out).mono ?_); (case side1 => exact IsS46.x1 HI0.out NB0_172.out); (case side2 => exact xG2 HB.out (IsS46.ge HI0.out) GE172.out); rintro e w11 ⟨rfl, hi, hb, hk⟩; replace BK172 := yQ hk BK172 NB172_0; replace HK := aM (KeepBut.trans (xK1 HK.out GW172.out) hk (.inl rfl)); replace HB := aM (hb); replace HI0 := aM (hi); (try clear hb; try clear hb2; try clear hk; try clear hi)))
   go_meet
   case rel => exact ⟨_, (t173), (t174), (t175), yZ, H', ⟨yM⟩, ⟨xB BK172.out⟩, ⟨IsS46.x1 HI0.out NB0_172.out⟩, ⟨xK1 HK.out GW172.out⟩, ⟨xG2 HB.out (IsS46.ge HI0.out) GE172.out⟩⟩
 case rest =>
  clear HC3
  try clear c1; try clear c2; try clear p2; try clear c5; try clear c5b0; try clear c5b1; try clear c5b2; try clear c6; try clear c9; try clear hcz10_0; try clear hcz10_1; try clear hcz7_0; try clear hcz7_1; try clear hfz10_0; try clear hfz10_1; try clear hfz7_0; try clear hfz7_1
  obtain ⟨kq, x12_2, x1001_2, x1002_2, rfl, HA, HJ2, BK172, HI0, HK, HB⟩ := hcut
  cases kq with
  | zero => exact absurd HA.out (by simp [spec_l1Cur_voter.j0])
  | succ kj2 =>
   have H := HA.out
   clear HA
   simp only [spec_l1Cur_voter.j0] at H
   by_cases c12 : x12_2 = true
   ·
    subst c12
    have H1 : ((spec_l1Cur_among.f s0_0 x1001_2 x1002_2 (([(-1), 0, (l1_0.length : Int), 4611686018427387904] : List Int))).bind fun bt179 => (some (bt179.1, bt179.2.1, bt179.2.2))) = some (r1, r2, r3) := by rw [if_pos rfl] at H; exact H
    clear H
    have H := H1
    clear H1
    obtain ⟨y176, hy176⟩ := yE (([(-1), 0, (l1_0.length : Int), 4611686018427387904] : List Int) : List Int)
    replace H : ((spec_l1Cur_among.f s0_0 x1001_2 x1002_2 y176).bind fun bt179 => (some (bt179.1, bt179.2.1, bt179.2.2))) = some (r1, r2, r3) := by first | (rw [hy176]; with_reducible exact H) | (have H2_ := (Option.bind_some _ _).symm.trans H; rw [hy176]; with_reducible exact H2_) | (have H2_ := (Option.bind_some _ _).symm.trans H; with_reducible exact H2_) | with_reducible exact H | (rw [hy176]; exact H) | exact H
    have Ny176 := aM hy176
    clear hy176
    replace H := oB.mp H
    obtain ⟨⟨t179, t180, t181⟩, A130, H⟩ := H
    replace H : (some (t179, t180, t181)) = some (r1, r2, r3) := H
    have A13 := aM A130
    clear A130
    simp only [Option.some.injEq, Prod.mk.injEq] at H
    obtain ⟨rfl, rfl, rfl⟩ := H
    have hnb14 := NB172_0.out
    have hnc14 := NB0_172.out
    have hcz15_0 : wc.cell? ⟨gb172, 0, none⟩ = some (.slice A1_0 l1_0.length c1_0) := (bC BK172.out 0).trans rfl
    have hcz15_1 : wc.cell? ⟨gb172, 1, none⟩ = some (.int .i64 a1_1) := (bC BK172.out 1).trans rfl
    have hfz15_0 := bF BK172.out 0
    have hfz15_1 := bF BK172.out 1
    go_wp2_with (first | ((with_reducible refine gate_dst (N := 17) rfl ?_); refine Kd.R_lit (Kd.int .i64) _ 3 ?hg (N := 17) ?hd (xs := ([(-1), 0, (l1_0.length : Int), 4611686018427387904] : List Int)) (inner := [.int .i64 (-1), .int .i64 0, .int .i64 (l1_0.length : Int), .int .i64 4611686018427387904]) (ok := fun _ => True) (okp := fun _ => True) ?hr ?hp (fun _ hk => hk) trivial (Below.refl _ _) (Nat.le_refl _) (by simp) ?_; (case hd => rfl); (case hg => rfl); (case hr => first | (go_simp; done) | (go_simp; rfl)); (case hp => exact (Reps.one (show Kd.M (Kd.int .i64) _ _ _ (-1) [.int .i64 (-1)] from rfl) (Reps.one (show Kd.M (Kd.int .i64) _ _ _ 0 [.int .i64 0] from rfl) (Reps.one (show Kd.M (Kd.int .i64) _ _ _ (l1_0.length : Int) [.int .i64 (l1_0.length : Int)] from rfl) (Reps.one (show Kd.M (Kd.int .i64) _ _ _ 4611686018427387904 [.int .i64 4611686018427387904] from rfl) (Reps.none _ _)))))); intro v177 w16 ho17 hb hg_ hnew_; clear hg_ hnew_; (first | rw [← Ny176.out] at ho17 | (simp only [Int.reduceToNat] at ho17; rw [← Ny176.out] at ho17)); have HO178 := aM (Kd.R_lower ho17 (keep_size (w := w) (g := g) (row := none) (xK1 HK.out GW172.out))); replace BK172 := yK BK172 hb; replace HK := aM (KeepBut.trans (xK1 HK.out GW172.out) (KeepBut.of_below hb g none) (.inl rfl)); replace HB := aM (below_step (xG2 HB.out (IsS46.ge HI0.out) GE172.out) hb); replace HI0 := aM (IsS46.below (IsS46.x1 HI0.out NB0_172.out) hb); clear hb ho17; obtain ⟨Ao18, co18, eo18⟩ := Kd.R_slice HO178.out; subst eo18) | (refine yL 18 Tryd.func51 #[.pointer (some ⟨g, 0, none⟩), .slice Ao18 y176.length co18] ?_; (with_reducible refine (spec_l1Cur_among.calls g s0_0 x1001_2 x1002_2 _ _ y176 t179 t180 t181 w0 _ ?side1 ?side2 ?side3 ?side4 ?side5 A13.out).mono ?_); (case side1 => exact IsS46.x1 HI0.out NB0_172.out); (case side2 => exact xG2 HB.out (IsS46.ge HI0.out) GE172.out); (case side3 => exact xC (Kd.R_reads' HO178.out).2.2); (case side4 => exact (Kd.R_reads' HO178.out).2.1); (case side5 => exact far_slice (IsS46.own_ne HI0.out HO178.out (by decide))); rintro e w19 ⟨rfl, hi, hb, hk⟩; refine ⟨_, rfl, ?_⟩; replace BK172 := yQ hk BK172 NB172_0; replace HO178 := aM (rM (Kd.R_keep (IsS46.apart (show IsS46 w0 _ g s0_0 x1001_2 x1002_2 from IsS46.x1 HI0.out NB0_172.out) (xR HO178.out) (by decide)) hk (fun _ h => h.2)) (fun _ h => h.1)); replace HK := aM (KeepBut.trans (xK1 HK.out GW172.out) hk (.inl rfl)); replace HB := aM (hb); replace HI0 := aM (hi); (try clear hb; try clear hb2; try clear hk; try clear hi)))
    go_ret
    exact ⟨yF, IsS46.x1 HI0.out NB0_172.out, xG2 HB.out (IsS46.ge HI0.out) GE172.out, xK1 HK.out GW172.out⟩
   ·
    replace c12 := Bool.eq_false_iff.mpr c12
    subst c12
    have H1 : ((spec_l1Cur_pick.f s0_0 x1001_2 x1002_2 (l1_0.length : Int)).bind fun bt182 => (some (bt182.1, bt182.2.1, bt182.2.2))) = some (r1, r2, r3) := by rw [if_neg (show ¬ (false = true) by decide)] at H; exact H
    clear H
    have H := H1
    clear H1
    replace H := oB.mp H
    obtain ⟨⟨t182, t183, t184⟩, A200, H⟩ := H
    replace H : (some (t182, t183, t184)) = some (r1, r2, r3) := H
    have A20 := aM A200
    clear A200
    simp only [Option.some.injEq, Prod.mk.injEq] at H
    obtain ⟨rfl, rfl, rfl⟩ := H
    have hnb21 := NB172_0.out
    have hnc21 := NB0_172.out
    have hcz22_0 : wc.cell? ⟨gb172, 0, none⟩ = some (.slice A1_0 l1_0.length c1_0) := (bC BK172.out 0).trans rfl
    have hcz22_1 : wc.cell? ⟨gb172, 1, none⟩ = some (.int .i64 a1_1) := (bC BK172.out 1).trans rfl
    have hfz22_0 := bF BK172.out 0
    have hfz22_1 := bF BK172.out 1
    go_wp2_with (first | (refine yL 23 Tryd.func27 #[.pointer (some ⟨g, 0, none⟩), .int .i64 (l1_0.length : Int)] ?_; (with_reducible refine (spec_l1Cur_pick.calls g s0_0 x1001_2 x1002_2 (l1_0.length : Int) t182 t183 t184 w0 _ ?side1 ?side2 A20.out).mono ?_); (case side1 => exact IsS46.x1 HI0.out NB0_172.out); (case side2 => exact xG2 HB.out (IsS46.ge HI0.out) GE172.out); rintro e w23 ⟨rfl, hi, hb, hk⟩; refine ⟨_, rfl, ?_⟩; replace BK172 := yQ hk BK172 NB172_0; replace HK := aM (KeepBut.trans (xK1 HK.out GW172.out) hk (.inl rfl)); replace HB := aM (hb); replace HI0 := aM (hi); (try clear hb; try clear hb2; try clear hk; try clear hi)))
    go_ret
    exact ⟨yF, IsS46.x1 HI0.out NB0_172.out, xG2 HB.out (IsS46.ge HI0.out) GE172.out, xK1 HK.out GW172.out⟩
def spec_DrawWinsWith.f (k : Nat) (l0 : List Int) : Option (List Int × Int × List Int) := (spec_l1Cur_vote.f k l0 0 0).bind fun bt187 => ((spec_l1Least.f (bt187.1.length : Int) 8).bind fun t194 => ((spec_l1Cur_pick.f l0 bt187.2.2.1 bt187.2.2.2 256).bind fun bt195 => ((spec_l6Bits.f k t194 bt195.1).bind fun t198 => ((spec_l1Cur_one.f l0 bt195.2.1 bt195.2.2 20).bind fun bt201 => (if bt201.1 = true then ((spec_l1Cur_voter.f k l0 bt201.2.1 bt201.2.2 bt187.1 bt187.2.1).bind fun bt204 => (if t198.length < 17592186044416 then (some (bt187.1, bt187.2.1, (t198 ++ [bt204.1]))) else (none))) else (some (bt187.1, bt187.2.1, t198)))))))
theorem spec_DrawWinsWith.calls (k : Nat) (A0 : Option Addr) (c0 : Nat) (l0 : List Int) (r1 : List Int) (r2 : Int) (r3 : List Int) (w : World) (hr0 : Kd.C (Kd.int .u8) w A0 l0.length l0) (hc0 : l0.length ≤ c0) (h : spec_DrawWinsWith.f k l0 = some (r1, r2, r3)) :
  Calls Tryd.prog 5 #[.slice A0 l0.length c0] w fun e w' => ∃ v0_ v2_ : Value, e = .returned (.tuple #[.agg #[v0_, .int .i64 r2], v2_]) ∧ Kd.R (Kd.int .i64) 3 w' w.heap.size (fun k_ => some k_ ≠ (v2_ : Value).ownBlock) v0_ r1 ∧ Kd.R (Kd.int .i64) 3 w' w.heap.size (fun k_ => some k_ ≠ (v0_ : Value).ownBlock) v2_ r3 ∧ Below w.heap.size w w' := by
 have hu26 := Tryd.underlying26
 have hu46 := Tryd.underlying46
 have HR0 := aM hr0
 have HC0 := aM hc0
 clear hr0 hc0
 have HB := aM (Below.refl w.heap.size w)
 have H : ((spec_l1Cur_vote.f k l0 0 0).bind fun bt187 => ((spec_l1Least.f (bt187.1.length : Int) 8).bind fun t194 => ((spec_l1Cur_pick.f l0 bt187.2.2.1 bt187.2.2.2 256).bind fun bt195 => ((spec_l6Bits.f k t194 bt195.1).bind fun t198 => ((spec_l1Cur_one.f l0 bt195.2.1 bt195.2.2 20).bind fun bt201 => (if bt201.1 = true then ((spec_l1Cur_voter.f k l0 bt201.2.1 bt201.2.2 bt187.1 bt187.2.1).bind fun bt204 => (if t198.length < 17592186044416 then (some (bt187.1, bt187.2.1, (t198 ++ [bt204.1]))) else (none))) else (some (bt187.1, bt187.2.1, t198)))))))) = some (r1, r2, r3) := h
 clear h
 replace H := oB.mp H
 obtain ⟨⟨t187, t190, t191, t192⟩, A20, H⟩ := H
 replace H : ((spec_l1Least.f (t187.length : Int) 8).bind fun t194 => ((spec_l1Cur_pick.f l0 t191 t192 256).bind fun bt195 => ((spec_l6Bits.f k t194 bt195.1).bind fun t198 => ((spec_l1Cur_one.f l0 bt195.2.1 bt195.2.2 20).bind fun bt201 => (if bt201.1 = true then ((spec_l1Cur_voter.f k l0 bt201.2.1 bt201.2.2 t187 t190).bind fun bt204 => (if t198.length < 17592186044416 then (some (t187, t190, (t198 ++ [bt204.1]))) else (none))) else (some (t187, t190, t198))))))) = some (r1, r2, r3) := H
 have A2 := aM A20
 clear A20
 replace H := oB.mp H
 obtain ⟨t194, A30, H⟩ := H
 replace H : ((spec_l1Cur_pick.f l0 t191 t192 256).bind fun bt195 => ((spec_l6Bits.f k t194 bt195.1).bind fun t198 => ((spec_l1Cur_one.f l0 bt195.2.1 bt195.2.2 20).bind fun bt201 => (if bt201.1 = true then ((spec_l1Cur_voter.f k l0 bt201.2.1 bt201.2.2 t187 t190).bind fun bt204 => (if t198.length < 17592186044416 then (some (t187, t190, (t198 ++ [bt204.1]))) else (none))) else (some (t187, t190, t198)))))) = some (r1, r2, r3) := H
 have A3 := aM A30
 clear A30
 replace H := oB.mp H
 obtain ⟨⟨t195, t196, t197⟩, A40, H⟩ := H
 replace H : ((spec_l6Bits.f k t194 t195).bind fun t198 => ((spec_l1Cur_one.f l0 t196 t197 20).bind fun bt201 => (if bt201.1 = true then ((spec_l1Cur_voter.f k l0 bt201.2.1 bt201.2.2 t187 t190).bind fun bt204 => (if t198.length < 17592186044416 then (some (t187, t190, (t198 ++ [bt204.1]))) else (none))) else (some (t187, t190, t198))))) = some (r1, r2, r3) := H
 have A4 := aM A40
 clear A40
 replace H := oB.mp H
 obtain ⟨t198, A50, H⟩ := H
 replace H : ((spec_l1Cur_one.f l0 t196 t197 20).bind fun bt201 => (if bt201.1 = true then ((spec_l1Cur_voter.f k l0 bt201.2.1 bt201.2.2 t187 t190).bind fun bt204 => (if t198.length < 17592186044416 then (some (t187, t190, (t198 ++ [bt204.1]))) else (none))) else (some (t187, t190, t198)))) = some (r1, r2, r3) := H
 have A5 := aM A50
 clear A50
 replace H := oB.mp H
 obtain ⟨⟨t201, t202, t203⟩, A60, H⟩ := H
 replace H : (if t201 = true then ((spec_l1Cur_voter.f k l0 t202 t203 t187 t190).bind fun bt204 => (if t198.length < 17592186044416 then (some (t187, t190, (t198 ++ [bt204.1]))) else (none))) else (some (t187, t190, t198))) = some (r1, r2, r3) := H
 have A6 := aM A60
 clear A60
 by_cases c7 : t201 = true
 ·
  subst c7
  have H1 : ((spec_l1Cur_voter.f k l0 t202 t203 t187 t190).bind fun bt204 => (if t198.length < 17592186044416 then (some (t187, t190, (t198 ++ [bt204.1]))) else (none))) = some (r1, r2, r3) := by rw [if_pos rfl] at H; exact H
  clear H
  have H := H1
  clear H1
  replace H := oB.mp H
  obtain ⟨⟨t204, t205, t206⟩, A80, H⟩ := H
  replace H : (if t198.length < 17592186044416 then (some (t187, t190, (t198 ++ [t204]))) else (none)) = some (r1, r2, r3) := H
  have A8 := aM A80
  clear A80
  by_cases c9 : t198.length < 17592186044416
  ·
   rw [if_pos c9] at H
   have LMc9 := aM c9
   clear c9
   obtain ⟨y207, hy207⟩ := yE (t198 ++ [t204] : List Int)
   replace H : (some (t187, t190, y207)) = some (r1, r2, r3) := by first | (rw [hy207]; with_reducible exact H) | (have H2_ := (Option.bind_some _ _).symm.trans H; rw [hy207]; with_reducible exact H2_) | (have H2_ := (Option.bind_some _ _).symm.trans H; with_reducible exact H2_) | with_reducible exact H | (rw [hy207]; exact H) | exact H
   have Ny207 := aM hy207
   clear hy207
   simp only [Option.some.injEq, Prod.mk.injEq] at H
   obtain ⟨rfl, rfl, rfl⟩ := H
   go_enter Tryd.func5, Tryd.ntmps5
   go_wp2_with (first | (refine yB 2 #[.slice none 0 0, .int .i64 0] 26 ?_; intro gb185 hg w10 hbox hb; have BK185 := aM (hbox); have GW185 := yV0 hg HB; have GE185 := yV0 hg HB; replace HB := yS0 HB hb; clear hb hbox hg) | (refine yB 9 #[.slice A0 l0.length c0, .int .i64 0, .int .u64 0] 46 ?_; intro gb186 hg w11 hbox hb; have BK186 := aM (hbox); have GW186 := yV1 hg HB GE185; have GE186 := yV1 hg HB GE185; replace HB := yS1 HB GE185 hb; have NB185_186 := yX hg BK185; have NB186_185 := yY NB185_186; replace BK185 := yK BK185 hb; clear hb hbox hg; have HI186 := aM (show IsS46 w _ gb186 l0 0 0 from ⟨_, _, BK186.out, (by first | exact GW186.out | exact GE186.out), HR0.out⟩); clear BK186) | (refine yL 11 Tryd.func24 #[.pointer (some ⟨gb186, 0, none⟩)] ?_; (with_reducible refine (spec_l1Cur_vote.calls k gb186 l0 0 0 t187 t190 t191 t192 w _ ?side1 ?side2 A2.out).mono ?_); (case side1 => exact IsS46.x1 HI186.out NB186_185.out); (case side2 => exact xG2 HB.out (IsS46.ge HI186.out) GE185.out); rintro e w12 ⟨v188, rfl, ho0, hi, hb, hk⟩; refine ⟨_, rfl, ?_⟩; replace BK185 := yQ hk BK185 NB185_186; have HO189 := aM (Kd.R_lower ho0 (below_size (xG2 HB.out (IsS46.ge HI186.out) GE185.out))); replace HB := aM (hb); replace HI186 := aM (hi); (try clear hb; try clear hb2; try clear hk; try clear hi; try clear ho0)) | (refine yB 5 #[.slice none 0 0, .int .i64 0] 26 ?_; intro gb193 hg w13 hbox hb; replace HO189 := aM (Kd.R_below (xR HO189.out) hb); have BK193 := aM (hbox); have GW193 := aM ((by rw [hg]; exact (below_size (xG2 HB.out (IsS46.ge HI186.out) GE185.out)) : w.heap.size ≤ gb193)); have GE193 := aM ((by rw [hg]; exact (below_size (xG2 HB.out (IsS46.ge HI186.out) GE185.out)) : w.heap.size ≤ gb193)); replace HB := aM (below_step (xG2 HB.out (IsS46.ge HI186.out) GE185.out) hb); have NB185_193 := yX hg BK185; have NB193_185 := yY NB185_193; replace BK185 := yK BK185 hb; have NB186_193 := aM ((by rw [hg]; exact Nat.ne_of_lt (IsS46.lt (show IsS46 w _ gb186 l0 t191 t192 from IsS46.x1 HI186.out NB186_185.out)) : gb186 ≠ gb193)); have NB193_186 := aM ((by rw [hg]; exact Nat.ne_of_gt (IsS46.lt (show IsS46 w _ gb186 l0 t191 t192 from IsS46.x1 HI186.out NB186_185.out)) : gb193 ≠ gb186)); replace HI186 := aM (IsS46.below (IsS46.x1 HI186.out NB186_185.out) hb); clear hb hbox hg; obtain ⟨Ao14, co14, eo14⟩ := Kd.R_slice HO189.out; subst eo14; have hnb15 := NB193_185.out; have hnc15 := NB185_193.out; have hnb16 := NB193_186.out; have hnc16 := NB186_193.out; obtain ⟨hcz17_0, hcz17_1, hfz17_0, hfz17_1⟩ := yD2 BK193) | (refine yL 15 Tryd.func26 #[.int .i64 (t187.length : Int), .int .i64 8] ?_; (with_reducible refine (spec_l1Least.calls (t187.length : Int) 8 t194 _ A3.out).mono ?_); rintro e w' ⟨rfl, ⟨nd, rfl⟩⟩; refine ⟨_, rfl, ?_⟩) | (refine yL 17 Tryd.func27 #[.pointer (some ⟨gb186, 0, none⟩), .int .i64 256] ?_; (with_reducible refine (spec_l1Cur_pick.calls gb186 l0 t191 t192 256 t195 t196 t197 w _ ?side1 ?side2 A4.out).mono ?_); (case side1 => exact IsS46.x2 HI186.out NB186_185.out NB186_193.out); (case side2 => exact xG3 HB.out (IsS46.ge HI186.out) GE185.out GE193.out); rintro e w18 ⟨rfl, hi, hb, hk⟩; refine ⟨_, rfl, ?_⟩; replace BK185 := yQ1 hk BK185 NB185_186 NB185_193; replace HO189 := aM (rM (Kd.R_keep (IsS46.apart (show IsS46 w _ gb186 l0 t191 t192 from IsS46.x2 HI186.out NB186_185.out NB186_193.out) (zR (rM (Kd.R_far (p := ⟨gb193, 1, none⟩) (Kd.R_far (p := ⟨gb193, 0, none⟩) (Kd.R_types HO189.out BK193.out (by decide)) (fun _ hk => hk.2) (.slice Ao14 t187.length co14)) (fun _ hk => hk.2) (.int .i64 t190)) (fun _ h_ => h_.1))) (by decide)) hk (fun _ h => h.2)) (fun _ h => h.1)); replace BK193 := aM (KeepBut.blk hk (g' := gb193) (o := .cells #[.slice Ao14 t187.length co14, .int .i64 t190] 26 (0, 0)) (by (with_reducible repeat (first | refine bN ?_ _ | refine bD ?_ | refine bA ?_ _)); refine blk_put (cs := #[.slice Ao14 t187.length co14, .int .i64 0]) ?_ 1 _ rfl; (with_reducible repeat (first | refine bN ?_ _ | refine bD ?_ | refine bA ?_ _)); refine blk_put (cs := #[.slice none 0 0, .int .i64 0]) ?_ 0 _ rfl; (with_reducible repeat (first | refine bN ?_ _ | refine bD ?_ | refine bA ?_ _)); exact BK193.out) NB193_186.out (by simp)); replace HB := aM (hb); replace HI186 := aM (hi); (try clear hb; try clear hb2; try clear hk; try clear hi)) | (refine yL 18 Tryd.func25 #[.int .i64 t194, .int .i64 t195] ?_; (with_reducible refine (spec_l6Bits.calls k t194 t195 t198 _ A5.out).mono ?_); rintro e w19 ⟨v199, rfl, ho0, hb⟩; refine ⟨_, rfl, ?_⟩; have HO200 := aM (Kd.R_lower (Kd.R_new' ho0 (Kd.R_lt (xR HO189.out))) (below_size (xG3 HB.out (IsS46.ge HI186.out) GE185.out GE193.out))); replace HO189 := aM (Kd.R_elder' (xR HO189.out) (Kd.R_base ho0) hb); replace BK185 := yK BK185 hb; replace BK193 := yK BK193 hb; replace HB := aM (below_step (xG3 HB.out (IsS46.ge HI186.out) GE185.out GE193.out) hb); replace HI186 := aM (IsS46.below (IsS46.x2 HI186.out NB186_185.out NB186_193.out) hb); (try clear hb; try clear hb2; try clear hk; try clear hi; try clear ho0)) | (refine yL 20 Tryd.func28 #[.pointer (some ⟨gb186, 0, none⟩), .int .i64 20] ?_; (with_reducible refine (spec_l1Cur_one.calls gb186 l0 t196 t197 20 true t202 t203 w _ ?side1 ?side2 A6.out).mono ?_); (case side1 => exact IsS46.x2 HI186.out NB186_185.out NB186_193.out); (case side2 => exact xG3 HB.out (IsS46.ge HI186.out) GE185.out GE193.out); rintro e w20 ⟨rfl, hi, hb, hk⟩; refine ⟨_, rfl, ?_⟩; replace BK185 := yQ hk BK185 NB185_186; replace HO189 := aM (rM (Kd.R_keep (IsS46.apart (show IsS46 w _ gb186 l0 t196 t197 from IsS46.x2 HI186.out NB186_185.out NB186_193.out) (xR HO189.out) (by decide)) hk (fun _ h => h.2)) (fun _ h => h.1)); replace BK193 := yQ hk BK193 NB193_186; replace HO200 := aM (rM (Kd.R_keep (IsS46.apart (show IsS46 w _ gb186 l0 t196 t197 from IsS46.x2 HI186.out NB186_185.out NB186_193.out) (xR HO200.out) (by decide)) hk (fun _ h => h.2)) (fun _ h => h.1)); replace HB := aM (hb); replace HI186 := aM (hi); (try clear hb; try clear hb2; try clear hk; try clear hi); obtain ⟨hcz21_0, hcz21_1, hfz21_0, hfz21_1⟩ := yD2 BK193) | (refine yL 24 Tryd.func29 #[.pointer (some ⟨gb186, 0, none⟩), .agg #[.slice Ao14 t187.length co14, .int .i64 t190]] ?_; (with_reducible refine (spec_l1Cur_voter.calls k gb186 l0 t202 t203 _ _ t187 t190 t204 t205 t206 w _ ?side1 ?side2 ?side3 ?side4 ?side5 A8.out).mono ?_); (case side1 => exact IsS46.x2 HI186.out NB186_185.out NB186_193.out); (case side2 => exact xG3 HB.out (IsS46.ge HI186.out) GE185.out GE193.out); (case side3 => exact xC (Kd.R_reads' HO189.out).2.2); (case side4 => exact (Kd.R_reads' HO189.out).2.1); (case side5 => exact far_slice (IsS46.own_ne HI186.out HO189.out (by decide))); rintro e w22 ⟨rfl, hi, hb, hk⟩; refine ⟨_, rfl, ?_⟩; replace BK185 := yQ hk BK185 NB185_186; replace HO189 := aM (rM (Kd.R_keep (IsS46.apart (show IsS46 w _ gb186 l0 t202 t203 from IsS46.x2 HI186.out NB186_185.out NB186_193.out) (xR HO189.out) (by decide)) hk (fun _ h => h.2)) (fun _ h => h.1)); replace BK193 := yQ hk BK193 NB193_186; replace HO200 := aM (rM (Kd.R_keep (IsS46.apart (show IsS46 w _ gb186 l0 t202 t203 from IsS46.x2 HI186.out NB186_185.out NB186_193.out) (xR HO200.out) (by decide)) hk (fun _ h => h.2)) (fun _ h => h.1)); replace HB := aM (hb); replace HI186 := aM (hi); (try clear hb; try clear hb2; try clear hk; try clear hi)) | ((with_reducible refine gate_builtin (b := .append) (xs := #[.tmp 21, .tmp 25]) rfl ?_); at_builtin; refine Kd.R_append (Kd.int .i64) (w0 := w) w.heap.size rfl (.tmp 21) (.tmp 25) 24 3 (.int .i64 0) 8 rfl Tryd.underlying24 info3 rfl (by decide) (by omega) v199 t198 t204 [.int .i64 t204] (fun k_ => some k_ ≠ (.slice Ao14 t187.length co14 : Value).ownBlock) (fun _ => False) rfl rfl ?aP (fun _ hk => hk.elim) ?aF ?aO ?aB ?aS ?aL ?_; (case aP => exact rfl); (case aB => exact (xG3 HB.out (IsS46.ge HI186.out) GE185.out GE193.out)); (case aF => exact (fun k_ hk => Kd.fresh' (Kd.R_lt (xR HO189.out)) k_ hk)); (case aO => exact (zR (rM HO200.out (fun _ hk => by first | exact hk.2 | exact trivial)))); (case aS => exact (below_size (xG3 HB.out (IsS46.ge HI186.out) GE185.out GE193.out))); (case aL => have := LMc9.out; omega); intro v208 w23 ho hb hg hat; rw [← Ny207.out] at ho; replace BK185 := yR BK185 hg (Kd.R_ne HO200.out BK185.out (by decide)); replace HI186 := aM (IsS46.grown (IsS46.x2 HI186.out NB186_185.out NB186_193.out) hg (IsS46.own_ne HI186.out HO200.out (by decide))); replace HO189 := aM (Kd.R_after (ok := (fun _ => True)) (xR HO189.out) hg hat); replace BK193 := yR BK193 hg (Kd.R_ne HO200.out BK193.out (by decide)); replace HB := aM (hb); have HO209 := aM (ho); clear HO200; clear ho hb hg hat; obtain ⟨hcz24_0, hcz24_1, hfz24_0, hfz24_1⟩ := yD2 BK193; have hnb25 := NB185_186.out; have hnc25 := NB186_185.out; obtain ⟨hcz26_0, hcz26_1, hfz26_0, hfz26_1⟩ := yD2 BK185))
   refine bodyPost_ret (results_ct rfl _ _ gb185 26 #[.slice Ao14 t187.length co14, .int .i64 t190] (0, 0) _ rfl (by (with_reducible repeat (first | refine bN ?_ _ | refine bD ?_ | refine bA ?_ _)); refine blk_put (cs := #[.slice Ao14 t187.length co14, .int .i64 0]) ?_ 1 _ rfl; (with_reducible repeat (first | refine bN ?_ _ | refine bD ?_ | refine bA ?_ _)); refine blk_put (cs := #[.slice none 0 0, .int .i64 0]) ?_ 0 _ rfl; (with_reducible repeat (first | refine bN ?_ _ | refine bD ?_ | refine bA ?_ _)); exact BK185.out) Tryd.underlying26 rfl (by kernel_rfl)) rfl ?_
   exact ⟨_, _, yF, zR (rM (Kd.R_far (p := ⟨gb185, 1, none⟩) (Kd.R_far (p := ⟨gb185, 0, none⟩) (Kd.R_types HO189.out BK185.out (by decide)) (fun _ hk => hk.2) (.slice Ao14 t187.length co14)) (fun _ hk => hk.2) (.int .i64 t190)) (fun _ hk => hk.1.2)), zR (rM (Kd.R_far (p := ⟨gb185, 1, none⟩) (Kd.R_far (p := ⟨gb185, 0, none⟩) (Kd.R_types HO209.out BK185.out (by decide)) (fun _ hk => hk.2) (.slice Ao14 t187.length co14)) (fun _ hk => hk.2) (.int .i64 t190)) (fun _ hk => hk.1)), xG3 HB.out (IsS46.ge HI186.out) GE185.out GE193.out⟩
  ·
   rw [if_neg c9] at H
   exact absurd H (by simp)
 ·
  replace c7 := Bool.eq_false_iff.mpr c7
  subst c7
  have H1 : (some (t187, t190, t198)) = some (r1, r2, r3) := by rw [if_neg (show ¬ (false = true) by decide)] at H; exact H
  clear H
  have H := H1
  clear H1
  simp only [Option.some.injEq, Prod.mk.injEq] at H
  obtain ⟨rfl, rfl, rfl⟩ := H
  go_enter Tryd.func5, Tryd.ntmps5
  go_wp2_with (first | (refine yB 2 #[.slice none 0 0, .int .i64 0] 26 ?_; intro gb185 hg w27 hbox hb; have BK185 := aM (hbox); have GW185 := yV0 hg HB; have GE185 := yV0 hg HB; replace HB := yS0 HB hb; clear hb hbox hg) | (refine yB 9 #[.slice A0 l0.length c0, .int .i64 0, .int .u64 0] 46 ?_; intro gb186 hg w28 hbox hb; have BK186 := aM (hbox); have GW186 := yV1 hg HB GE185; have GE186 := yV1 hg HB GE185; replace HB := yS1 HB GE185 hb; have NB185_186 := yX hg BK185; have NB186_185 := yY NB185_186; replace BK185 := yK BK185 hb; clear hb hbox hg; have HI186 := aM (show IsS46 w _ gb186 l0 0 0 from ⟨_, _, BK186.out, (by first | exact GW186.out | exact GE186.out), HR0.out⟩); clear BK186) | (refine yL 11 Tryd.func24 #[.pointer (some ⟨gb186, 0, none⟩)] ?_; (with_reducible refine (spec_l1Cur_vote.calls k gb186 l0 0 0 t187 t190 t191 t192 w _ ?side1 ?side2 A2.out).mono ?_); (case side1 => exact IsS46.x1 HI186.out NB186_185.out); (case side2 => exact xG2 HB.out (IsS46.ge HI186.out) GE185.out); rintro e w29 ⟨v188, rfl, ho0, hi, hb, hk⟩; refine ⟨_, rfl, ?_⟩; replace BK185 := yQ hk BK185 NB185_186; have HO189 := aM (Kd.R_lower ho0 (below_size (xG2 HB.out (IsS46.ge HI186.out) GE185.out))); replace HB := aM (hb); replace HI186 := aM (hi); (try clear hb; try clear hb2; try clear hk; try clear hi; try clear ho0)) | (refine yB 5 #[.slice none 0 0, .int .i64 0] 26 ?_; intro gb193 hg w30 hbox hb; replace HO189 := aM (Kd.R_below (xR HO189.out) hb); have BK193 := aM (hbox); have GW193 := aM ((by rw [hg]; exact (below_size (xG2 HB.out (IsS46.ge HI186.out) GE185.out)) : w.heap.size ≤ gb193)); have GE193 := aM ((by rw [hg]; exact (below_size (xG2 HB.out (IsS46.ge HI186.out) GE185.out)) : w.heap.size ≤ gb193)); replace HB := aM (below_step (xG2 HB.out (IsS46.ge HI186.out) GE185.out) hb); have NB185_193 := yX hg BK185; have NB193_185 := yY NB185_193; replace BK185 := yK BK185 hb; have NB186_193 := aM ((by rw [hg]; exact Nat.ne_of_lt (IsS46.lt (show IsS46 w _ gb186 l0 t191 t192 from IsS46.x1 HI186.out NB186_185.out)) : gb186 ≠ gb193)); have NB193_186 := aM ((by rw [hg]; exact Nat.ne_of_gt (IsS46.lt (show IsS46 w _ gb186 l0 t191 t192 from IsS46.x1 HI186.out NB186_185.out)) : gb193 ≠ gb186)); replace HI186 := aM (IsS46.below (IsS46.x1 HI186.out NB186_185.out) hb); clear hb hbox hg; obtain ⟨Ao31, co31, eo31⟩ := Kd.R_slice HO189.out; subst eo31; have hnb32 := NB193_185.out; have hnc32 := NB185_193.out; have hnb33 := NB193_186.out; have hnc33 := NB186_193.out; obtain ⟨hcz34_0, hcz34_1, hfz34_0, hfz34_1⟩ := yD2 BK193) | (refine yL 15 Tryd.func26 #[.int .i64 (t187.length : Int), .int .i64 8] ?_; (with_reducible refine (spec_l1Least.calls (t187.length : Int) 8 t194 _ A3.out).mono ?_); rintro e w' ⟨rfl, ⟨nd, rfl⟩⟩; refine ⟨_, rfl, ?_⟩) | (refine yL 17 Tryd.func27 #[.pointer (some ⟨gb186, 0, none⟩), .int .i64 256] ?_; (with_reducible refine (spec_l1Cur_pick.calls gb186 l0 t191 t192 256 t195 t196 t197 w _ ?side1 ?side2 A4.out).mono ?_); (case side1 => exact IsS46.x2 HI186.out NB186_185.out NB186_193.out); (case side2 => exact xG3 HB.out (IsS46.ge HI186.out) GE185.out GE193.out); rintro e w35 ⟨rfl, hi, hb, hk⟩; refine ⟨_, rfl, ?_⟩; replace BK185 := yQ1 hk BK185 NB185_186 NB185_193; replace HO189 := aM (rM (Kd.R_keep (IsS46.apart (show IsS46 w _ gb186 l0 t191 t192 from IsS46.x2 HI186.out NB186_185.out NB186_193.out) (zR (rM (Kd.R_far (p := ⟨gb193, 1, none⟩) (Kd.R_far (p := ⟨gb193, 0, none⟩) (Kd.R_types HO189.out BK193.out (by decide)) (fun _ hk => hk.2) (.slice Ao31 t187.length co31)) (fun _ hk => hk.2) (.int .i64 t190)) (fun _ h_ => h_.1))) (by decide)) hk (fun _ h => h.2)) (fun _ h => h.1)); replace BK193 := aM (KeepBut.blk hk (g' := gb193) (o := .cells #[.slice Ao31 t187.length co31, .int .i64 t190] 26 (0, 0)) (by (with_reducible repeat (first | refine bN ?_ _ | refine bD ?_ | refine bA ?_ _)); refine blk_put (cs := #[.slice Ao31 t187.length co31, .int .i64 0]) ?_ 1 _ rfl; (with_reducible repeat (first | refine bN ?_ _ | refine bD ?_ | refine bA ?_ _)); refine blk_put (cs := #[.slice none 0 0, .int .i64 0]) ?_ 0 _ rfl; (with_reducible repeat (first | refine bN ?_ _ | refine bD ?_ | refine bA ?_ _)); exact BK193.out) NB193_186.out (by simp)); replace HB := aM (hb); replace HI186 := aM (hi); (try clear hb; try clear hb2; try clear hk; try clear hi)) | (refine yL 18 Tryd.func25 #[.int .i64 t194, .int .i64 t195] ?_; (with_reducible refine (spec_l6Bits.calls k t194 t195 t198 _ A5.out).mono ?_); rintro e w36 ⟨v199, rfl, ho0, hb⟩; refine ⟨_, rfl, ?_⟩; have HO200 := aM (Kd.R_lower (Kd.R_new' ho0 (Kd.R_lt (xR HO189.out))) (below_size (xG3 HB.out (IsS46.ge HI186.out) GE185.out GE193.out))); replace HO189 := aM (Kd.R_elder' (xR HO189.out) (Kd.R_base ho0) hb); replace BK185 := yK BK185 hb; replace BK193 := yK BK193 hb; replace HB := aM (below_step (xG3 HB.out (IsS46.ge HI186.out) GE185.out GE193.out) hb); replace HI186 := aM (IsS46.below (IsS46.x2 HI186.out NB186_185.out NB186_193.out) hb); (try clear hb; try clear hb2; try clear hk; try clear hi; try clear ho0)) | (refine yL 20 Tryd.func28 #[.pointer (some ⟨gb186, 0, none⟩), .int .i64 20] ?_; (with_reducible refine (spec_l1Cur_one.calls gb186 l0 t196 t197 20 false t202 t203 w _ ?side1 ?side2 A6.out).mono ?_); (case side1 => exact IsS46.x2 HI186.out NB186_185.out NB186_193.out); (case side2 => exact xG3 HB.out (IsS46.ge HI186.out) GE185.out GE193.out); rintro e w37 ⟨rfl, hi, hb, hk⟩; refine ⟨_, rfl, ?_⟩; replace BK185 := yQ hk BK185 NB185_186; replace HO189 := aM (rM (Kd.R_keep (IsS46.apart (show IsS46 w _ gb186 l0 t196 t197 from IsS46.x2 HI186.out NB186_185.out NB186_193.out) (xR HO189.out) (by decide)) hk (fun _ h => h.2)) (fun _ h => h.1)); replace BK193 := yQ hk BK193 NB193_186; replace HO200 := aM (rM (Kd.R_keep (IsS46.apart (show IsS46 w _ gb186 l0 t196 t197 from IsS46.x2 HI186.out NB186_185.out NB186_193.out) (xR HO200.out) (by decide)) hk (fun _ h => h.2)) (fun _ h => h.1)); replace HB := aM (hb); replace HI186 := aM (hi); (try clear hb; try clear hb2; try clear hk; try clear hi); obtain ⟨hcz38_0, hcz38_1, hfz38_0, hfz38_1⟩ := yD2 BK193; have hnb39 := NB185_186.out; have hnc39 := NB186_185.out; obtain ⟨hcz40_0, hcz40_1, hfz40_0, hfz40_1⟩ := yD2 BK185))
  refine bodyPost_ret (results_ct rfl _ _ gb185 26 #[.slice Ao31 t187.length co31, .int .i64 t190] (0, 0) _ rfl (by (with_reducible repeat (first | refine bN ?_ _ | refine bD ?_ | refine bA ?_ _)); refine blk_put (cs := #[.slice Ao31 t187.length co31, .int .i64 0]) ?_ 1 _ rfl; (with_reducible repeat (first | refine bN ?_ _ | refine bD ?_ | refine bA ?_ _)); refine blk_put (cs := #[.slice none 0 0, .int .i64 0]) ?_ 0 _ rfl; (with_reducible repeat (first | refine bN ?_ _ | refine bD ?_ | refine bA ?_ _)); exact BK185.out) Tryd.underlying26 rfl (by kernel_rfl)) rfl ?_
  exact ⟨_, _, yF, zR (rM (Kd.R_far (p := ⟨gb185, 1, none⟩) (Kd.R_far (p := ⟨gb185, 0, none⟩) (Kd.R_types HO189.out BK185.out (by decide)) (fun _ hk => hk.2) (.slice Ao31 t187.length co31)) (fun _ hk => hk.2) (.int .i64 t190)) (fun _ hk => hk.1.2)), zR (rM (Kd.R_far (p := ⟨gb185, 1, none⟩) (Kd.R_far (p := ⟨gb185, 0, none⟩) (Kd.R_types HO200.out BK185.out (by decide)) (fun _ hk => hk.2) (.slice Ao31 t187.length co31)) (fun _ hk => hk.2) (.int .i64 t190)) (fun _ hk => hk.1.2)), xG3 HB.out (IsS46.ge HI186.out) GE185.out GE193.out⟩
def impl_within.f (a0 : Int) (a1 : Int) (a2 : Int) : Option (Bool) := if a0 ≥ a1 then (some (decide (a0 ≤ a2))) else (some false)
theorem impl_within.calls (a0 : Int) (a1 : Int) (a2 : Int) (r : Bool) (w : World) (h : impl_within.f a0 a1 a2 = some r) :
  Calls Tryd.prog 40 #[.int .i64 a0, .int .i64 a1, .int .i64 a2] w fun e w' => e = .returned (.bool r) ∧ Drawn0 w w' := by
 have H : (if a0 ≥ a1 then (some (decide (a0 ≤ a2))) else (some false)) = some r := h
 clear h
 by_cases c4 : a0 ≥ a1
 ·
  rw [if_pos c4] at H
  have c4b0 : decide (a1 ≤ a0) = true := decide_eq_true c4
  clear c4
  obtain rfl := Option.some.inj H
  go_enter Tryd.func40, Tryd.ntmps40
  go_wp2
  go_ret
  exact ⟨by first | rfl | (simp; done) | (simp [*]; done), by repeat (first | exact Drawn0.refl _ | apply Drawn0.step)⟩
 ·
  rw [if_neg c4] at H
  have c4b0 : decide (a1 ≤ a0) = false := decide_eq_false c4
  clear c4
  obtain rfl := Option.some.inj H
  go_enter Tryd.func40, Tryd.ntmps40
  go_wp2
  go_ret
  exact ⟨by first | rfl | (simp; done) | (simp [*]; done), by repeat (first | exact Drawn0.refl _ | apply Drawn0.step)⟩
def impl_allWithin.l0 : Nat → Int → Int → List Int → Int → Int → Option (Bool)
 | 0, _, _, _, _, _ => none
 | k + 1, x1, x2, x9, x10, x11 => if x11 < x10 then (if 0 ≤ x11 then (if x11 < (x9.length : Int) then ((impl_within.f (rd x9 x11) x1 x2).bind fun t211 => (if t211 = true then (impl_allWithin.l0 k x1 x2 x9 x10 (wrap64 (x11 + 1))) else (some false))) else (none)) else (none)) else (some true)
def impl_allWithin.f (k : Nat) (l0 : List Int) (a1 : Int) (a2 : Int) : Option (Bool) := impl_allWithin.l0 k a1 a2 l0 (l0.length : Int) 0
theorem impl_allWithin.calls (k : Nat) (A0 : Option Addr) (c0 : Nat) (l0 : List Int) (a1 : Int) (a2 : Int) (r : Bool) (w : World) (hr0 : Kd.C (Kd.int .i64) w A0 l0.length l0) (hc0 : l0.length ≤ c0) (h : impl_allWithin.f k l0 a1 a2 = some r) :
  Calls Tryd.prog 41 #[.slice A0 l0.length c0, .int .i64 a1, .int .i64 a2] w fun e w' => e = .returned (.bool r) ∧ Drawn0 w w' := by
 have HR0 := aM hr0
 have HC0 := aM hc0
 clear hr0 hc0
 have H : (impl_allWithin.l0 k a1 a2 l0 (l0.length : Int) 0) = some r := h
 clear h
 have H' := aM H
 clear H
 go_enter Tryd.func41, Tryd.ntmps41
 go_wp2
 go_loopg [11] k (fun kq v11 w' => ∃ (x11_1 : Int), v11 = .int .i64 x11_1 ∧ Aside0 (impl_allWithin.l0 kq a1 a2 l0 (l0.length : Int) x11_1 = some r) ∧ Aside0 (kq ≤ k) ∧ Drawn0 w w')
 case atStart => exact ⟨(0), yZ, H', ⟨Nat.le_refl _⟩, by repeat (first | exact Drawn0.refl _ | apply Drawn0.step)⟩
 case round =>
  clear H'
  try clear p2
  obtain ⟨x11_1, rfl, HA, HK1, ⟨m1, rfl⟩⟩ := hrel
  cases gk with
  | zero => exact absurd HA.out (by simp [impl_allWithin.l0])
  | succ k1 =>
   have H := HA.out
   clear HA
   simp only [impl_allWithin.l0] at H
   by_cases c4 : x11_1 < (l0.length : Int)
   ·
    rw [if_pos c4] at H
    have c4b0 := decide_eq_true c4
    clear c4
    by_cases c5 : 0 ≤ x11_1
    ·
     rw [if_pos c5] at H
     have c5b0 := decide_eq_true c5
     clear c5
     by_cases c6 : x11_1 < (l0.length : Int)
     ·
      rw [if_pos c6] at H
      have c6b0 := decide_eq_true c6
      clear c6
      replace H := oB.mp H
      obtain ⟨t211, A70, H⟩ := H
      replace H : (if t211 = true then (impl_allWithin.l0 k1 a1 a2 l0 (l0.length : Int) (wrap64 (x11_1 + 1))) else (some false)) = some r := H
      have A7 := aM A70
      clear A70
      by_cases c8 : t211 = true
      ·
       subst c8
       have H1 : (impl_allWithin.l0 k1 a1 a2 l0 (l0.length : Int) (wrap64 (x11_1 + 1))) = some r := by rw [if_pos rfl] at H; exact H
       clear H
       have H := H1
       clear H1
       have H' := aM H
       clear H
       have p210 : 0 ≤ (x11_1 : Int) := yA
       have q210 : x11_1 < (l0.length : Int) := yA
       obtain ⟨ad210, e210, hx210_0⟩ := Kd.at_int HR0.out x11_1 p210 q210
       cases e210
       replace p210 := eq_true p210
       replace q210 := eq_true q210
       go_wp2_with (first | (refine yL 18 Tryd.func40 #[.int .i64 (rd l0 x11_1), .int .i64 a1, .int .i64 a2] ?_; (with_reducible refine (impl_within.calls (rd l0 x11_1) a1 a2 true _ A7.out).mono ?_); rintro e w' ⟨rfl, ⟨nd, rfl⟩⟩; refine ⟨_, rfl, ?_⟩))
       go_roundg k1
       case measure => have := HK1.out; omega
       case rel => exact ⟨(wrap64 (x11_1 + 1)), yZ, H', ⟨by have := HK1.out; omega⟩, by repeat (first | exact Drawn0.refl _ | apply Drawn0.step)⟩
      ·
       replace c8 := Bool.eq_false_iff.mpr c8
       subst c8
       have H1 : (some false) = some r := by rw [if_neg (show ¬ (false = true) by decide)] at H; exact H
       clear H
       have H := H1
       clear H1
       obtain rfl := Option.some.inj H
       have p210 : 0 ≤ (x11_1 : Int) := yA
       have q210 : x11_1 < (l0.length : Int) := yA
       obtain ⟨ad210, e210, hx210_0⟩ := Kd.at_int HR0.out x11_1 p210 q210
       cases e210
       replace p210 := eq_true p210
       replace q210 := eq_true q210
       go_wp2_with (first | (refine yL 18 Tryd.func40 #[.int .i64 (rd l0 x11_1), .int .i64 a1, .int .i64 a2] ?_; (with_reducible refine (impl_within.calls (rd l0 x11_1) a1 a2 false _ A7.out).mono ?_); rintro e w' ⟨rfl, ⟨nd, rfl⟩⟩; refine ⟨_, rfl, ?_⟩))
       go_ret
       exact ⟨by first | rfl | (simp; done) | (simp [*]; done), by repeat (first | exact Drawn0.refl _ | apply Drawn0.step)⟩
     ·
      rw [if_neg c6] at H
      exact absurd H (by simp)
    ·
     rw [if_neg c5] at H
     exact absurd H (by simp)
   ·
    rw [if_neg c4] at H
    have c4b0 := decide_eq_false c4
    clear c4
    obtain rfl := Option.some.inj H
    go_wp2
    go_ret
    exact ⟨by first | rfl | (simp; done) | (simp [*]; done), by repeat (first | exact Drawn0.refl _ | apply Drawn0.step)⟩
def impl_total.l0 : Nat → Int → List Int → Int → Int → Option (Int)
 | 0, _, _, _, _ => none
 | k + 1, x3, x6, x7, x8 => if x8 < x7 then (if 0 ≤ x8 then (if x8 < (x6.length : Int) then (impl_total.l0 k (wrap64 (x3 + (rd x6 x8))) x6 x7 (wrap64 (x8 + 1))) else (none)) else (none)) else (some x3)
def impl_total.f (k : Nat) (l0 : List Int) : Option (Int) := impl_total.l0 k 0 l0 (l0.length : Int) 0
theorem impl_total.calls (k : Nat) (A0 : Option Addr) (c0 : Nat) (l0 : List Int) (r : Int) (w : World) (hr0 : Kd.C (Kd.int .i64) w A0 l0.length l0) (hc0 : l0.length ≤ c0) (h : impl_total.f k l0 = some r) :
  Calls Tryd.prog 42 #[.slice A0 l0.length c0] w fun e w' => e = .returned (.int .i64 r) ∧ Drawn0 w w' := by
 have HR0 := aM hr0
 have HC0 := aM hc0
 clear hr0 hc0
 have H : (impl_total.l0 k 0 l0 (l0.length : Int) 0) = some r := h
 clear h
 have H' := aM H
 clear H
 go_enter Tryd.func42, Tryd.ntmps42
 go_wp2
 go_loopg [3, 8] k (fun kq v3 v8 w' => ∃ (x3_1 : Int) (x8_1 : Int), v3 = .int .i64 x3_1 ∧ v8 = .int .i64 x8_1 ∧ Aside0 (impl_total.l0 kq x3_1 l0 (l0.length : Int) x8_1 = some r) ∧ Aside0 (kq ≤ k) ∧ Drawn0 w w')
 case atStart => exact ⟨(0), (0), yZ, yZ, H', ⟨Nat.le_refl _⟩, by repeat (first | exact Drawn0.refl _ | apply Drawn0.step)⟩
 case round =>
  clear H'
  obtain ⟨x3_1, x8_1, rfl, rfl, HA, HK1, ⟨m1, rfl⟩⟩ := hrel
  cases gk with
  | zero => exact absurd HA.out (by simp [impl_total.l0])
  | succ k1 =>
   have H := HA.out
   clear HA
   simp only [impl_total.l0] at H
   by_cases c2 : x8_1 < (l0.length : Int)
   ·
    rw [if_pos c2] at H
    have c2b0 := decide_eq_true c2
    clear c2
    by_cases c3 : 0 ≤ x8_1
    ·
     rw [if_pos c3] at H
     have c3b0 := decide_eq_true c3
     clear c3
     by_cases c4 : x8_1 < (l0.length : Int)
     ·
      rw [if_pos c4] at H
      have c4b0 := decide_eq_true c4
      clear c4
      have H' := aM H
      clear H
      have p212 : 0 ≤ (x8_1 : Int) := yA
      have q212 : x8_1 < (l0.length : Int) := yA
      obtain ⟨ad212, e212, hx212_0⟩ := Kd.at_int HR0.out x8_1 p212 q212
      cases e212
      replace p212 := eq_true p212
      replace q212 := eq_true q212
      go_wp2
      go_roundg k1
      case measure => have := HK1.out; omega
      case rel => exact ⟨(wrap64 (x3_1 + (rd l0 x8_1))), (wrap64 (x8_1 + 1)), yZ, yZ, H', ⟨by have := HK1.out; omega⟩, by repeat (first | exact Drawn0.refl _ | apply Drawn0.step)⟩
     ·
      rw [if_neg c4] at H
      exact absurd H (by simp)
    ·
     rw [if_neg c3] at H
     exact absurd H (by simp)
   ·
    rw [if_neg c2] at H
    have c2b0 := decide_eq_false c2
    clear c2
    obtain rfl := Option.some.inj H
    go_wp2
    go_ret
    exact ⟨by first | rfl | (simp; done) | (simp [*]; done), by repeat (first | exact Drawn0.refl _ | apply Drawn0.step)⟩
def impl_IsVote.f (k : Nat) (l0_0 : List Int) (a0_1 : Int) : Option (Bool) := (impl_within.f (l0_0.length : Int) 1 8).bind fun t214 => (if t214 = true then ((impl_allWithin.f k l0_0 0 20).bind fun t215 => (if t215 = true then ((impl_total.f k l0_0).bind fun t216 => ((impl_within.f a0_1 1 t216).bind fun t217 => (some t217))) else (some false))) else (some false))
theorem impl_IsVote.calls (k : Nat) (A0_0 : Option Addr) (c0_0 : Nat) (l0_0 : List Int) (a0_1 : Int) (r : Bool) (w : World) (hr0_0 : Kd.C (Kd.int .i64) w A0_0 l0_0.length l0_0) (hc0_0 : l0_0.length ≤ c0_0) (h : impl_IsVote.f k l0_0 a0_1 = some r) :
  Calls Tryd.prog 10 #[.agg #[.slice A0_0 l0_0.length c0_0, .int .i64 a0_1]] w fun e w' => e = .returned (.bool r) ∧ Below w.heap.size w w' := by
 have hu26 := Tryd.underlying26
 have HR0_0 := aM hr0_0
 have HC0_0 := aM hc0_0
 clear hr0_0 hc0_0
 have HB := aM (Below.refl w.heap.size w)
 have H : ((impl_within.f (l0_0.length : Int) 1 8).bind fun t214 => (if t214 = true then ((impl_allWithin.f k l0_0 0 20).bind fun t215 => (if t215 = true then ((impl_total.f k l0_0).bind fun t216 => ((impl_within.f a0_1 1 t216).bind fun t217 => (some t217))) else (some false))) else (some false))) = some r := h
 clear h
 replace H := oB.mp H
 obtain ⟨t214, A20, H⟩ := H
 replace H : (if t214 = true then ((impl_allWithin.f k l0_0 0 20).bind fun t215 => (if t215 = true then ((impl_total.f k l0_0).bind fun t216 => ((impl_within.f a0_1 1 t216).bind fun t217 => (some t217))) else (some false))) else (some false)) = some r := H
 have A2 := aM A20
 clear A20
 by_cases c3 : t214 = true
 ·
  subst c3
  have H1 : ((impl_allWithin.f k l0_0 0 20).bind fun t215 => (if t215 = true then ((impl_total.f k l0_0).bind fun t216 => ((impl_within.f a0_1 1 t216).bind fun t217 => (some t217))) else (some false))) = some r := by rw [if_pos rfl] at H; exact H
  clear H
  have H := H1
  clear H1
  replace H := oB.mp H
  obtain ⟨t215, A40, H⟩ := H
  replace H : (if t215 = true then ((impl_total.f k l0_0).bind fun t216 => ((impl_within.f a0_1 1 t216).bind fun t217 => (some t217))) else (some false)) = some r := H
  have A4 := aM A40
  clear A40
  by_cases c5 : t215 = true
  ·
   subst c5
   have H1 : ((impl_total.f k l0_0).bind fun t216 => ((impl_within.f a0_1 1 t216).bind fun t217 => (some t217))) = some r := by rw [if_pos rfl] at H; exact H
   clear H
   have H := H1
   clear H1
   replace H := oB.mp H
   obtain ⟨t216, A60, H⟩ := H
   replace H : ((impl_within.f a0_1 1 t216).bind fun t217 => (some t217)) = some r := H
   have A6 := aM A60
   clear A60
   replace H := oB.mp H
   obtain ⟨t217, A70, H⟩ := H
   replace H : (some t217) = some r := H
   have A7 := aM A70
   clear A70
   obtain rfl := Option.some.inj H
   go_enter Tryd.func10, Tryd.ntmps10
   go_wp2_with (first | (refine yB 1 #[.slice A0_0 l0_0.length c0_0, .int .i64 a0_1] 26 ?_; intro gb213 hg w8 hbox hb; have BK213 := aM (hbox); have GW213 := yV0 hg HB; have GE213 := yV0 hg HB; replace HB := yS0 HB hb; clear hb hbox hg; obtain ⟨hcz9_0, hcz9_1, hfz9_0, hfz9_1⟩ := yD2 BK213) | (go_at_call 40; (with_reducible refine (impl_within.calls (l0_0.length : Int) 1 8 true _ A2.out).mono ?_); rintro e w' ⟨rfl, ⟨nd, rfl⟩⟩; (try first | exact ⟨rfl, _, World.drewN_drewN _ _ _⟩ | exact ⟨rfl, _, Eq.trans (World.drewN_drewN _ _ _) (congrArg (World.drewN _) (Nat.add_assoc _ _ _))⟩)) | (go_at_call 41; (with_reducible refine (impl_allWithin.calls k _ _ l0_0 0 20 true _ ?side1 ?side2 A4.out).mono ?_); (case side1 => exact xC (Kd.C_below HR0_0.out (xG1 HB.out GE213.out))); (case side2 => exact HC0_0.out); rintro e w' ⟨rfl, ⟨nd, rfl⟩⟩; (try first | exact ⟨rfl, _, World.drewN_drewN _ _ _⟩ | exact ⟨rfl, _, Eq.trans (World.drewN_drewN _ _ _) (congrArg (World.drewN _) (Nat.add_assoc _ _ _))⟩)) | (go_at_call 42; (with_reducible refine (impl_total.calls k _ _ l0_0 t216 _ ?side1 ?side2 A6.out).mono ?_); (case side1 => exact xC (Kd.C_below HR0_0.out (xG1 HB.out GE213.out))); (case side2 => exact HC0_0.out); rintro e w' ⟨rfl, ⟨nd, rfl⟩⟩; (try first | exact ⟨rfl, _, World.drewN_drewN _ _ _⟩ | exact ⟨rfl, _, Eq.trans (World.drewN_drewN _ _ _) (congrArg (World.drewN _) (Nat.add_assoc _ _ _))⟩)) | (go_at_call 40; (with_reducible refine (impl_within.calls a0_1 1 t216 t217 _ A7.out).mono ?_); rintro e w' ⟨rfl, ⟨nd, rfl⟩⟩; (try first | exact ⟨rfl, _, World.drewN_drewN _ _ _⟩ | exact ⟨rfl, _, Eq.trans (World.drewN_drewN _ _ _) (congrArg (World.drewN _) (Nat.add_assoc _ _ _))⟩)))
   repeat (go_quiet (first | (refine yB 1 #[.slice A0_0 l0_0.length c0_0, .int .i64 a0_1] 26 ?_; intro gb213 hg w8 hbox hb; have BK213 := aM (hbox); have GW213 := yV0 hg HB; have GE213 := yV0 hg HB; replace HB := yS0 HB hb; clear hb hbox hg; obtain ⟨hcz9_0, hcz9_1, hfz9_0, hfz9_1⟩ := yD2 BK213) | (go_at_call 40; (with_reducible refine (impl_within.calls (l0_0.length : Int) 1 8 true _ A2.out).mono ?_); rintro e w' ⟨rfl, ⟨nd, rfl⟩⟩; (try first | exact ⟨rfl, _, World.drewN_drewN _ _ _⟩ | exact ⟨rfl, _, Eq.trans (World.drewN_drewN _ _ _) (congrArg (World.drewN _) (Nat.add_assoc _ _ _))⟩)) | (go_at_call 41; (with_reducible refine (impl_allWithin.calls k _ _ l0_0 0 20 true _ ?side1 ?side2 A4.out).mono ?_); (case side1 => exact xC (Kd.C_below HR0_0.out (xG1 HB.out GE213.out))); (case side2 => exact HC0_0.out); rintro e w' ⟨rfl, ⟨nd, rfl⟩⟩; (try first | exact ⟨rfl, _, World.drewN_drewN _ _ _⟩ | exact ⟨rfl, _, Eq.trans (World.drewN_drewN _ _ _) (congrArg (World.drewN _) (Nat.add_assoc _ _ _))⟩)) | (go_at_call 42; (with_reducible refine (impl_total.calls k _ _ l0_0 t216 _ ?side1 ?side2 A6.out).mono ?_); (case side1 => exact xC (Kd.C_below HR0_0.out (xG1 HB.out GE213.out))); (case side2 => exact HC0_0.out); rintro e w' ⟨rfl, ⟨nd, rfl⟩⟩; (try first | exact ⟨rfl, _, World.drewN_drewN _ _ _⟩ | exact ⟨rfl, _, Eq.trans (World.drewN_drewN _ _ _) (congrArg (World.drewN _) (Nat.add_assoc _ _ _))⟩)) | (go_at_call 40; (with_reducible refine (impl_within.calls a0_1 1 t216 t217 _ A7.out).mono ?_); rintro e w' ⟨rfl, ⟨nd, rfl⟩⟩; (try first | exact ⟨rfl, _, World.drewN_drewN _ _ _⟩ | exact ⟨rfl, _, Eq.trans (World.drewN_drewN _ _ _) (congrArg (World.drewN _) (Nat.add_assoc _ _ _))⟩))); try go_wp2_with (first | (refine yB 1 #[.slice A0_0 l0_0.length c0_0, .int .i64 a0_1] 26 ?_; intro gb213 hg w8 hbox hb; have BK213 := aM (hbox); have GW213 := yV0 hg HB; have GE213 := yV0 hg HB; replace HB := yS0 HB hb; clear hb hbox hg; obtain ⟨hcz9_0, hcz9_1, hfz9_0, hfz9_1⟩ := yD2 BK213) | (go_at_call 40; (with_reducible refine (impl_within.calls (l0_0.length : Int) 1 8 true _ A2.out).mono ?_); rintro e w' ⟨rfl, ⟨nd, rfl⟩⟩; (try first | exact ⟨rfl, _, World.drewN_drewN _ _ _⟩ | exact ⟨rfl, _, Eq.trans (World.drewN_drewN _ _ _) (congrArg (World.drewN _) (Nat.add_assoc _ _ _))⟩)) | (go_at_call 41; (with_reducible refine (impl_allWithin.calls k _ _ l0_0 0 20 true _ ?side1 ?side2 A4.out).mono ?_); (case side1 => exact xC (Kd.C_below HR0_0.out (xG1 HB.out GE213.out))); (case side2 => exact HC0_0.out); rintro e w' ⟨rfl, ⟨nd, rfl⟩⟩; (try first | exact ⟨rfl, _, World.drewN_drewN _ _ _⟩ | exact ⟨rfl, _, Eq.trans (World.drewN_drewN _ _ _) (congrArg (World.drewN _) (Nat.add_assoc _ _ _))⟩)) | (go_at_call 42; (with_reducible refine (impl_total.calls k _ _ l0_0 t216 _ ?side1 ?side2 A6.out).mono ?_); (case side1 => exact xC (Kd.C_below HR0_0.out (xG1 HB.out GE213.out))); (case side2 => exact HC0_0.out); rintro e w' ⟨rfl, ⟨nd, rfl⟩⟩; (try first | exact ⟨rfl, _, World.drewN_drewN _ _ _⟩ | exact ⟨rfl, _, Eq.trans (World.drewN_drewN _ _ _) (congrArg (World.drewN _) (Nat.add_assoc _ _ _))⟩)) | (go_at_call 40; (with_reducible refine (impl_within.calls a0_1 1 t216 t217 _ A7.out).mono ?_); rintro e w' ⟨rfl, ⟨nd, rfl⟩⟩; (try first | exact ⟨rfl, _, World.drewN_drewN _ _ _⟩ | exact ⟨rfl, _, Eq.trans (World.drewN_drewN _ _ _) (congrArg (World.drewN _) (Nat.add_assoc _ _ _))⟩))))
   go_ret
   exact ⟨yF, xG1 HB.out GE213.out⟩
  ·
   replace c5 := Bool.eq_false_iff.mpr c5
   subst c5
   have H1 : (some false) = some r := by rw [if_neg (show ¬ (false = true) by decide)] at H; exact H
   clear H
   have H := H1
   clear H1
   obtain rfl := Option.some.inj H
   go_enter Tryd.func10, Tryd.ntmps10
   go_wp2_with (first | (refine yB 1 #[.slice A0_0 l0_0.length c0_0, .int .i64 a0_1] 26 ?_; intro gb213 hg w10 hbox hb; have BK213 := aM (hbox); have GW213 := yV0 hg HB; have GE213 := yV0 hg HB; replace HB := yS0 HB hb; clear hb hbox hg; obtain ⟨hcz11_0, hcz11_1, hfz11_0, hfz11_1⟩ := yD2 BK213) | (go_at_call 40; (with_reducible refine (impl_within.calls (l0_0.length : Int) 1 8 true _ A2.out).mono ?_); rintro e w' ⟨rfl, ⟨nd, rfl⟩⟩; (try first | exact ⟨rfl, _, World.drewN_drewN _ _ _⟩ | exact ⟨rfl, _, Eq.trans (World.drewN_drewN _ _ _) (congrArg (World.drewN _) (Nat.add_assoc _ _ _))⟩)) | (go_at_call 41; (with_reducible refine (impl_allWithin.calls k _ _ l0_0 0 20 false _ ?side1 ?side2 A4.out).mono ?_); (case side1 => exact xC (Kd.C_below HR0_0.out (xG1 HB.out GE213.out))); (case side2 => exact HC0_0.out); rintro e w' ⟨rfl, ⟨nd, rfl⟩⟩; (try first | exact ⟨rfl, _, World.drewN_drewN _ _ _⟩ | exact ⟨rfl, _, Eq.trans (World.drewN_drewN _ _ _) (congrArg (World.drewN _) (Nat.add_assoc _ _ _))⟩)))
   repeat (go_quiet (first | (refine yB 1 #[.slice A0_0 l0_0.length c0_0, .int .i64 a0_1] 26 ?_; intro gb213 hg w10 hbox hb; have BK213 := aM (hbox); have GW213 := yV0 hg HB; have GE213 := yV0 hg HB; replace HB := yS0 HB hb; clear hb hbox hg; obtain ⟨hcz11_0, hcz11_1, hfz11_0, hfz11_1⟩ := yD2 BK213) | (go_at_call 40; (with_reducible refine (impl_within.calls (l0_0.length : Int) 1 8 true _ A2.out).mono ?_); rintro e w' ⟨rfl, ⟨nd, rfl⟩⟩; (try first | exact ⟨rfl, _, World.drewN_drewN _ _ _⟩ | exact ⟨rfl, _, Eq.trans (World.drewN_drewN _ _ _) (congrArg (World.drewN _) (Nat.add_assoc _ _ _))⟩)) | (go_at_call 41; (with_reducible refine (impl_allWithin.calls k _ _ l0_0 0 20 false _ ?side1 ?side2 A4.out).mono ?_); (case side1 => exact xC (Kd.C_below HR0_0.out (xG1 HB.out GE213.out))); (case side2 => exact HC0_0.out); rintro e w' ⟨rfl, ⟨nd, rfl⟩⟩; (try first | exact ⟨rfl, _, World.drewN_drewN _ _ _⟩ | exact ⟨rfl, _, Eq.trans (World.drewN_drewN _ _ _) (congrArg (World.drewN _) (Nat.add_assoc _ _ _))⟩))); try go_wp2_with (first | (refine yB 1 #[.slice A0_0 l0_0.length c0_0, .int .i64 a0_1] 26 ?_; intro gb213 hg w10 hbox hb; have BK213 := aM (hbox); have GW213 := yV0 hg HB; have GE213 := yV0 hg HB; replace HB := yS0 HB hb; clear hb hbox hg; obtain ⟨hcz11_0, hcz11_1, hfz11_0, hfz11_1⟩ := yD2 BK213) | (go_at_call 40; (with_reducible refine (impl_within.calls (l0_0.length : Int) 1 8 true _ A2.out).mono ?_); rintro e w' ⟨rfl, ⟨nd, rfl⟩⟩; (try first | exact ⟨rfl, _, World.drewN_drewN _ _ _⟩ | exact ⟨rfl, _, Eq.trans (World.drewN_drewN _ _ _) (congrArg (World.drewN _) (Nat.add_assoc _ _ _))⟩)) | (go_at_call 41; (with_reducible refine (impl_allWithin.calls k _ _ l0_0 0 20 false _ ?side1 ?side2 A4.out).mono ?_); (case side1 => exact xC (Kd.C_below HR0_0.out (xG1 HB.out GE213.out))); (case side2 => exact HC0_0.out); rintro e w' ⟨rfl, ⟨nd, rfl⟩⟩; (try first | exact ⟨rfl, _, World.drewN_drewN _ _ _⟩ | exact ⟨rfl, _, Eq.trans (World.drewN_drewN _ _ _) (congrArg (World.drewN _) (Nat.add_assoc _ _ _))⟩))))
   go_ret
   exact ⟨yF, xG1 HB.out GE213.out⟩
 ·
  replace c3 := Bool.eq_false_iff.mpr c3
  subst c3
  have H1 : (some false) = some r := by rw [if_neg (show ¬ (false = true) by decide)] at H; exact H
  clear H
  have H := H1
  clear H1
  obtain rfl := Option.some.inj H
  go_enter Tryd.func10, Tryd.ntmps10
  go_wp2_with (first | (refine yB 1 #[.slice A0_0 l0_0.length c0_0, .int .i64 a0_1] 26 ?_; intro gb213 hg w12 hbox hb; have BK213 := aM (hbox); have GW213 := yV0 hg HB; have GE213 := yV0 hg HB; replace HB := yS0 HB hb; clear hb hbox hg; obtain ⟨hcz13_0, hcz13_1, hfz13_0, hfz13_1⟩ := yD2 BK213) | (go_at_call 40; (with_reducible refine (impl_within.calls (l0_0.length : Int) 1 8 false _ A2.out).mono ?_); rintro e w' ⟨rfl, ⟨nd, rfl⟩⟩; (try first | exact ⟨rfl, _, World.drewN_drewN _ _ _⟩ | exact ⟨rfl, _, Eq.trans (World.drewN_drewN _ _ _) (congrArg (World.drewN _) (Nat.add_assoc _ _ _))⟩)))
  repeat (go_quiet (first | (refine yB 1 #[.slice A0_0 l0_0.length c0_0, .int .i64 a0_1] 26 ?_; intro gb213 hg w12 hbox hb; have BK213 := aM (hbox); have GW213 := yV0 hg HB; have GE213 := yV0 hg HB; replace HB := yS0 HB hb; clear hb hbox hg; obtain ⟨hcz13_0, hcz13_1, hfz13_0, hfz13_1⟩ := yD2 BK213) | (go_at_call 40; (with_reducible refine (impl_within.calls (l0_0.length : Int) 1 8 false _ A2.out).mono ?_); rintro e w' ⟨rfl, ⟨nd, rfl⟩⟩; (try first | exact ⟨rfl, _, World.drewN_drewN _ _ _⟩ | exact ⟨rfl, _, Eq.trans (World.drewN_drewN _ _ _) (congrArg (World.drewN _) (Nat.add_assoc _ _ _))⟩))); try go_wp2_with (first | (refine yB 1 #[.slice A0_0 l0_0.length c0_0, .int .i64 a0_1] 26 ?_; intro gb213 hg w12 hbox hb; have BK213 := aM (hbox); have GW213 := yV0 hg HB; have GE213 := yV0 hg HB; replace HB := yS0 HB hb; clear hb hbox hg; obtain ⟨hcz13_0, hcz13_1, hfz13_0, hfz13_1⟩ := yD2 BK213) | (go_at_call 40; (with_reducible refine (impl_within.calls (l0_0.length : Int) 1 8 false _ A2.out).mono ?_); rintro e w' ⟨rfl, ⟨nd, rfl⟩⟩; (try first | exact ⟨rfl, _, World.drewN_drewN _ _ _⟩ | exact ⟨rfl, _, Eq.trans (World.drewN_drewN _ _ _) (congrArg (World.drewN _) (Nat.add_assoc _ _ _))⟩))))
  go_ret
  exact ⟨yF, xG1 HB.out GE213.out⟩
def impl_rising.l0 : Nat → List Int → Int → Option (Bool)
 | 0, _, _ => none
 | k + 1, x0, x3 => if x3 < (x0.length : Int) then (if 0 ≤ (wrap64 (x3 - 1)) then (if (wrap64 (x3 - 1)) < (x0.length : Int) then (if 0 ≤ x3 then (if (rd x0 (wrap64 (x3 - 1))) ≥ (rd x0 x3) then (some false) else (impl_rising.l0 k x0 (wrap64 (x3 + 1)))) else (none)) else (none)) else (none)) else (some true)
def impl_rising.f (k : Nat) (l0 : List Int) : Option (Bool) := impl_rising.l0 k l0 1
theorem impl_rising.calls (k : Nat) (A0 : Option Addr) (c0 : Nat) (l0 : List Int) (r : Bool) (w : World) (hr0 : Kd.C (Kd.int .i64) w A0 l0.length l0) (hc0 : l0.length ≤ c0) (h : impl_rising.f k l0 = some r) :
  Calls Tryd.prog 52 #[.slice A0 l0.length c0] w fun e w' => e = .returned (.bool r) ∧ Drawn0 w w' := by
 have HR0 := aM hr0
 have HC0 := aM hc0
 clear hr0 hc0
 have H : (impl_rising.l0 k l0 1) = some r := h
 clear h
 have H' := aM H
 clear H
 go_enter Tryd.func52, Tryd.ntmps52
 go_wp2
 repeat (go_quiet (fail); try go_wp2)
 go_loopg [3] k (fun kq v3 w' => ∃ (x3_1 : Int), v3 = .int .i64 x3_1 ∧ Aside0 (impl_rising.l0 kq l0 x3_1 = some r) ∧ Aside0 (kq ≤ k) ∧ Drawn0 w w')
 case atStart => exact ⟨(1), yZ, H', ⟨Nat.le_refl _⟩, by repeat (first | exact Drawn0.refl _ | apply Drawn0.step)⟩
 case round =>
  clear H'
  obtain ⟨x3_1, rfl, HA, HK1, ⟨m1, rfl⟩⟩ := hrel
  cases gk with
  | zero => exact absurd HA.out (by simp [impl_rising.l0])
  | succ k1 =>
   have H := HA.out
   clear HA
   simp only [impl_rising.l0] at H
   by_cases c2 : x3_1 < (l0.length : Int)
   ·
    rw [if_pos c2] at H
    have c2b0 := decide_eq_true c2
    clear c2
    obtain ⟨ji3, hji3⟩ := yJ ((wrap64 (x3_1 - 1)))
    replace H : (if 0 ≤ (ji3) then (if (ji3) < (l0.length : Int) then (if 0 ≤ x3_1 then (if (rd l0 (ji3)) ≥ (rd l0 x3_1) then (some false) else (impl_rising.l0 k1 l0 (wrap64 (x3_1 + 1)))) else (none)) else (none)) else (none)) = some r := by first | (rw [hji3] at H; exact H) | (simp only [hji3] at H ⊢; exact H)
    have hji3w : (IntKind.i64.wrap (x3_1 - 1)) = ji3 := (i64_w _).trans hji3
    by_cases c4 : 0 ≤ (ji3)
    ·
     rw [if_pos c4] at H
     have c4b0 := decide_eq_true c4
     clear c4
     by_cases c5 : (ji3) < (l0.length : Int)
     ·
      rw [if_pos c5] at H
      have c5b0 := decide_eq_true c5
      clear c5
      by_cases c6 : 0 ≤ x3_1
      ·
       rw [if_pos c6] at H
       have c6b0 := decide_eq_true c6
       clear c6
       by_cases c7 : (rd l0 (ji3)) ≥ (rd l0 x3_1)
       ·
        rw [if_pos c7] at H
        have c7b0 : decide ((rd l0 x3_1) ≤ (rd l0 (ji3))) = true := decide_eq_true c7
        clear c7
        obtain rfl := Option.some.inj H
        have p218 : 0 ≤ ((ji3) : Int) := yA
        have q218 : (ji3) < (l0.length : Int) := yA
        obtain ⟨ad218, e218, hx218_0⟩ := Kd.at_int HR0.out (ji3) p218 q218
        cases e218
        replace p218 := eq_true p218
        replace q218 := eq_true q218
        have p219 : 0 ≤ (x3_1 : Int) := yA
        have q219 : x3_1 < (l0.length : Int) := yA
        obtain ⟨ad219, e219, hx219_0⟩ := Kd.at_int HR0.out x3_1 p219 q219
        obtain rfl : ad218 = ad219 := (by injection e219)
        replace p219 := eq_true p219
        replace q219 := eq_true q219
        go_wp2
        repeat (go_quiet (fail); try go_wp2)
        go_ret
        exact ⟨by first | rfl | (simp; done) | (simp only [← hji3] <;> (first | rfl | simp)) | (simp [*]; done), by repeat (first | exact Drawn0.refl _ | apply Drawn0.step)⟩
       ·
        rw [if_neg c7] at H
        have c7b0 : decide ((rd l0 x3_1) ≤ (rd l0 (ji3))) = false := decide_eq_false c7
        clear c7
        have H' := aM H
        clear H
        have p218 : 0 ≤ ((ji3) : Int) := yA
        have q218 : (ji3) < (l0.length : Int) := yA
        obtain ⟨ad218, e218, hx218_0⟩ := Kd.at_int HR0.out (ji3) p218 q218
        cases e218
        replace p218 := eq_true p218
        replace q218 := eq_true q218
        have p219 : 0 ≤ (x3_1 : Int) := yA
        have q219 : x3_1 < (l0.length : Int) := yA
        obtain ⟨ad219, e219, hx219_0⟩ := Kd.at_int HR0.out x3_1 p219 q219
        obtain rfl : ad218 = ad219 := (by injection e219)
        replace p219 := eq_true p219
        replace q219 := eq_true q219
        go_wp2
        repeat (go_quiet (fail); try go_wp2)
        go_roundg k1
        case measure => have := HK1.out; omega
        case rel => exact ⟨(wrap64 (x3_1 + 1)), yZ, H', ⟨by have := HK1.out; omega⟩, by repeat (first | exact Drawn0.refl _ | apply Drawn0.step)⟩
      ·
       rw [if_neg c6] at H
       exact absurd H (by simp)
     ·
      rw [if_neg c5] at H
      exact absurd H (by simp)
    ·
     rw [if_neg c4] at H
     exact absurd H (by simp)
   ·
    rw [if_neg c2] at H
    have c2b0 := decide_eq_false c2
    clear c2
    obtain rfl := Option.some.inj H
    go_wp2
    repeat (go_quiet (fail); try go_wp2)
    go_ret
    exact ⟨by first | rfl | (simp; done) | (simp [*]; done), by repeat (first | exact Drawn0.refl _ | apply Drawn0.step)⟩
def impl_isSet.f (k : Nat) (l0 : List Int) (a1 : Int) : Option (Bool) := (impl_rising.f k l0).bind fun t220 => (if t220 = true then ((impl_allWithin.f k l0 0 (wrap64 (a1 - 1))).bind fun t221 => (some t221)) else (some false))
theorem impl_isSet.calls (k : Nat) (A0 : Option Addr) (c0 : Nat) (l0 : List Int) (a1 : Int) (r : Bool) (w : World) (hr0 : Kd.C (Kd.int .i64) w A0 l0.length l0) (hc0 : l0.length ≤ c0) (h : impl_isSet.f k l0 a1 = some r) :
  Calls Tryd.prog 30 #[.slice A0 l0.length c0, .int .i64 a1] w fun e w' => e = .returned (.bool r) ∧ Drawn0 w w' := by
 have HR0 := aM hr0
 have HC0 := aM hc0
 clear hr0 hc0
 have H : ((impl_rising.f k l0).bind fun t220 => (if t220 = true then ((impl_allWithin.f k l0 0 (wrap64 (a1 - 1))).bind fun t221 => (some t221)) else (some false))) = some r := h
 clear h
 replace H := oB.mp H
 obtain ⟨t220, A30, H⟩ := H
 replace H : (if t220 = true then ((impl_allWithin.f k l0 0 (wrap64 (a1 - 1))).bind fun t221 => (some t221)) else (some false)) = some r := H
 have A3 := aM A30
 clear A30
 by_cases c4 : t220 = true
 ·
  subst c4
  have H1 : ((impl_allWithin.f k l0 0 (wrap64 (a1 - 1))).bind fun t221 => (some t221)) = some r := by rw [if_pos rfl] at H; exact H
  clear H
  have H := H1
  clear H1
  replace H := oB.mp H
  obtain ⟨t221, A50, H⟩ := H
  replace H : (some t221) = some r := H
  have A5 := aM A50
  clear A50
  obtain rfl := Option.some.inj H
  go_enter Tryd.func30, Tryd.ntmps30
  go_wp2_with (first | (refine yL 6 Tryd.func52 #[.slice A0 l0.length c0] ?_; (with_reducible refine (impl_rising.calls k _ _ l0 true _ ?side1 ?side2 A3.out).mono ?_); (case side1 => exact xC HR0.out); (case side2 => exact HC0.out); rintro e w' ⟨rfl, ⟨nd, rfl⟩⟩; refine ⟨_, rfl, ?_⟩) | (go_at_call 41; (with_reducible refine (impl_allWithin.calls k _ _ l0 0 (wrap64 (a1 - 1)) t221 _ ?side1 ?side2 A5.out).mono ?_); (case side1 => exact xC HR0.out); (case side2 => exact HC0.out); rintro e w' ⟨rfl, ⟨nd, rfl⟩⟩))
  go_ret
  exact ⟨by first | rfl | (simp; done) | (simp [*]; done), by repeat (first | exact Drawn0.refl _ | apply Drawn0.step)⟩
 ·
  replace c4 := Bool.eq_false_iff.mpr c4
  subst c4
  have H1 : (some false) = some r := by rw [if_neg (show ¬ (false = true) by decide)] at H; exact H
  clear H
  have H := H1
  clear H1
  obtain rfl := Option.some.inj H
  go_enter Tryd.func30, Tryd.ntmps30
  go_wp2_with (first | (refine yL 6 Tryd.func52 #[.slice A0 l0.length c0] ?_; (with_reducible refine (impl_rising.calls k _ _ l0 false _ ?side1 ?side2 A3.out).mono ?_); (case side1 => exact xC HR0.out); (case side2 => exact HC0.out); rintro e w' ⟨rfl, ⟨nd, rfl⟩⟩; refine ⟨_, rfl, ?_⟩))
  go_ret
  exact ⟨by first | rfl | (simp; done) | (simp [*]; done), by repeat (first | exact Drawn0.refl _ | apply Drawn0.step)⟩
end Go.Proofs.YtkgekmpnbhomgaaDoor.PFnVotes
