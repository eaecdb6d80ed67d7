-- Laid for this claim by a program of the session's own (wip/tool/myprint.py).
import Derived.Test.YtkgekmpnbhomgaaDoorMFnVotesx0
import Derived.Test.YtkgekmpnbhomgaaDoorMFnVotesx4
import Derived.Test.YtkgekmpnbhomgaaDoorMFnVotesx10
import Derived.Test.YtkgekmpnbhomgaaDoorMFnVotesx11
namespace Go.Proofs.YtkgekmpnbhomgaaDoor.PFnVotes
open Go.RowKit Go.Proofs.YtkgekmpnbhomgaaDoorW.PrintWords Go.Proofs.YtkgekmpnbhomgaaDoorW.PrintLast Go.Proofs.YtkgekmpnbhomgaaDoorW.PrintMore
attribute [local go_sem] max2_int min2_int max_two min_two max_three min_three max_four min_four
set_option linter.unusedVariables false
set_option maxHeartbeats 8000000
set_option maxRecDepth 100000
set_option linter.unusedSimpArgs false
def spec_l6Sum.l0 : Nat → Int → Int → List Int → Int → Option (Int)
 | 0, _, _, _, _ => none
 | k + 1, x3, x4, x384000, x384001 => if x4 < (x384000.length : Int) then (if 0 ≤ x4 then (spec_l6Sum.l0 k (wrap64 (x3 + (rd x384000 x4))) (wrap64 (x4 + 1)) x384000 x384001) else (none)) else (some x3)
def spec_l6Sum.f (k : Nat) (l0_0 : List Int) (a0_1 : Int) : Option (Int) := spec_l6Sum.l0 k 0 0 l0_0 a0_1
theorem spec_l6Sum.calls (k : Nat) (A0_0 : Option Addr) (c0_0 : Nat) (l0_0 : List Int) (a0_1 : Int) (r : Int) (w : World) (hr0_0 : Kd.C (Kd.int .i64) w A0_0 l0_0.length l0_0) (hc0_0 : l0_0.length ≤ c0_0) (h : spec_l6Sum.f k l0_0 a0_1 = some r) :
  Calls Tryd.prog 61 #[.agg #[.slice A0_0 l0_0.length c0_0, .int .i64 a0_1]] w fun e w' => e = .returned (.int .i64 r) ∧ Below w.heap.size w w' := by
 have hu26 := Tryd.underlying26
 have HR0_0 := aM hr0_0
 have HC0_0 := aM hc0_0
 clear hr0_0 hc0_0
 have HB := aM (Below.refl w.heap.size w)
 have H : (spec_l6Sum.l0 k 0 0 l0_0 a0_1) = some r := h
 clear h
 have H' := aM H
 clear H
 go_enter Tryd.func61, Tryd.ntmps61
 go_wp2_with (first | (refine yB 1 #[.slice A0_0 l0_0.length c0_0, .int .i64 a0_1] 26 ?_; intro gb383 hg w2 hbox hb; have BK383 := aM (hbox); have GW383 := yV0 hg HB; have GE383 := yV0 hg HB; replace HB := yS0 HB hb; clear hb hbox hg))
 go_loopg [3, 4] k (fun kq v3 v4 w' => ∃ (x3_1 : Int) (x4_1 : Int), v3 = .int .i64 x3_1 ∧ v4 = .int .i64 x4_1 ∧ Aside0 (spec_l6Sum.l0 kq x3_1 x4_1 l0_0 a0_1 = some r) ∧ Aside0 (kq ≤ k) ∧ Aside0 (w'.heap[gb383]? = some (.cells #[(.slice A0_0 l0_0.length c0_0), .int .i64 a0_1] 26 (0, 0))) ∧ Aside0 (Below w.heap.size w w'))
 case atStart => exact ⟨(0), (0), yZ, yZ, H', ⟨Nat.le_refl _⟩, ⟨xB BK383.out⟩, ⟨xG1 HB.out GE383.out⟩⟩
 case round =>
  clear H'
  try clear p2
  obtain ⟨x3_1, x4_1, rfl, rfl, HA, HK1, BK383, HB⟩ := hrel
  cases gk with
  | zero => exact absurd HA.out (by simp [spec_l6Sum.l0])
  | succ k1 =>
   have H := HA.out
   clear HA
   simp only [spec_l6Sum.l0] at H
   by_cases c3 : x4_1 < (l0_0.length : Int)
   ·
    rw [if_pos c3] at H
    have c3b0 := decide_eq_true c3
    clear c3
    by_cases c4 : 0 ≤ x4_1
    ·
     rw [if_pos c4] at H
     have c4b0 := decide_eq_true c4
     clear c4
     have H' := aM H
     clear H
     have hcz5_0 : wr.cell? ⟨gb383, 0, none⟩ = some (.slice A0_0 l0_0.length c0_0) := (bC BK383.out 0).trans rfl
     have hcz5_1 : wr.cell? ⟨gb383, 1, none⟩ = some (.int .i64 a0_1) := (bC BK383.out 1).trans rfl
     have hfz5_0 := bF BK383.out 0
     have hfz5_1 := bF BK383.out 1
     have p384 : 0 ≤ (x4_1 : Int) := yA
     have q384 : x4_1 < (l0_0.length : Int) := yA
     obtain ⟨ad384, e384, hx384_0⟩ := Kd.at_int HR0_0.out x4_1 p384 q384
     cases e384
     replace hx384_0 := (HB.out.cell (World.block_lt_of_cell? w _ hx384_0)).trans hx384_0
     replace p384 := eq_true p384
     replace q384 := eq_true q384
     go_wp2
     go_roundg k1
     case measure => have := HK1.out; omega
     case rel => exact ⟨(wrap64 (x3_1 + (rd l0_0 x4_1))), (wrap64 (x4_1 + 1)), yZ, yZ, H', ⟨by have := HK1.out; omega⟩, ⟨xB BK383.out⟩, ⟨xG1 HB.out GE383.out⟩⟩
    ·
     rw [if_neg c4] at H
     exact absurd H (by simp)
   ·
    rw [if_neg c3] at H
    have c3b0 := decide_eq_false c3
    clear c3
    obtain rfl := Option.some.inj H
    have hcz6_0 : wr.cell? ⟨gb383, 0, none⟩ = some (.slice A0_0 l0_0.length c0_0) := (bC BK383.out 0).trans rfl
    have hcz6_1 : wr.cell? ⟨gb383, 1, none⟩ = some (.int .i64 a0_1) := (bC BK383.out 1).trans rfl
    have hfz6_0 := bF BK383.out 0
    have hfz6_1 := bF BK383.out 1
    go_wp2
    go_ret
    exact ⟨yF, xG1 HB.out GE383.out⟩
def spec_l6Dual.f (k : Nat) (l0_0 : List Int) (a0_1 : Int) : Option (List Int × Int) := (spec_l1Own.f l0_0).bind fun t387 => ((spec_l6Sum.f k l0_0 a0_1).bind fun t390 => (some (t387, wrap64 ((wrap64 (t390 + 1)) - a0_1))))
def spec_l6Dual.T1 : Bool × List (List Nat × List Nat) := (true, [([], []), ([0], [0]), ([1], [1]), ([], []), ([3, 2], [3]), ([4], [4]), ([], []), ([6], [6]), ([5, 7], [5, 7]), ([2, 8], [2, 8]), ([9, 4, 0, 1, 2, 3, 4, 5, 6, 7, 8, 9], [9])])
def spec_l6Dual.B1 : List Nat := [0, 1, 3, 0, 15, 31, 0, 64, 255, 511, 1023]
theorem spec_l6Dual.tab1 : rtab .any (opsOf Tryd.f47 1) = spec_l6Dual.T1 := by kernel_rfl
theorem spec_l6Dual.bits1 : waitsOk spec_l6Dual.T1.2 spec_l6Dual.B1 = true := by kernel_rfl
theorem spec_l6Dual.calls (k : Nat) (A0_0 : Option Addr) (c0_0 : Nat) (l0_0 : List Int) (a0_1 : Int) (r1 : List Int) (r2 : Int) (w : World) (hr0_0 : Kd.C (Kd.int .i64) w A0_0 l0_0.length l0_0) (hc0_0 : l0_0.length ≤ c0_0) (h : spec_l6Dual.f k l0_0 a0_1 = some (r1, r2)) :
  Calls Tryd.prog 47 #[.agg #[.slice A0_0 l0_0.length c0_0, .int .i64 a0_1]] w fun e w' => ∃ v0_ : Value, e = .returned (.agg #[v0_, .int .i64 r2]) ∧ Kd.R (Kd.int .i64) 3 w' w.heap.size (fun _ => True) v0_ r1 ∧ Below w.heap.size w w' := by
 have hu26 := Tryd.underlying26
 have HR0_0 := aM hr0_0
 have HC0_0 := aM hc0_0
 clear hr0_0 hc0_0
 have HB := aM (Below.refl w.heap.size w)
 have H : ((spec_l1Own.f l0_0).bind fun t387 => ((spec_l6Sum.f k l0_0 a0_1).bind fun t390 => (some (t387, wrap64 ((wrap64 (t390 + 1)) - a0_1))))) = some (r1, r2) := h
 clear h
 replace H := oB.mp H
 obtain ⟨t387, A20, H⟩ := H
 replace H : ((spec_l6Sum.f k l0_0 a0_1).bind fun t390 => (some (t387, wrap64 ((wrap64 (t390 + 1)) - a0_1)))) = some (r1, r2) := H
 have A2 := aM A20
 clear A20
 replace H := oB.mp H
 obtain ⟨t390, A30, H⟩ := H
 replace H : (some (t387, wrap64 ((wrap64 (t390 + 1)) - a0_1))) = some (r1, r2) := H
 have A3 := aM A30
 clear A30
 simp only [Option.some.injEq, Prod.mk.injEq] at H
 obtain ⟨rfl, rfl⟩ := H
 go_enter Tryd.func47, Tryd.ntmps47
 try go_wp2_with (first | (refine yB 1 #[.slice A0_0 l0_0.length c0_0, .int .i64 a0_1] 26 ?_; intro gb385 hg w4 hbox hb; have BK385 := aM (hbox); have GW385 := yV0 hg HB; have GE385 := yV0 hg HB; replace HB := yS0 HB hb; clear hb hbox hg) | (refine yB 2 #[.slice none 0 0, .int .i64 0] 26 ?_; intro gb386 hg w5 hbox hb; have BK386 := aM (hbox); have GW386 := yV1 hg HB GE385; have GE386 := yV1 hg HB GE385; replace HB := yS1 HB GE385 hb; have NB385_386 := yX hg BK385; have NB386_385 := yY NB385_386; replace BK385 := yK BK385 hb; clear hb hbox hg))
 replace BK385 := aM (bD BK385.out)
 replace BK386 := aM (bD BK386.out)
 replace HB := aM (eD HB.out)
 refine start_ (n := 11) (S := fun w' => w'.cell? ⟨gb385, 0, none⟩ = some (.slice A0_0 l0_0.length c0_0) ∧ w'.cell? ⟨gb385, 1, none⟩ = some (.int .i64 a0_1)) (ds := []) (bm 11 0) (by kernel_rfl) rfl rfl ⟨(bC BK385.out 0).trans rfl, (bC BK385.out 1).trans rfl⟩ (fun hHeld => ?_); refine with_tabW spec_l6Dual.tab1 spec_l6Dual.bits1 (fun HT_ HW_ => ?_)
 generalize w5.drew = w6 at BK385 BK386 HB hHeld ⊢
 refine yP 0 3 (bm 11 1) HT_ ?_
 refine yP 6 9 (bm 11 65) HT_ ?_
 refine yT2 1 4 (bm 11 67) HT_ HW_ hHeld ?_
 refine yT2 3 6 (bm 11 75) HT_ HW_ hHeld ?_
 refine yT2 7 10 (bm 11 203) HT_ HW_ hHeld ?_
 refine yO 2 5 (bm 11 207) HT_ (fun K hK => ?_)
 refine yG Tryd.func60 #[.slice A0_0 l0_0.length c0_0] ?_
 with_reducible refine (spec_l1Own.calls _ _ l0_0 t387 _ ?side1 ?side2 A2.out).mono ?_
 (case side1 => exact xC (Kd.C_below HR0_0.out HB.out))
 (case side2 => exact HC0_0.out)
 rintro e w7 ⟨v388, rfl, ho0, hb⟩
 refine ⟨_, rfl, ?_⟩
 have HO389 := aM (Kd.R_lower ho0 (below_size (xG2 HB.out GE385.out GE386.out)))
 replace BK385 := yK BK385 hb
 replace BK386 := yK BK386 hb
 replace HB := yS2 HB GE385 GE386 hb
 (try clear hb)
 (try clear hb2)
 (try clear hk)
 (try clear hi)
 (try clear ho0)
 refine hK.out _ _ ⟨(bC BK385.out 0).trans rfl, (bC BK385.out 1).trans rfl⟩ (fun hHeld => ?_)
 clear hK K
 refine norm_ (a' := ?_) ?_ ?_
 rotate_left
 ·
  show Act.put _ (some 5) _ = _
  simp only [Act.put, sA, sZ, sU, i64_w, i32_w]
  rfl
 refine yO 4 7 (bm 11 223) HT_ (fun K hK => ?_)
 refine yG Tryd.func61 #[.agg #[.slice A0_0 l0_0.length c0_0, .int .i64 a0_1]] ?_
 with_reducible refine (spec_l6Sum.calls k _ _ l0_0 a0_1 t390 _ ?side1 ?side2 A3.out).mono ?_
 (case side1 => exact xC (Kd.C_below HR0_0.out HB.out))
 (case side2 => exact HC0_0.out)
 rintro e w8 ⟨rfl, hb⟩
 refine ⟨_, rfl, ?_⟩
 replace HO389 := aM (Kd.R_below (xR HO389.out) hb)
 replace BK385 := yK BK385 hb
 replace BK386 := yK BK386 hb
 replace HB := yS2 HB GE385 GE386 hb
 (try clear hb)
 (try clear hb2)
 (try clear hk)
 (try clear hi)
 obtain ⟨Ao9, co9, eo9⟩ := Kd.R_slice HO389.out
 (first | subst eo9 | (injection eo9 with f1_ f2_ f3_; have f4_ := f1_.symm; have f5_ := f3_.symm; clear f1_ f2_ f3_; subst f4_; subst f5_))
 refine hK.out _ _ ⟨(bC BK385.out 0).trans rfl, (bC BK385.out 1).trans rfl⟩ (fun hHeld => ?_)
 clear hK K
 refine norm_ (a' := ?_) ?_ ?_
 rotate_left
 ·
  show Act.put _ (some 7) _ = _
  simp only [Act.put, sA, sZ, sU, i64_w, i32_w]
  rfl
 refine yP 5 8 (bm 11 255) HT_ ?_
 refine yP 8 11 (bm 11 511) HT_ ?_
 refine yP 9 12 (bm 11 1023) HT_ ?_
 refine one_ (i := 10) (N := none) (bm 11 2047) rfl rfl (one_of HT_.out (by kernel_rfl)) (by decide) (fun K hK => ?_)
 have hs10 : w8.cell? ⟨gb386, 0, none⟩ = some (.slice none 0 0) := (bC BK386.out 0).trans rfl
 have hfs10 := bF BK386.out 0
 have hns10_0 := NB385_386.out
 have hms10_0 := NB386_385.out
 have hs11 : w8.cell? ⟨gb386, 1, none⟩ = some (.int .i64 0) := (bC BK386.out 1).trans rfl
 have hfs11 := bF BK386.out 1
 have hns11_0 := NB385_386.out
 have hms11_0 := NB386_385.out
 refine skip_ (w1 := ?_) (by rfl) rfl ?_ ?_
 rotate_left
 ·
  go_simp
  rfl
 refine hK.out _ _ ⟨((cell_far (p := ⟨gb386, _, none⟩) NB385_386.out _).trans (((cell_far (p := ⟨gb386, _, none⟩) NB385_386.out _).trans (hHeld.1)))), ((cell_far (p := ⟨gb386, _, none⟩) NB385_386.out _).trans (((cell_far (p := ⟨gb386, _, none⟩) NB385_386.out _).trans (hHeld.2))))⟩ (fun hHeld => ?_)
 clear hK K
 refine done_ (done_of HT_.out (by kernel_rfl)) ?_
 try go_wp2
 refine bodyPost_ret (results_cell_row rfl _ _ gb386 26 #[.slice Ao9 t387.length co9, .int .i64 (wrap64 ((wrap64 (t390 + 1)) - a0_1))] (0, 0) _ rfl (by (with_reducible repeat (first | refine bN ?_ _ | refine bD ?_ | refine bA ?_ _)); refine blk_put (cs := #[.slice Ao9 t387.length co9, .int .i64 0]) ?_ 1 _ rfl; (with_reducible repeat (first | refine bN ?_ _ | refine bD ?_ | refine bA ?_ _)); refine blk_put (cs := #[.slice none 0 0, .int .i64 0]) ?_ 0 _ rfl; (with_reducible repeat (first | refine bN ?_ _ | refine bD ?_ | refine bA ?_ _)); exact BK386.out) Tryd.underlying26 rfl (by kernel_rfl)) rfl ?_
 exact ⟨_, yF, zR (rM (Kd.R_far (p := ⟨gb386, 1, none⟩) (Kd.R_far (p := ⟨gb386, 0, none⟩) (Kd.R_types HO389.out BK386.out (by decide)) (fun _ hk => hk.2) (.slice Ao9 t387.length co9)) (fun _ hk => hk.2) (.int .i64 (wrap64 ((wrap64 (t390 + 1)) - a0_1)))) (fun _ hk => trivial)), xG2 HB.out GE385.out GE386.out⟩
def spec_DualVote.f (k : Nat) (l0_0 : List Int) (a0_1 : Int) : Option (List Int × Int × Bool) := (spec_l6Vote.f k l0_0 a0_1).bind fun t393 => (if t393 = true then ((spec_l6Dual.f k l0_0 a0_1).bind fun bt394 => (some (bt394.1, bt394.2, true))) else (some (([] : List Int), 0, false)))
theorem spec_DualVote.calls (k : Nat) (A0_0 : Option Addr) (c0_0 : Nat) (l0_0 : List Int) (a0_1 : Int) (r1 : List Int) (r2 : Int) (r3 : Bool) (w : World) (hr0_0 : Kd.C (Kd.int .i64) w A0_0 l0_0.length l0_0) (hc0_0 : l0_0.length ≤ c0_0) (h : spec_DualVote.f k l0_0 a0_1 = some (r1, r2, r3)) :
  Calls Tryd.prog 17 #[.agg #[.slice A0_0 l0_0.length c0_0, .int .i64 a0_1]] w fun e w' => ∃ v0_ : Value, e = .returned (.tuple #[.agg #[v0_, .int .i64 r2], .bool r3]) ∧ Kd.R (Kd.int .i64) 3 w' w.heap.size (fun _ => True) v0_ r1 ∧ Below w.heap.size w w' := by
 have hu26 := Tryd.underlying26
 have HR0_0 := aM hr0_0
 have HC0_0 := aM hc0_0
 clear hr0_0 hc0_0
 have HB := aM (Below.refl w.heap.size w)
 have H : ((spec_l6Vote.f k l0_0 a0_1).bind fun t393 => (if t393 = true then ((spec_l6Dual.f k l0_0 a0_1).bind fun bt394 => (some (bt394.1, bt394.2, true))) else (some (([] : List Int), 0, false)))) = some (r1, r2, r3) := h
 clear h
 replace H := oB.mp H
 obtain ⟨t393, A20, H⟩ := H
 replace H : (if t393 = true then ((spec_l6Dual.f k l0_0 a0_1).bind fun bt394 => (some (bt394.1, bt394.2, true))) else (some (([] : List Int), 0, false))) = some (r1, r2, r3) := H
 have A2 := aM A20
 clear A20
 by_cases c3 : t393 = true
 ·
  subst c3
  have H1 : ((spec_l6Dual.f k l0_0 a0_1).bind fun bt394 => (some (bt394.1, bt394.2, true))) = some (r1, r2, r3) := by rw [if_pos rfl] at H; exact H
  clear H
  have H := H1
  clear H1
  replace H := oB.mp H
  obtain ⟨⟨t394, t397⟩, A40, H⟩ := H
  replace H : (some (t394, t397, true)) = some (r1, r2, r3) := H
  have A4 := aM A40
  clear A40
  simp only [Option.some.injEq, Prod.mk.injEq] at H
  obtain ⟨rfl, rfl, rfl⟩ := H
  go_enter Tryd.func17, Tryd.ntmps17
  go_wp2_with (first | (refine yB 1 #[.slice A0_0 l0_0.length c0_0, .int .i64 a0_1] 26 ?_; intro gb391 hg w5 hbox hb; have BK391 := aM (hbox); have GW391 := yV0 hg HB; have GE391 := yV0 hg HB; replace HB := yS0 HB hb; clear hb hbox hg) | (refine yB 2 #[.slice none 0 0, .int .i64 0] 26 ?_; intro gb392 hg w6 hbox hb; have BK392 := aM (hbox); have GW392 := yV1 hg HB GE391; have GE392 := yV1 hg HB GE391; replace HB := yS1 HB GE391 hb; have NB391_392 := yX hg BK391; have NB392_391 := yY NB391_392; replace BK391 := yK BK391 hb; clear hb hbox hg; have hnb7 := NB391_392.out; have hnc7 := NB392_391.out; obtain ⟨hcz8_0, hcz8_1, hfz8_0, hfz8_1⟩ := yD2 BK391) | (refine yL 5 Tryd.func38 #[.agg #[.slice A0_0 l0_0.length c0_0, .int .i64 a0_1]] ?_; (with_reducible refine (spec_l6Vote.calls k _ _ l0_0 a0_1 true _ ?side1 ?side2 A2.out).mono ?_); (case side1 => exact xC (Kd.C_below HR0_0.out HB.out)); (case side2 => exact HC0_0.out); rintro e w9 ⟨rfl, hb⟩; refine ⟨_, rfl, ?_⟩; replace BK391 := yK BK391 hb; replace BK392 := yK BK392 hb; replace HB := yS2 HB GE391 GE392 hb; (try clear hb; try clear hb2; try clear hk; try clear hi); obtain ⟨hcz10_0, hcz10_1, hfz10_0, hfz10_1⟩ := yD2 BK391) | (refine yL 9 Tryd.func47 #[.agg #[.slice A0_0 l0_0.length c0_0, .int .i64 a0_1]] ?_; (with_reducible refine (spec_l6Dual.calls k _ _ l0_0 a0_1 t394 t397 _ ?side1 ?side2 A4.out).mono ?_); (case side1 => exact xC (Kd.C_below HR0_0.out HB.out)); (case side2 => exact HC0_0.out); rintro e w11 ⟨v395, rfl, ho0, hb⟩; refine ⟨_, rfl, ?_⟩; have HO396 := aM (Kd.R_lower ho0 (below_size (xG2 HB.out GE391.out GE392.out))); replace BK391 := yK BK391 hb; replace BK392 := yK BK392 hb; replace HB := yS2 HB GE391 GE392 hb; (try clear hb; try clear hb2; try clear hk; try clear hi; try clear ho0); obtain ⟨Ao12, co12, eo12⟩ := Kd.R_slice HO396.out; subst eo12; obtain ⟨hcz13_0, hcz13_1, hfz13_0, hfz13_1⟩ := yD2 BK392))
  refine bodyPost_ret (results_ct rfl _ _ gb392 26 #[.slice Ao12 t394.length co12, .int .i64 t397] (0, 0) _ rfl (by (with_reducible repeat (first | refine bN ?_ _ | refine bD ?_ | refine bA ?_ _)); refine blk_put (cs := #[.slice Ao12 t394.length co12, .int .i64 0]) ?_ 1 _ rfl; (with_reducible repeat (first | refine bN ?_ _ | refine bD ?_ | refine bA ?_ _)); refine blk_put (cs := #[.slice none 0 0, .int .i64 0]) ?_ 0 _ rfl; (with_reducible repeat (first | refine bN ?_ _ | refine bD ?_ | refine bA ?_ _)); exact BK392.out) Tryd.underlying26 rfl (by kernel_rfl)) rfl ?_
  exact ⟨_, yF, zR (rM (Kd.R_far (p := ⟨gb392, 1, none⟩) (Kd.R_far (p := ⟨gb392, 0, none⟩) (Kd.R_types HO396.out BK392.out (by decide)) (fun _ hk => hk.2) (.slice Ao12 t394.length co12)) (fun _ hk => hk.2) (.int .i64 t397)) (fun _ hk => trivial)), xG2 HB.out GE391.out GE392.out⟩
 ·
  replace c3 := Bool.eq_false_iff.mpr c3
  subst c3
  have H1 : (some (([] : List Int), 0, false)) = some (r1, r2, r3) := by rw [if_neg (show ¬ (false = true) by decide)] at H; exact H
  clear H
  have H := H1
  clear H1
  simp only [Option.some.injEq, Prod.mk.injEq] at H
  obtain ⟨rfl, rfl, rfl⟩ := H
  go_enter Tryd.func17, Tryd.ntmps17
  go_wp2_with (first | (refine yB 1 #[.slice A0_0 l0_0.length c0_0, .int .i64 a0_1] 26 ?_; intro gb391 hg w14 hbox hb; have BK391 := aM (hbox); have GW391 := yV0 hg HB; have GE391 := yV0 hg HB; replace HB := yS0 HB hb; clear hb hbox hg) | (refine yB 2 #[.slice none 0 0, .int .i64 0] 26 ?_; intro gb392 hg w15 hbox hb; have BK392 := aM (hbox); have GW392 := yV1 hg HB GE391; have GE392 := yV1 hg HB GE391; replace HB := yS1 HB GE391 hb; have NB391_392 := yX hg BK391; have NB392_391 := yY NB391_392; replace BK391 := yK BK391 hb; clear hb hbox hg; have hnb16 := NB391_392.out; have hnc16 := NB392_391.out; obtain ⟨hcz17_0, hcz17_1, hfz17_0, hfz17_1⟩ := yD2 BK391) | (refine yL 5 Tryd.func38 #[.agg #[.slice A0_0 l0_0.length c0_0, .int .i64 a0_1]] ?_; (with_reducible refine (spec_l6Vote.calls k _ _ l0_0 a0_1 false _ ?side1 ?side2 A2.out).mono ?_); (case side1 => exact xC (Kd.C_below HR0_0.out HB.out)); (case side2 => exact HC0_0.out); rintro e w18 ⟨rfl, hb⟩; refine ⟨_, rfl, ?_⟩; replace BK391 := yK BK391 hb; replace BK392 := yK BK392 hb; replace HB := yS2 HB GE391 GE392 hb; (try clear hb; try clear hb2; try clear hk; try clear hi); obtain ⟨hcz19_0, hcz19_1, hfz19_0, hfz19_1⟩ := yD2 BK392))
  refine bodyPost_ret (results_ct rfl _ _ gb392 26 #[.slice none 0 0, .int .i64 0] (0, 0) _ rfl (by (with_reducible repeat (first | refine bN ?_ _ | refine bD ?_ | refine bA ?_ _)); refine blk_put (cs := #[.slice none 0 0, .int .i64 0]) ?_ 1 _ rfl; (with_reducible repeat (first | refine bN ?_ _ | refine bD ?_ | refine bA ?_ _)); refine blk_put (cs := #[.slice none 0 0, .int .i64 0]) ?_ 0 _ rfl; (with_reducible repeat (first | refine bN ?_ _ | refine bD ?_ | refine bA ?_ _)); exact BK392.out) Tryd.underlying26 rfl (by kernel_rfl)) rfl ?_
  exact ⟨_, yF, by first | exact Kd.R_nil _ _ _ _ _ | exact Kd.N_nil _ _ _ _ _ | exact Kd.V_nil _ _ _ _ _ | exact Kd.Q_nil _ _ _ _ _ | exact Kd.S_nil _ _ _ _ _, xG2 HB.out GE391.out GE392.out⟩
def laws_rVote.f (k : Nat) (l0_0 : List Int) (a0_1 : Int) (l1_0 : List Int) (a1_1 : Int) : Option (Bool) := if a0_1 = a1_1 then ((laws_rInts.f k l0_0 l1_0).bind fun t400 => (some t400)) else (some false)
theorem laws_rVote.calls (k : Nat) (A0_0 : Option Addr) (c0_0 : Nat) (l0_0 : List Int) (a0_1 : Int) (A1_0 : Option Addr) (c1_0 : Nat) (l1_0 : List Int) (a1_1 : Int) (r : Bool) (w : World) (hr0_0 : Kd.C (Kd.int .i64) w A0_0 l0_0.length l0_0) (hc0_0 : l0_0.length ≤ c0_0) (hr1_0 : Kd.C (Kd.int .i64) w A1_0 l1_0.length l1_0) (hc1_0 : l1_0.length ≤ c1_0) (h : laws_rVote.f k l0_0 a0_1 l1_0 a1_1 = some r) :
  Calls Tryd.prog 18 #[.agg #[.slice A0_0 l0_0.length c0_0, .int .i64 a0_1], .agg #[.slice A1_0 l1_0.length c1_0, .int .i64 a1_1]] w fun e w' => e = .returned (.bool r) ∧ Below w.heap.size w w' := by
 have hu26 := Tryd.underlying26
 have HR0_0 := aM hr0_0
 have HC0_0 := aM hc0_0
 clear hr0_0 hc0_0
 have HR1_0 := aM hr1_0
 have HC1_0 := aM hc1_0
 clear hr1_0 hc1_0
 have HB := aM (Below.refl w.heap.size w)
 have H : (if a0_1 = a1_1 then ((laws_rInts.f k l0_0 l1_0).bind fun t400 => (some t400)) else (some false)) = some r := h
 clear h
 by_cases c3 : a0_1 = a1_1
 ·
  rw [if_pos c3] at H
  have c3b0 : (a0_1 == a1_1) = true := beq_iff_eq.mpr c3
  have c3b1 : (a0_1 != a1_1) = false := bne_eq_false_iff_eq.mpr c3
  clear c3
  replace H := oB.mp H
  obtain ⟨t400, A40, H⟩ := H
  replace H : (some t400) = some r := H
  have A4 := aM A40
  clear A40
  obtain rfl := Option.some.inj H
  go_enter Tryd.func18, Tryd.ntmps18
  go_wp2_with (first | (refine yB 2 #[.slice A0_0 l0_0.length c0_0, .int .i64 a0_1] 26 ?_; intro gb398 hg w5 hbox hb; have BK398 := aM (hbox); have GW398 := yV0 hg HB; have GE398 := yV0 hg HB; replace HB := yS0 HB hb; clear hb hbox hg) | (refine yB 3 #[.slice A1_0 l1_0.length c1_0, .int .i64 a1_1] 26 ?_; intro gb399 hg w6 hbox hb; have BK399 := aM (hbox); have GW399 := yV1 hg HB GE398; have GE399 := yV1 hg HB GE398; replace HB := yS1 HB GE398 hb; have NB398_399 := yX hg BK398; have NB399_398 := yY NB398_399; replace BK398 := yK BK398 hb; clear hb hbox hg; have hnb7 := NB398_399.out; have hnc7 := NB399_398.out; obtain ⟨hcz8_0, hcz8_1, hfz8_0, hfz8_1⟩ := yD2 BK398; obtain ⟨hcz9_0, hcz9_1, hfz9_0, hfz9_1⟩ := yD2 BK399) | (go_at_call 43; (with_reducible refine (laws_rInts.calls k _ _ l0_0 _ _ l1_0 t400 _ ?side1 ?side2 ?side3 ?side4 A4.out).mono ?_); (case side1 => exact xC (Kd.C_below HR0_0.out HB.out)); (case side2 => exact HC0_0.out); (case side3 => exact xC (Kd.C_below HR1_0.out HB.out)); (case side4 => exact HC1_0.out); rintro e w' ⟨rfl, ⟨nd, rfl⟩⟩))
  go_ret
  exact ⟨yF, xG2 HB.out GE398.out GE399.out⟩
 ·
  rw [if_neg c3] at H
  have c3b0 : (a0_1 == a1_1) = false := beq_eq_false_iff_ne.mpr c3
  have c3b1 : (a0_1 != a1_1) = true := bne_iff_ne.mpr c3
  obtain rfl := Option.some.inj H
  go_enter Tryd.func18, Tryd.ntmps18
  go_wp2_with (first | (refine yB 2 #[.slice A0_0 l0_0.length c0_0, .int .i64 a0_1] 26 ?_; intro gb398 hg w10 hbox hb; have BK398 := aM (hbox); have GW398 := yV0 hg HB; have GE398 := yV0 hg HB; replace HB := yS0 HB hb; clear hb hbox hg) | (refine yB 3 #[.slice A1_0 l1_0.length c1_0, .int .i64 a1_1] 26 ?_; intro gb399 hg w11 hbox hb; have BK399 := aM (hbox); have GW399 := yV1 hg HB GE398; have GE399 := yV1 hg HB GE398; replace HB := yS1 HB GE398 hb; have NB398_399 := yX hg BK398; have NB399_398 := yY NB398_399; replace BK398 := yK BK398 hb; clear hb hbox hg; have hnb12 := NB398_399.out; have hnc12 := NB399_398.out; obtain ⟨hcz13_0, hcz13_1, hfz13_0, hfz13_1⟩ := yD2 BK398; obtain ⟨hcz14_0, hcz14_1, hfz14_0, hfz14_1⟩ := yD2 BK399))
  go_ret
  exact ⟨yF, xG2 HB.out GE398.out GE399.out⟩
end Go.Proofs.YtkgekmpnbhomgaaDoor.PFnVotes
