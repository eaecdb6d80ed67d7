-- Laid for this claim by a program of the session's own (wip/tool/myprint.py).
import Derived.Test.YtmfmgnpefjmieaaMFnThresholdTablesx3
namespace Go.Proofs.Ytmfmgnpefjmieaa.PFnThresholdTables
open Go.RowKit Go.Proofs.YtmfmgnpefjmieaaW.PrintWords Go.Proofs.YtmfmgnpefjmieaaW.PrintLast Go.Proofs.YtmfmgnpefjmieaaW.PrintMore
attribute [local go_sem] max2_int min2_int max_two min_two max_three min_three max_four min_four
set_option linter.unusedVariables false
set_option maxHeartbeats 8000000
set_option maxRecDepth 100000
set_option linter.unusedSimpArgs false
mutual
def spec_l1Cur_table.j0 : Nat → Int → List Int → Bool → List Int → Int → Int → Option (List Int × Int × Int)
  | 0, _, _, _, _, _, _ => none
  | k + 1, x1, x5, x14, x1000, x1001, x1002 => if x14 = true then (some (x5, x1001, x1002)) else ((spec_l1Cur_plane.f k x1000 x1001 x1002 x1).bind fun bt184 => (if x1 > 0 then ((spec_l2Plane.f k bt184.1 bt184.2.1).bind fun t191 => (if t191 = true then (if (bt184.1.length : Int) = x1 then ((spec_l1Cur_one.f x1000 bt184.2.2.1 bt184.2.2.2 2).bind fun bt192 => (spec_l1Cur_table.j1 k x1 x5 bt192.1 x1000 bt192.2.1 bt192.2.2 bt184.1 bt184.2.1)) else (spec_l1Cur_table.j1 k x1 x5 false x1000 bt184.2.2.1 bt184.2.2.2 bt184.1 bt184.2.1)) else (spec_l1Cur_table.j1 k x1 x5 false x1000 bt184.2.2.1 bt184.2.2.2 bt184.1 bt184.2.1))) else (spec_l1Cur_table.j1 k x1 x5 false x1000 bt184.2.2.1 bt184.2.2.2 bt184.1 bt184.2.1)))
def spec_l1Cur_table.j1 : Nat → Int → List Int → Bool → List Int → Int → Int → List Int → Int → Option (List Int × Int × Int)
  | 0, _, _, _, _, _, _, _, _ => none
  | k + 1, x1, x5, x35, x1000, x1001, x1002, x191000, x191001 => if x35 = true then ((spec_l2TableOf.f k x1 x191000 x191001).bind fun t195 => (spec_l1Cur_table.j3 k t195 x1000 x1001 x1002)) else (spec_l1Cur_table.l0 k x1 x5 0 x1000 x1001 x1002)
def spec_l1Cur_table.j3 : Nat → List Int → List Int → Int → Int → Option (List Int × Int × Int)
  | 0, _, _, _, _ => none
  | k + 1, x5, x1000, x1001, x1002 => (spec_l1Cur_one.f x1000 x1001 x1002 40).bind fun bt204 => (if bt204.1 = true then ((spec_l1Cur_pick.f x1000 bt204.2.1 bt204.2.2 (x5.length : Int)).bind fun bt207 => ((spec_l1Cur_among.f x1000 bt207.2.1 bt207.2.2 (([2, (-1)] : List Int))).bind fun bt213 => (if 0 ≤ bt207.1 then (if bt207.1 < (x5.length : Int) then ((some (x5.set (bt207.1 : Int).toNat bt213.1 : List Int)).bind fun y216 => ((spec_l1Cur_one.f x1000 bt213.2.1 bt213.2.2 40).bind fun bt217 => (if bt217.1 = true then (if y216.length < 17592186044416 then (some ((y216 ++ [0]), bt217.2.1, bt217.2.2)) else (none)) else (some (y216, bt217.2.1, bt217.2.2))))) else (none)) else (none)))) else ((spec_l1Cur_one.f x1000 bt204.2.1 bt204.2.2 40).bind fun bt223 => (if bt223.1 = true then (if x5.length < 17592186044416 then (some ((x5 ++ [0]), bt223.2.1, bt223.2.2)) else (none)) else (some (x5, bt223.2.1, bt223.2.2)))))
def spec_l1Cur_table.l0 : Nat → Int → List Int → Int → List Int → Int → Int → Option (List Int × Int × Int)
  | 0, _, _, _, _, _, _ => none
  | k + 1, x1, x5, x7, x1000, x1001, x1002 => if 0 ≤ x1 then (if x7 < (shl .i64 1 x1) then ((spec_l1Cur_pick.f x1000 x1001 x1002 2).bind fun bt198 => (if x5.length < 17592186044416 then (spec_l1Cur_table.l0 k x1 (x5 ++ [bt198.1]) (wrap64 (x7 + 1)) x1000 bt198.2.1 bt198.2.2) else (none))) else (spec_l1Cur_table.j3 k x5 x1000 x1001 x1002)) else (none)
end
def spec_l1Cur_table.f (k : Nat) (s0_0 : List Int) (s0_1 : Int) (s0_2 : Int) (a1 : Int) : Option (List Int × Int × Int) := (some (([] : List Int) : List Int)).bind fun y181 => (if a1 < 0 then (spec_l1Cur_table.j0 k a1 y181 true s0_0 s0_1 s0_2) else (spec_l1Cur_table.j0 k a1 y181 (decide (a1 > 5)) s0_0 s0_1 s0_2))
theorem spec_l1Cur_table.calls (k : Nat) (g : Nat) (s0_0 : List Int) (s0_1 : Int) (s0_2 : Int) (a1 : Int) (r1 : List Int) (r2 : Int) (r3 : Int) (w0 w : World) (hI : IsS78 w0 w g s0_0 s0_1 s0_2) (hB : Below w0.heap.size w0 w) (h : spec_l1Cur_table.f k s0_0 s0_1 s0_2 a1 = some (r1, r2, r3)) :
    Calls Try.prog 112 #[.pointer (some ⟨g, 0, none⟩), .int .i64 a1] w fun e w' => ∃ v0_ : Value, e = .returned (v0_) ∧ Kd.R (Kd.int .i64) 3 w' w.heap.size (fun _ => True) v0_ r1 ∧ IsS78 w0 w' g s0_0 r2 r3 ∧ Below w0.heap.size w0 w' ∧ KeepBut w w' g none := by
 have hu28 := Try.underlying28
 have HI0 := aM hI
 have HK := aM (KeepBut.refl w g none)
 have HL := aM hB.size
 clear hI
 have HW0 := aM hB.size
 have HB := aM hB
 clear hB
 have H : ((some (([] : List Int) : List Int)).bind fun y181 => (if a1 < 0 then (spec_l1Cur_table.j0 k a1 y181 true s0_0 s0_1 s0_2) else (spec_l1Cur_table.j0 k a1 y181 (decide (a1 > 5)) s0_0 s0_1 s0_2))) = some (r1, r2, r3) := h
 clear h
 obtain ⟨y181, hy181⟩ := yE (([] : List Int) : List Int)
 replace H : (if a1 < 0 then (spec_l1Cur_table.j0 k a1 y181 true s0_0 s0_1 s0_2) else (spec_l1Cur_table.j0 k a1 y181 (decide (a1 > 5)) s0_0 s0_1 s0_2)) = some (r1, r2, r3) := yI hy181 H
 have Ny181 := aM hy181
 clear hy181
 have HC3 := aM H
 clear H
 go_enter Try.func112, Try.ntmps112
 go_upto_region 2 with (first | ((with_reducible refine gate_dst (N := 8) rfl ?_); (try (refine gate_guard (by rfl) ?_; dsimp only)); refine Kd.R_lit (Kd.int .i64) _ 3 ?hg (N := 8) ?hd (xs := ([] : List Int)) (inner := []) (ok := fun _ => True) (okp := fun _ => True) ?hr ?hp (fun _ hk => hk) trivial (Below.refl _ _) (Nat.le_refl _) (by simp) ?_; (case hd => rfl); (case hg => rfl); (case hr => first | (go_simp; done) | (go_simp; rfl)); (case hp => exact (Reps.none _ _)); intro v182 w4 ho5 hb hg_ hnew_; clear hg_ hnew_; (first | rw [← Ny181.out] at ho5 | (simp only [Int.reduceToNat] at ho5; rw [← Ny181.out] at ho5)); have HO183 := aM (Kd.R_lower ho5 (keep_size (w := w) (g := g) (row := none) (xK0 HK.out))); replace HK := aM (KeepBut.trans (xK0 HK.out) (KeepBut.of_below hb g none) (.inl rfl)); replace HB := aM (below_step (xG1 HB.out (IsS78.ge HI0.out)) hb); replace HI0 := aM (IsS78.below (IsS78.x0 HI0.out) hb); clear hb ho5))
 (try simp only [Act.put, sA, sZ, sU])
 go_cut [14] (fun v14 wc => ∃ (kq : Nat) (x14_2 : Bool), v14 = .bool x14_2 ∧ Aside0 (spec_l1Cur_table.j0 kq a1 y181 x14_2 s0_0 s0_1 s0_2 = some (r1, r2, r3)) ∧ Aside0 (kq ≤ k) ∧ Aside0 (Kd.R (Kd.int .i64) 3 wc w.heap.size (fun _ => True) v182 y181) ∧ Aside0 (IsS78 w0 wc g s0_0 s0_1 s0_2) ∧ Aside0 (KeepBut w wc g none) ∧ Aside0 (Below w0.heap.size w0 wc))
 case first =>
  have H := HC3.out
  clear HC3
  obtain ⟨-, c6b0, H⟩ | ⟨-, c6b0, H⟩ := yif H
  ·
   (first | rw [c6b0] | (simp only [i64_w, i32_w]; rw [c6b0]) | rw [c6b1] | skip)
   have H' := aM H
   clear H
   go_wp2
   go_meet
   case rel => exact ⟨_, (true), yZ, H', ⟨yM⟩, ⟨xR HO183.out⟩, ⟨IsS78.x0 HI0.out⟩, ⟨xK0 HK.out⟩, ⟨xG1 HB.out (IsS78.ge HI0.out)⟩⟩
  (first | rw [c6b0] | (simp only [i64_w, i32_w]; rw [c6b0]) | rw [c6b1] | skip)
  have H' := aM H
  clear H
  go_wp2
  go_meet
  case rel => exact ⟨_, (decide (a1 > 5)), yZ, H', ⟨yM⟩, ⟨xR HO183.out⟩, ⟨IsS78.x0 HI0.out⟩, ⟨xK0 HK.out⟩, ⟨xG1 HB.out (IsS78.ge HI0.out)⟩⟩
 case rest =>
  clear HC3
  try clear c6b0
  obtain ⟨kq, x14_2, rfl, HA, HJ2, HO_5, HI0, HK, HB⟩ := hcut
  cases kq with
  | zero => exact absurd HA.out (by simp [spec_l1Cur_table.j0])
  | succ kj2 =>
   have H := HA.out
   clear HA
   simp only [spec_l1Cur_table.j0] at H
   by_cases c7 : x14_2 = true
   ·
    subst c7
    rw [if_pos rfl] at H
    simp only [Option.some.injEq, Prod.mk.injEq] at H
    obtain ⟨rfl, rfl, rfl⟩ := H
    go_wp2
    go_ret
    exact ⟨_, yF, xR HO_5.out, IsS78.x0 HI0.out, xG1 HB.out (IsS78.ge HI0.out), xK0 HK.out⟩
   replace c7 := Bool.eq_false_iff.mpr c7
   subst c7
   rw [if_neg (show ¬ (false = true) by decide)] at H
   replace H := oB.mp H
   obtain ⟨⟨t184, t187, t188, t189⟩, A80, H⟩ := H
   (try dsimp only at H)
   have A8 := aM A80
   clear A80
   have HC9 := aM H
   clear H
   go_upto_region 5 with (first | (refine yL 18 Try.func143 #[.pointer (some ⟨g, 0, none⟩), .int .i64 a1] ?_; (with_reducible refine (spec_l1Cur_plane.calls kj2 g s0_0 s0_1 s0_2 a1 t184 t187 t188 t189 w0 _ (IsS78.x0 HI0.out) (xG1 HB.out (IsS78.ge HI0.out)) A8.out).mono ?_); rintro e w10 ⟨v185, rfl, ho0, hi, hb, hk⟩; refine ⟨_, rfl, ?_⟩; have HO186 := aM (Kd.R_lower (Kd.R_new' ho0 (Kd.R_lt (xR HO_5.out))) (keep_size (w := w) (g := g) (row := none) (xK0 HK.out))); replace HO_5 := aM (rM (Kd.R_told (Kd.R_oldK (IsS78.apart (show IsS78 w0 _ g s0_0 s0_1 s0_2 from IsS78.x0 HI0.out) (xR HO_5.out) (by decide)) hk) (Kd.R_base ho0)) (fun _ h_ => h_.1)); replace HK := aM (KeepBut.trans (xK0 HK.out) hk (.inl rfl)); replace HB := aM (hb); replace HI0 := aM (hi); (try clear hb; try clear hk; try clear hi; try clear ho0)) | ((with_reducible refine gate_dst (N := 6) rfl ?_); (try (refine gate_guard (by rfl) ?_; dsimp only)); refine yB 6 #[.slice none 0 0, .int .i64 0] 28 ?_; intro gb190 hg w11 hbox hb; replace HO_5 := aM (Kd.R_below (xR HO_5.out) hb); replace HO186 := aM (Kd.R_below (xR HO186.out) hb); replace HB := aM (below_step (xG1 HB.out (IsS78.ge HI0.out)) hb); have BK190 := aM (hbox); have GW190 := aM ((by rw [hg]; exact (keep_size (w := w) (g := g) (row := none) (xK0 HK.out)) : w.heap.size ≤ gb190)); have GE190 := aM ((Nat.le_trans HW0.out (by rw [hg]; exact (keep_size (w := w) (g := g) (row := none) (xK0 HK.out)) : w.heap.size ≤ gb190) : w0.heap.size ≤ gb190)); replace HK := aM (KeepBut.trans (xK0 HK.out) (KeepBut.of_below hb g none) (.inl rfl)); have NB0_190 := aM ((by rw [hg]; exact Nat.ne_of_lt (IsS78.lt (show IsS78 w0 _ g s0_0 t188 t189 from IsS78.x0 HI0.out)) : g ≠ gb190)); have NB190_0 := aM ((by rw [hg]; exact Nat.ne_of_gt (IsS78.lt (show IsS78 w0 _ g s0_0 t188 t189 from IsS78.x0 HI0.out)) : gb190 ≠ g)); replace HI0 := aM (IsS78.below (IsS78.x0 HI0.out) hb); clear hb hbox hg; obtain ⟨Ao12, co12, eo12⟩ := Kd.R_slice HO186.out; subst eo12; have hnb13 := NB190_0.out; have hnc13 := NB0_190.out; obtain ⟨hcz14_0, hcz14_1, hfz14_0, hfz14_1⟩ := yD2 BK190))
   (try simp only [Act.put, sA, sZ, sU])
   go_cut [35] (fun v35 wc => ∃ (kq : Nat) (x35_8 : Bool) (x1001_8 : Int) (x1002_8 : Int), v35 = .bool x35_8 ∧ Aside0 (spec_l1Cur_table.j1 kq a1 y181 x35_8 s0_0 x1001_8 x1002_8 t184 t187 = some (r1, r2, r3)) ∧ Aside0 (kq ≤ kj2) ∧ Aside0 (Kd.R (Kd.int .i64) 3 wc w.heap.size (fun k_ => some k_ ≠ ((.slice Ao12 t184.length co12) : Value).ownBlock) v182 y181) ∧ Aside0 (Kd.R (Kd.int .i64) 3 wc w.heap.size (fun k_ => some k_ ≠ (v182 : Value).ownBlock) (.slice Ao12 t184.length co12) t184) ∧ Aside0 (wc.heap[gb190]? = some (.cells #[(.slice Ao12 t184.length co12), .int .i64 t187] 28 (0, 0))) ∧ Aside0 (IsS78 w0 wc g s0_0 x1001_8 x1002_8) ∧ Aside0 (KeepBut w wc g none) ∧ Aside0 (Below w0.heap.size w0 wc))
   case first =>
    have H := HC9.out
    clear HC9
    obtain ⟨c15, -, H⟩ | ⟨c15, -, H⟩ := yif H
    rotate_left
    ·
     have c15b0 : decide (0 < a1) = false := decide_eq_false c15
     clear c15
     (first | rw [c15b0] | (simp only [i64_w, i32_w]; rw [c15b0]) | rw [c15b1] | skip)
     have H' := aM H
     clear H
     go_wp2
     go_meet
     case rel => exact ⟨_, (false), (t188), (t189), yZ, H', ⟨by have := HJ2.out; first | omega | exact Nat.le_refl _⟩, ⟨zR (rM (Kd.R_far (p := ⟨gb190, 1, none⟩) (Kd.R_far (p := ⟨gb190, 0, none⟩) (Kd.R_types HO_5.out BK190.out (by decide)) (fun _ hk => hk.2) (.slice Ao12 t184.length co12)) (fun _ hk => hk.2) (.int .i64 t187)) (fun _ hk => hk.1.2))⟩, ⟨zR (rM (Kd.R_far (p := ⟨gb190, 1, none⟩) (Kd.R_far (p := ⟨gb190, 0, none⟩) (Kd.R_types HO186.out BK190.out (by decide)) (fun _ hk => hk.2) (.slice Ao12 t184.length co12)) (fun _ hk => hk.2) (.int .i64 t187)) (fun _ hk => hk.1.2))⟩, ⟨by (with_reducible repeat (first | refine bN ?_ _ | refine bD ?_ | refine bA ?_ _)); refine blk_put (cs := #[.slice Ao12 t184.length co12, .int .i64 0]) ?_ 1 _ rfl; (with_reducible repeat (first | refine bN ?_ _ | refine bD ?_ | refine bA ?_ _)); refine blk_put (cs := #[.slice none 0 0, .int .i64 0]) ?_ 0 _ rfl; (with_reducible repeat (first | refine bN ?_ _ | refine bD ?_ | refine bA ?_ _)); exact BK190.out⟩, ⟨IsS78.x1 HI0.out NB0_190.out⟩, ⟨xK1 HK.out GW190.out⟩, ⟨xG2 HB.out (IsS78.ge HI0.out) GE190.out⟩⟩
    have c15b0 : decide (0 < a1) = true := decide_eq_true c15
    clear c15
    (first | rw [c15b0] | (simp only [i64_w, i32_w]; rw [c15b0]) | rw [c15b1] | skip)
    replace H := oB.mp H
    obtain ⟨t191, A160, H⟩ := H
    have A16 := aM A160
    clear A160
    by_cases c17 : t191 = true
    rotate_left
    ·
     replace c17 := Bool.eq_false_iff.mpr c17
     subst c17
     rw [if_neg (show ¬ (false = true) by decide)] at H
     have H' := aM H
     clear H
     have hnb29 := NB190_0.out
     have hnc29 := NB0_190.out
     have hcz30_0 := yC0 BK190
     have hcz30_1 := yC1 BK190
     have hfz30_0 := bF BK190.out 0
     have hfz30_1 := bF BK190.out 1
     go_wp2_with (first | (go_at_call 144; (with_reducible refine (spec_l2Plane.calls kj2 _ _ t184 t187 false _ ?side1 ?side2 A16.out).mono ?_); (case side1 => refine (Kd.R_reads' (e := 3) (base := w.heap.size) (ok := fun k_ => (True ∧ some k_ ≠ (v182 : Value).ownBlock)) (n := t184.length) (c := co12) ?_).2.2; exact (zR (rM (Kd.R_far (p := ⟨gb190, 1, none⟩) (Kd.R_far (p := ⟨gb190, 0, none⟩) (Kd.R_types HO186.out BK190.out (by decide)) (fun _ hk => hk.2) (.slice Ao12 t184.length co12)) (fun _ hk => hk.2) (.int .i64 t187)) (fun _ h_ => h_.1)))); (case side2 => exact (Kd.R_reads' HO186.out).2.1); rintro e w31 ⟨rfl, hb⟩; replace HO_5 := aM (Kd.R_below (zR (rM (Kd.R_far (p := ⟨gb190, 1, none⟩) (Kd.R_far (p := ⟨gb190, 0, none⟩) (Kd.R_types HO_5.out BK190.out (by decide)) (fun _ hk => hk.2) (.slice Ao12 t184.length co12)) (fun _ hk => hk.2) (.int .i64 t187)) (fun _ h_ => h_.1))) hb); replace HO186 := aM (Kd.R_below (zR (rM (Kd.R_far (p := ⟨gb190, 1, none⟩) (Kd.R_far (p := ⟨gb190, 0, none⟩) (Kd.R_types HO186.out BK190.out (by decide)) (fun _ hk => hk.2) (.slice Ao12 t184.length co12)) (fun _ hk => hk.2) (.int .i64 t187)) (fun _ h_ => h_.1))) hb); replace BK190 := aM (bB (g := gb190) (o := .cells #[.slice Ao12 t184.length co12, .int .i64 t187] 28 (0, 0)) (by (with_reducible repeat (first | refine bN ?_ _ | refine bD ?_ | refine bA ?_ _)); refine blk_put (cs := #[.slice Ao12 t184.length co12, .int .i64 0]) ?_ 1 _ rfl; (with_reducible repeat (first | refine bN ?_ _ | refine bD ?_ | refine bA ?_ _)); refine blk_put (cs := #[.slice none 0 0, .int .i64 0]) ?_ 0 _ rfl; (with_reducible repeat (first | refine bN ?_ _ | refine bD ?_ | refine bA ?_ _)); exact BK190.out) hb); replace HK := aM (KeepBut.trans (xK1 HK.out GW190.out) (KeepBut.of_below hb g none) (.inl rfl)); replace HB := aM (below_step (xG2 HB.out (IsS78.ge HI0.out) GE190.out) hb); replace HI0 := aM (IsS78.below (show IsS78 w0 ((w11.setCell ⟨gb190, 0, none⟩ (.slice Ao12 t184.length co12)).setCell ⟨gb190, 1, none⟩ (.int .i64 t187)) g s0_0 t188 t189 from IsS78.x1 HI0.out NB0_190.out) hb); (try clear hb)))
     go_meet
     case rel => exact ⟨_, (false), (t188), (t189), yZ, H', ⟨by have := HJ2.out; first | omega | exact Nat.le_refl _⟩, ⟨zR (rM HO_5.out (fun _ hk => hk.2))⟩, ⟨zR (rM HO186.out (fun _ hk => by first | exact hk.2 | exact trivial))⟩, ⟨xB BK190.out⟩, ⟨IsS78.x1 HI0.out NB0_190.out⟩, ⟨xK1 HK.out GW190.out⟩, ⟨xG2 HB.out (IsS78.ge HI0.out) GE190.out⟩⟩
    subst c17
    rw [if_pos rfl] at H
    obtain ⟨c18, -, H⟩ | ⟨c18, -, H⟩ := yif H
    rotate_left
    ·
     have c18b0 : ((t184.length : Int) == a1) = false := beq_eq_false_iff_ne.mpr c18
     have c18b1 : ((t184.length : Int) != a1) = true := bne_iff_ne.mpr c18
     have H' := aM H
     clear H
     have hnb25 := NB190_0.out
     have hnc25 := NB0_190.out
     have hcz26_0 := yC0 BK190
     have hcz26_1 := yC1 BK190
     have hfz26_0 := bF BK190.out 0
     have hfz26_1 := bF BK190.out 1
     go_wp2_with (first | (go_at_call 144; (with_reducible refine (spec_l2Plane.calls kj2 _ _ t184 t187 true _ ?side1 ?side2 A16.out).mono ?_); (case side1 => refine (Kd.R_reads' (e := 3) (base := w.heap.size) (ok := fun k_ => (True ∧ some k_ ≠ (v182 : Value).ownBlock)) (n := t184.length) (c := co12) ?_).2.2; exact (zR (rM (Kd.R_far (p := ⟨gb190, 1, none⟩) (Kd.R_far (p := ⟨gb190, 0, none⟩) (Kd.R_types HO186.out BK190.out (by decide)) (fun _ hk => hk.2) (.slice Ao12 t184.length co12)) (fun _ hk => hk.2) (.int .i64 t187)) (fun _ h_ => h_.1)))); (case side2 => exact (Kd.R_reads' HO186.out).2.1); rintro e w27 ⟨rfl, hb⟩; replace HO_5 := aM (Kd.R_below (zR (rM (Kd.R_far (p := ⟨gb190, 1, none⟩) (Kd.R_far (p := ⟨gb190, 0, none⟩) (Kd.R_types HO_5.out BK190.out (by decide)) (fun _ hk => hk.2) (.slice Ao12 t184.length co12)) (fun _ hk => hk.2) (.int .i64 t187)) (fun _ h_ => h_.1))) hb); replace HO186 := aM (Kd.R_below (zR (rM (Kd.R_far (p := ⟨gb190, 1, none⟩) (Kd.R_far (p := ⟨gb190, 0, none⟩) (Kd.R_types HO186.out BK190.out (by decide)) (fun _ hk => hk.2) (.slice Ao12 t184.length co12)) (fun _ hk => hk.2) (.int .i64 t187)) (fun _ h_ => h_.1))) hb); replace BK190 := aM (bB (g := gb190) (o := .cells #[.slice Ao12 t184.length co12, .int .i64 t187] 28 (0, 0)) (by (with_reducible repeat (first | refine bN ?_ _ | refine bD ?_ | refine bA ?_ _)); refine blk_put (cs := #[.slice Ao12 t184.length co12, .int .i64 0]) ?_ 1 _ rfl; (with_reducible repeat (first | refine bN ?_ _ | refine bD ?_ | refine bA ?_ _)); refine blk_put (cs := #[.slice none 0 0, .int .i64 0]) ?_ 0 _ rfl; (with_reducible repeat (first | refine bN ?_ _ | refine bD ?_ | refine bA ?_ _)); exact BK190.out) hb); replace HK := aM (KeepBut.trans (xK1 HK.out GW190.out) (KeepBut.of_below hb g none) (.inl rfl)); replace HB := aM (below_step (xG2 HB.out (IsS78.ge HI0.out) GE190.out) hb); replace HI0 := aM (IsS78.below (show IsS78 w0 ((w11.setCell ⟨gb190, 0, none⟩ (.slice Ao12 t184.length co12)).setCell ⟨gb190, 1, none⟩ (.int .i64 t187)) g s0_0 t188 t189 from IsS78.x1 HI0.out NB0_190.out) hb); (try clear hb); obtain ⟨hcz28_0, hcz28_1, hfz28_0, hfz28_1⟩ := yD2 BK190))
     go_meet
     case rel => exact ⟨_, (false), (t188), (t189), yZ, H', ⟨by have := HJ2.out; first | omega | exact Nat.le_refl _⟩, ⟨zR (rM HO_5.out (fun _ hk => hk.2))⟩, ⟨zR (rM HO186.out (fun _ hk => by first | exact hk.2 | exact trivial))⟩, ⟨xB BK190.out⟩, ⟨IsS78.x1 HI0.out NB0_190.out⟩, ⟨xK1 HK.out GW190.out⟩, ⟨xG2 HB.out (IsS78.ge HI0.out) GE190.out⟩⟩
    have c18b0 : ((t184.length : Int) == a1) = true := beq_iff_eq.mpr c18
    have c18b1 : ((t184.length : Int) != a1) = false := bne_eq_false_iff_eq.mpr c18
    clear c18
    replace H := oB.mp H
    obtain ⟨⟨t192, t193, t194⟩, A190, H⟩ := H
    (try dsimp only at H)
    have A19 := aM A190
    clear A190
    have H' := aM H
    clear H
    have hnb20 := NB190_0.out
    have hnc20 := NB0_190.out
    have hcz21_0 := yC0 BK190
    have hcz21_1 := yC1 BK190
    have hfz21_0 := bF BK190.out 0
    have hfz21_1 := bF BK190.out 1
    go_wp2_with (first | (go_at_call 144; (with_reducible refine (spec_l2Plane.calls kj2 _ _ t184 t187 true _ ?side1 ?side2 A16.out).mono ?_); (case side1 => refine (Kd.R_reads' (e := 3) (base := w.heap.size) (ok := fun k_ => (True ∧ some k_ ≠ (v182 : Value).ownBlock)) (n := t184.length) (c := co12) ?_).2.2; exact (zR (rM (Kd.R_far (p := ⟨gb190, 1, none⟩) (Kd.R_far (p := ⟨gb190, 0, none⟩) (Kd.R_types HO186.out BK190.out (by decide)) (fun _ hk => hk.2) (.slice Ao12 t184.length co12)) (fun _ hk => hk.2) (.int .i64 t187)) (fun _ h_ => h_.1)))); (case side2 => exact (Kd.R_reads' HO186.out).2.1); rintro e w22 ⟨rfl, hb⟩; replace HO_5 := aM (Kd.R_below (zR (rM (Kd.R_far (p := ⟨gb190, 1, none⟩) (Kd.R_far (p := ⟨gb190, 0, none⟩) (Kd.R_types HO_5.out BK190.out (by decide)) (fun _ hk => hk.2) (.slice Ao12 t184.length co12)) (fun _ hk => hk.2) (.int .i64 t187)) (fun _ h_ => h_.1))) hb); replace HO186 := aM (Kd.R_below (zR (rM (Kd.R_far (p := ⟨gb190, 1, none⟩) (Kd.R_far (p := ⟨gb190, 0, none⟩) (Kd.R_types HO186.out BK190.out (by decide)) (fun _ hk => hk.2) (.slice Ao12 t184.length co12)) (fun _ hk => hk.2) (.int .i64 t187)) (fun _ h_ => h_.1))) hb); replace BK190 := aM (bB (g := gb190) (o := .cells #[.slice Ao12 t184.length co12, .int .i64 t187] 28 (0, 0)) (by (with_reducible repeat (first | refine bN ?_ _ | refine bD ?_ | refine bA ?_ _)); refine blk_put (cs := #[.slice Ao12 t184.length co12, .int .i64 0]) ?_ 1 _ rfl; (with_reducible repeat (first | refine bN ?_ _ | refine bD ?_ | refine bA ?_ _)); refine blk_put (cs := #[.slice none 0 0, .int .i64 0]) ?_ 0 _ rfl; (with_reducible repeat (first | refine bN ?_ _ | refine bD ?_ | refine bA ?_ _)); exact BK190.out) hb); replace HK := aM (KeepBut.trans (xK1 HK.out GW190.out) (KeepBut.of_below hb g none) (.inl rfl)); replace HB := aM (below_step (xG2 HB.out (IsS78.ge HI0.out) GE190.out) hb); replace HI0 := aM (IsS78.below (show IsS78 w0 ((w11.setCell ⟨gb190, 0, none⟩ (.slice Ao12 t184.length co12)).setCell ⟨gb190, 1, none⟩ (.int .i64 t187)) g s0_0 t188 t189 from IsS78.x1 HI0.out NB0_190.out) hb); (try clear hb); obtain ⟨hcz23_0, hcz23_1, hfz23_0, hfz23_1⟩ := yD2 BK190) | (go_at_call 84; (with_reducible refine (spec_l1Cur_one.calls g s0_0 t188 t189 2 t192 t193 t194 w0 _ (IsS78.x1 HI0.out NB0_190.out) (xG2 HB.out (IsS78.ge HI0.out) GE190.out) A19.out).mono ?_); rintro e w24 ⟨rfl, hi, hb, hk⟩; replace HO_5 := aM (rM (Kd.R_keep (IsS78.apart (show IsS78 w0 _ g s0_0 t188 t189 from IsS78.x1 HI0.out NB0_190.out) (xR HO_5.out) (by decide)) hk (fun _ h => h.2)) (fun _ h => h.1)); replace HO186 := aM (rM (Kd.R_keep (IsS78.apart (show IsS78 w0 _ g s0_0 t188 t189 from IsS78.x1 HI0.out NB0_190.out) (xR HO186.out) (by decide)) hk (fun _ h => h.2)) (fun _ h => h.1)); replace BK190 := yQ hk BK190 NB190_0; replace HK := aM (KeepBut.trans (xK1 HK.out GW190.out) hk (.inl rfl)); replace HB := aM (hb); replace HI0 := aM (hi); (try clear hb; try clear hk; try clear hi)))
    go_meet
    case rel => exact ⟨_, (t192), (t193), (t194), yZ, H', ⟨by have := HJ2.out; first | omega | exact Nat.le_refl _⟩, ⟨zR (rM HO_5.out (fun _ hk => hk.2))⟩, ⟨zR (rM HO186.out (fun _ hk => by first | exact hk.2 | exact trivial))⟩, ⟨xB BK190.out⟩, ⟨IsS78.x1 HI0.out NB0_190.out⟩, ⟨xK1 HK.out GW190.out⟩, ⟨xG2 HB.out (IsS78.ge HI0.out) GE190.out⟩⟩
   case rest =>
    clear HC9
    try clear c7
    try clear c15
    try clear c15b0
    try clear c17
    try clear c18
    try clear c18b0
    try clear c18b1
    try clear hcz14_0
    try clear hcz14_1
    try clear hcz21_0
    try clear hcz21_1
    try clear hcz23_0
    try clear hcz23_1
    try clear hcz26_0
    try clear hcz26_1
    try clear hcz28_0
    try clear hcz28_1
    try clear hcz30_0
    try clear hcz30_1
    try clear hfz14_0
    try clear hfz14_1
    try clear hfz21_0
    try clear hfz21_1
    try clear hfz23_0
    try clear hfz23_1
    try clear hfz26_0
    try clear hfz26_1
    try clear hfz28_0
    try clear hfz28_1
    try clear hfz30_0
    try clear hfz30_1
    obtain ⟨kq, x35_8, x1001_8, x1002_8, rfl, HA, HJ8, HO_5, HO_191000, BK190, HI0, HK, HB⟩ := hcut
    cases kq with
    | zero => exact absurd HA.out (by simp [spec_l1Cur_table.j1])
    | succ kj8 =>
     have H := HA.out
     clear HA
     simp only [spec_l1Cur_table.j1] at H
     have HC32 := aM H
     clear H
     go_upto_if 35 with (fail)
     go_cut [5] (fun v5 wc => ∃ (kq : Nat) (x5_31 : List Int) (x1001_31 : Int) (x1002_31 : Int), Aside0 (spec_l1Cur_table.j3 kq x5_31 s0_0 x1001_31 x1002_31 = some (r1, r2, r3)) ∧ Aside0 (kq ≤ kj8) ∧ Aside0 (Kd.R (Kd.int .i64) 3 wc w.heap.size (fun k_ => some k_ ≠ ((.slice Ao12 t184.length co12) : Value).ownBlock) v5 x5_31) ∧ Aside0 (Kd.R (Kd.int .i64) 3 wc w.heap.size (fun k_ => some k_ ≠ (v5 : Value).ownBlock) (.slice Ao12 t184.length co12) t184) ∧ Aside0 (wc.heap[gb190]? = some (.cells #[(.slice Ao12 t184.length co12), .int .i64 t187] 28 (0, 0))) ∧ Aside0 (IsS78 w0 wc g s0_0 x1001_31 x1002_31) ∧ Aside0 (KeepBut w wc g none) ∧ Aside0 (Below w0.heap.size w0 wc))
     case first =>
      have H := HC32.out
      clear HC32
      by_cases c33 : x35_8 = true
      ·
       subst c33
       rw [if_pos rfl] at H
       replace H := oB.mp H
       obtain ⟨t195, A340, H⟩ := H
       have A34 := aM A340
       clear A340
       have H' := aM H
       clear H
       have hnb35 := NB190_0.out
       have hnc35 := NB0_190.out
       have hcz36_0 : wc.cell? ⟨gb190, 0, none⟩ = some (.slice Ao12 t184.length co12) := (bC BK190.out 0).trans rfl
       have hcz36_1 : wc.cell? ⟨gb190, 1, none⟩ = some (.int .i64 t187) := (bC BK190.out 1).trans rfl
       have hfz36_0 := bF BK190.out 0
       have hfz36_1 := bF BK190.out 1
       go_wp2_with (first | (refine yL 38 Try.func145 #[.int .i64 a1, .agg #[.slice Ao12 t184.length co12, .int .i64 t187]] ?_; (with_reducible refine (spec_l2TableOf.calls kj8 a1 _ _ t184 t187 t195 _ (xC (Kd.R_reads' HO_191000.out).2.2) ((Kd.R_reads' HO_191000.out).2.1) A34.out).mono ?_); rintro e w37 ⟨v196, rfl, ho0, hb⟩; refine ⟨_, rfl, ?_⟩; have HO197 := aM (Kd.R_lower (Kd.R_new' (Kd.R_new' ho0 (Kd.R_lt (xR HO_5.out))) (Kd.R_lt (xR HO_191000.out))) (keep_size (w := w) (g := g) (row := none) (xK1 HK.out GW190.out))); replace HO_5 := aM (Kd.R_elder' (xR HO_5.out) (Kd.R_base ho0) hb); replace HO_191000 := aM (Kd.R_elder' (xR HO_191000.out) (Kd.R_base ho0) hb); replace BK190 := yK BK190 hb; replace HK := aM (KeepBut.trans (xK1 HK.out GW190.out) (KeepBut.of_below hb g none) (.inl rfl)); replace HB := aM (below_step (xG2 HB.out (IsS78.ge HI0.out) GE190.out) hb); replace HI0 := aM (IsS78.below (IsS78.x1 HI0.out NB0_190.out) hb); (try clear hb; try clear ho0)))
       go_meet
       case rel => exact ⟨_, (t195), (x1001_8), (x1002_8), H', ⟨by have := HJ2.out; have := HJ8.out; first | omega | exact Nat.le_refl _⟩, ⟨zR (rM HO197.out (fun _ hk => by first | exact hk.2 | exact trivial))⟩, ⟨zR (rM HO_191000.out (fun _ hk => hk.2))⟩, ⟨xB BK190.out⟩, ⟨IsS78.x1 HI0.out NB0_190.out⟩, ⟨xK1 HK.out GW190.out⟩, ⟨xG2 HB.out (IsS78.ge HI0.out) GE190.out⟩⟩
      replace c33 := Bool.eq_false_iff.mpr c33
      subst c33
      rw [if_neg (show ¬ (false = true) by decide)] at H
      have H' := aM H
      clear H
      go_wp2
      go_loopg [5, 7] kj8 (fun kq v5 v7 w' => ∃ (x5_3 : List Int) (x7_3 : Int) (x1001_3 : Int) (x1002_3 : Int), v7 = .int .i64 x7_3 ∧ Aside0 (spec_l1Cur_table.l0 kq a1 x5_3 x7_3 s0_0 x1001_3 x1002_3 = some (r1, r2, r3)) ∧ Aside0 (kq ≤ kj8) ∧ Aside0 (Kd.R (Kd.int .i64) 3 w' w.heap.size (fun k_ => some k_ ≠ ((.slice Ao12 t184.length co12) : Value).ownBlock) v5 x5_3) ∧ Aside0 (Kd.R (Kd.int .i64) 3 w' w.heap.size (fun k_ => some k_ ≠ (v5 : Value).ownBlock) (.slice Ao12 t184.length co12) t184) ∧ Aside0 (w'.heap[gb190]? = some (.cells #[(.slice Ao12 t184.length co12), .int .i64 t187] 28 (0, 0))) ∧ Aside0 (IsS78 w0 w' g s0_0 x1001_3 x1002_3) ∧ Aside0 (KeepBut w w' g none) ∧ Aside0 (Below w0.heap.size w0 w'))
      case atStart => exact ⟨(y181), (0), (x1001_8), (x1002_8), yZ, H', ⟨Nat.le_refl _⟩, ⟨xR HO_5.out⟩, ⟨xR HO_191000.out⟩, ⟨xB BK190.out⟩, ⟨IsS78.x1 HI0.out NB0_190.out⟩, ⟨xK1 HK.out GW190.out⟩, ⟨xG2 HB.out (IsS78.ge HI0.out) GE190.out⟩⟩
      case round =>
       clear H'
       try clear c33
       try clear hcz36_0
       try clear hcz36_1
       try clear hfz36_0
       try clear hfz36_1
       obtain ⟨x5_3, x7_3, x1001_3, x1002_3, rfl, HA, HK3, HO_5, HO_191000, BK190, HI0, HK, HB⟩ := hrel
       cases gk with
       | zero => exact absurd HA.out (by simp [spec_l1Cur_table.l0])
       | succ k3 =>
        have H := HA.out
        clear HA
        simp only [spec_l1Cur_table.l0] at H
        obtain ⟨c38, -, H⟩ | ⟨c38, -, H⟩ := yif H
        rotate_left
        · exact absurd H (by simp)
        have c38b0 := eq_true c38
        have c38b1 : decide (0 ≤ a1) = true := decide_eq_true c38
        clear c38
        obtain ⟨ji39, hji39⟩ := yJ ((shl .i64 1 a1))
        (first | rw [hji39] at H | simp only [hji39] at H)
        have hji39_ : (IntKind.i64.wrap (1 * 2 ^ min a1.toNat 64)) = ji39 := hji39
        have hji39z : a1 ≤ 64 → (IntKind.i64.wrap (1 * 2 ^ a1.toNat)) = ji39 := shl_small hji39
        have hji39u : (IntKind.i64.wrap (2 ^ min a1.toNat 64)) = ji39 := by have h_ := hji39_; rw [Int.one_mul] at h_; exact h_
        have hji39v : a1 ≤ 64 → (IntKind.i64.wrap (2 ^ a1.toNat)) = ji39 := fun hle_ => by have h_ := hji39z hle_; rw [Int.one_mul] at h_; exact h_
        have hji39y : (wrap64 (1 * 2 ^ min a1.toNat 64)) = ji39 := (i64_w _).symm.trans hji39_
        have hji39x : a1 ≤ 64 → (wrap64 (1 * 2 ^ a1.toNat)) = ji39 := fun h_ => (i64_w _).symm.trans (hji39z h_)
        obtain ⟨-, c40b0, H⟩ | ⟨-, c40b0, H⟩ := yif H
        rotate_left
        ·
         (first | rw [c40b0] | (simp only [i64_w, i32_w]; rw [c40b0]) | rw [c40b1] | skip)
         have H' := aM H
         clear H
         go_wp2
         (try subst hji39)
         go_meet
         case rel => exact ⟨_, (x5_3), (x1001_3), (x1002_3), H', ⟨by have := HJ2.out; have := HJ8.out; have := HK3.out; first | omega | exact Nat.le_refl _⟩, ⟨xR HO_5.out⟩, ⟨xR HO_191000.out⟩, ⟨xB BK190.out⟩, ⟨IsS78.x1 HI0.out NB0_190.out⟩, ⟨xK1 HK.out GW190.out⟩, ⟨xG2 HB.out (IsS78.ge HI0.out) GE190.out⟩⟩
        (first | rw [c40b0] | (simp only [i64_w, i32_w]; rw [c40b0]) | rw [c40b1] | skip)
        replace H := oB.mp H
        obtain ⟨⟨t198, t199, t200⟩, A410, H⟩ := H
        (try dsimp only at H)
        have A41 := aM A410
        clear A410
        obtain ⟨c42, -, H⟩ | ⟨c42, -, H⟩ := yif H
        rotate_left
        · exact absurd H (by simp)
        have LMc42 := aM c42
        clear c42
        obtain ⟨y201, hy201⟩ := yE (x5_3 ++ [t198] : List Int)
        replace H : (spec_l1Cur_table.l0 k3 a1 y201 (wrap64 (x7_3 + 1)) s0_0 t199 t200) = some (r1, r2, r3) := yI hy201 H
        have Ny201 := aM hy201
        clear hy201
        have H' := aM H
        clear H
        go_wp2_with (first | (refine yL 47 Try.func85 #[.pointer (some ⟨g, 0, none⟩), .int .i64 2] ?_; (with_reducible refine (spec_l1Cur_pick.calls g s0_0 x1001_3 x1002_3 2 t198 t199 t200 w0 _ (IsS78.x1 HI0.out NB0_190.out) (xG2 HB.out (IsS78.ge HI0.out) GE190.out) A41.out).mono ?_); rintro e w43 ⟨rfl, hi, hb, hk⟩; refine ⟨_, rfl, ?_⟩; replace HO_5 := aM (rM (Kd.R_keep (IsS78.apart (show IsS78 w0 _ g s0_0 x1001_3 x1002_3 from IsS78.x1 HI0.out NB0_190.out) (xR HO_5.out) (by decide)) hk (fun _ h => h.2)) (fun _ h => h.1)); replace HO_191000 := aM (rM (Kd.R_keep (IsS78.apart (show IsS78 w0 _ g s0_0 x1001_3 x1002_3 from IsS78.x1 HI0.out NB0_190.out) (xR HO_191000.out) (by decide)) hk (fun _ h => h.2)) (fun _ h => h.1)); replace BK190 := yQ hk BK190 NB190_0; replace HK := aM (KeepBut.trans (xK1 HK.out GW190.out) hk (.inl rfl)); replace HB := aM (hb); replace HI0 := aM (hi); (try clear hb; try clear hk; try clear hi)) | ((with_reducible refine gate_builtin (b := .append) (xs := #[.tmp 45, .tmp 48]) rfl ?_); (try (refine gate_guard (by rfl) ?_; dsimp only)); at_builtin; refine Kd.R_append (Kd.int .i64) w.heap.size rfl (.tmp 45) (.tmp 48) 24 3 (.int .i64 0) 8 rfl Try.underlying24 info3 rfl (by decide) (by omega) u5 x5_3 t198 [.int .i64 t198] (fun k_ => some k_ ≠ (.slice Ao12 t184.length co12 : Value).ownBlock) (fun _ => False) rfl rfl ?aP (fun _ hk => hk.elim) ?aF ?aO (Below.refl _ _) ?aS ?aL ?_; (case aP => exact rfl); (case aF => exact (fun k_ hk => Kd.fresh' (Kd.R_lt (xR HO_191000.out)) k_ hk)); (case aO => exact (xR HO_5.out)); (case aS => exact (keep_size (w := w) (g := g) (row := none) (xK1 HK.out GW190.out))); (case aL => have := LMc42.out; omega); intro v202 w44 ho hb hg hat; rw [← Ny201.out] at ho; replace HO_191000 := aM (Kd.R_after (ok := (fun _ => True)) (zR (rM HO_191000.out (fun _ hk => ⟨trivial, hk⟩))) hg hat); replace BK190 := yR BK190 hg (Kd.R_ne HO_5.out BK190.out (by decide)); replace HB := aM (below_weaken (xG2 HB.out (IsS78.ge HI0.out) GE190.out) HL.out hb); replace HI0 := aM (IsS78.grown (IsS78.x1 HI0.out NB0_190.out) hg (IsS78.own_ne HI0.out HO_5.out (by decide))); replace HK := aM (KeepBut.trans (xK1 HK.out GW190.out) (KeepBut.of_grown hg g) (Kd.R_base2 HO_5.out)); have HO203 := aM (ho); clear HO_5; clear ho hb hg hat))
        go_roundg k3
        case measure => have := HJ2.out; have := HJ8.out; have := HK3.out; omega
        case rel => exact ⟨(y201), (wrap64 (x7_3 + 1)), (t199), (t200), yZ, H', ⟨by have := HJ2.out; have := HJ8.out; have := HK3.out; omega⟩, ⟨xR HO203.out⟩, ⟨zR (rM HO_191000.out (fun _ hk => hk.2))⟩, ⟨xB BK190.out⟩, ⟨IsS78.x1 HI0.out NB0_190.out⟩, ⟨xK1 HK.out GW190.out⟩, ⟨xG2 HB.out (IsS78.ge HI0.out) GE190.out⟩⟩
     case rest =>
      clear HC32
      try clear c4
      try clear c33
      try clear c38
      try clear c38b0
      try clear c38b1
      try clear c40b0
      try clear c42
      try clear hcz36_0
      try clear hcz36_1
      try clear hfz36_0
      try clear hfz36_1
      obtain ⟨kq, x5_31, x1001_31, x1002_31, HA, HJ31, HO_5, HO_191000, BK190, HI0, HK, HB⟩ := hcut
      cases kq with
      | zero => exact absurd HA.out (by simp [spec_l1Cur_table.j3])
      | succ kj31 =>
       have H := HA.out
       clear HA
       simp only [spec_l1Cur_table.j3] at H
       replace H := oB.mp H
       obtain ⟨⟨t204, t205, t206⟩, A450, H⟩ := H
       (try dsimp only at H)
       have A45 := aM A450
       clear A450
       by_cases c46 : t204 = true
       rotate_left
       ·
        replace c46 := Bool.eq_false_iff.mpr c46
        subst c46
        rw [if_neg (show ¬ (false = true) by decide)] at H
        replace H := oB.mp H
        obtain ⟨⟨t223, t224, t225⟩, A760, H⟩ := H
        (try dsimp only at H)
        have A76 := aM A760
        clear A760
        by_cases c77 : t223 = true
        rotate_left
        ·
         replace c77 := Bool.eq_false_iff.mpr c77
         subst c77
         rw [if_neg (show ¬ (false = true) by decide)] at H
         simp only [Option.some.injEq, Prod.mk.injEq] at H
         obtain ⟨rfl, rfl, rfl⟩ := H
         go_wp2_with (first | (refine yL 51 Try.func84 #[.pointer (some ⟨g, 0, none⟩), .int .i64 40] ?_; (with_reducible refine (spec_l1Cur_one.calls g s0_0 x1001_31 x1002_31 40 false t205 t206 w0 _ (IsS78.x1 HI0.out NB0_190.out) (xG2 HB.out (IsS78.ge HI0.out) GE190.out) A45.out).mono ?_); rintro e w82 ⟨rfl, hi, hb, hk⟩; refine ⟨_, rfl, ?_⟩; replace HO_5 := aM (rM (Kd.R_keep (IsS78.apart (show IsS78 w0 _ g s0_0 x1001_31 x1002_31 from IsS78.x1 HI0.out NB0_190.out) (xR HO_5.out) (by decide)) hk (fun _ h => h.2)) (fun _ h => h.1)); replace HO_191000 := aM (rM (Kd.R_keep (IsS78.apart (show IsS78 w0 _ g s0_0 x1001_31 x1002_31 from IsS78.x1 HI0.out NB0_190.out) (xR HO_191000.out) (by decide)) hk (fun _ h => h.2)) (fun _ h => h.1)); replace BK190 := yQ hk BK190 NB190_0; replace HK := aM (KeepBut.trans (xK1 HK.out GW190.out) hk (.inl rfl)); replace HB := aM (hb); replace HI0 := aM (hi); (try clear hb; try clear hk; try clear hi)) | (refine yL 62 Try.func84 #[.pointer (some ⟨g, 0, none⟩), .int .i64 40] ?_; (with_reducible refine (spec_l1Cur_one.calls g s0_0 t205 t206 40 false t224 t225 w0 _ (IsS78.x1 HI0.out NB0_190.out) (xG2 HB.out (IsS78.ge HI0.out) GE190.out) A76.out).mono ?_); rintro e w83 ⟨rfl, hi, hb, hk⟩; refine ⟨_, rfl, ?_⟩; replace HO_5 := aM (rM (Kd.R_keep (IsS78.apart (show IsS78 w0 _ g s0_0 t205 t206 from IsS78.x1 HI0.out NB0_190.out) (xR HO_5.out) (by decide)) hk (fun _ h => h.2)) (fun _ h => h.1)); replace HO_191000 := aM (rM (Kd.R_keep (IsS78.apart (show IsS78 w0 _ g s0_0 t205 t206 from IsS78.x1 HI0.out NB0_190.out) (xR HO_191000.out) (by decide)) hk (fun _ h => h.2)) (fun _ h => h.1)); replace BK190 := yQ hk BK190 NB190_0; replace HK := aM (KeepBut.trans (xK1 HK.out GW190.out) hk (.inl rfl)); replace HB := aM (hb); replace HI0 := aM (hi); (try clear hb; try clear hk; try clear hi)))
         go_ret
         exact ⟨_, yF, zR (rM HO_5.out (fun _ hk => trivial)), IsS78.x1 HI0.out NB0_190.out, xG2 HB.out (IsS78.ge HI0.out) GE190.out, xK1 HK.out GW190.out⟩
        subst c77
        rw [if_pos rfl] at H
        obtain ⟨c78, -, H⟩ | ⟨c78, -, H⟩ := yif H
        rotate_left
        · exact absurd H (by simp)
        have LMc78 := aM c78
        clear c78
        obtain ⟨y226, hy226⟩ := yE (x5_31 ++ [0] : List Int)
        replace H : (some (y226, t224, t225)) = some (r1, r2, r3) := yI hy226 H
        have Ny226 := aM hy226
        clear hy226
        simp only [Option.some.injEq, Prod.mk.injEq] at H
        obtain ⟨rfl, rfl, rfl⟩ := H
        go_wp2_with (first | (refine yL 51 Try.func84 #[.pointer (some ⟨g, 0, none⟩), .int .i64 40] ?_; (with_reducible refine (spec_l1Cur_one.calls g s0_0 x1001_31 x1002_31 40 false t205 t206 w0 _ (IsS78.x1 HI0.out NB0_190.out) (xG2 HB.out (IsS78.ge HI0.out) GE190.out) A45.out).mono ?_); rintro e w79 ⟨rfl, hi, hb, hk⟩; refine ⟨_, rfl, ?_⟩; replace HO_5 := aM (rM (Kd.R_keep (IsS78.apart (show IsS78 w0 _ g s0_0 x1001_31 x1002_31 from IsS78.x1 HI0.out NB0_190.out) (xR HO_5.out) (by decide)) hk (fun _ h => h.2)) (fun _ h => h.1)); replace HO_191000 := aM (rM (Kd.R_keep (IsS78.apart (show IsS78 w0 _ g s0_0 x1001_31 x1002_31 from IsS78.x1 HI0.out NB0_190.out) (xR HO_191000.out) (by decide)) hk (fun _ h => h.2)) (fun _ h => h.1)); replace BK190 := yQ hk BK190 NB190_0; replace HK := aM (KeepBut.trans (xK1 HK.out GW190.out) hk (.inl rfl)); replace HB := aM (hb); replace HI0 := aM (hi); (try clear hb; try clear hk; try clear hi)) | (refine yL 62 Try.func84 #[.pointer (some ⟨g, 0, none⟩), .int .i64 40] ?_; (with_reducible refine (spec_l1Cur_one.calls g s0_0 t205 t206 40 true t224 t225 w0 _ (IsS78.x1 HI0.out NB0_190.out) (xG2 HB.out (IsS78.ge HI0.out) GE190.out) A76.out).mono ?_); rintro e w80 ⟨rfl, hi, hb, hk⟩; refine ⟨_, rfl, ?_⟩; replace HO_5 := aM (rM (Kd.R_keep (IsS78.apart (show IsS78 w0 _ g s0_0 t205 t206 from IsS78.x1 HI0.out NB0_190.out) (xR HO_5.out) (by decide)) hk (fun _ h => h.2)) (fun _ h => h.1)); replace HO_191000 := aM (rM (Kd.R_keep (IsS78.apart (show IsS78 w0 _ g s0_0 t205 t206 from IsS78.x1 HI0.out NB0_190.out) (xR HO_191000.out) (by decide)) hk (fun _ h => h.2)) (fun _ h => h.1)); replace BK190 := yQ hk BK190 NB190_0; replace HK := aM (KeepBut.trans (xK1 HK.out GW190.out) hk (.inl rfl)); replace HB := aM (hb); replace HI0 := aM (hi); (try clear hb; try clear hk; try clear hi)) | ((with_reducible refine gate_builtin (b := .append) (xs := #[.tmp 63, .tmp 64]) rfl ?_); (try (refine gate_guard (by rfl) ?_; dsimp only)); at_builtin; refine Kd.R_append (Kd.int .i64) w.heap.size rfl (.tmp 63) (.tmp 64) 24 3 (.int .i64 0) 8 rfl Try.underlying24 info3 rfl (by decide) (by omega) u5 x5_31 0 [.int .i64 0] (fun k_ => some k_ ≠ (.slice Ao12 t184.length co12 : Value).ownBlock) (fun _ => False) rfl rfl ?aP (fun _ hk => hk.elim) ?aF ?aO (Below.refl _ _) ?aS ?aL ?_; (case aP => exact rfl); (case aF => exact (fun k_ hk => Kd.fresh' (Kd.R_lt (xR HO_191000.out)) k_ hk)); (case aO => exact (xR HO_5.out)); (case aS => exact (keep_size (w := w) (g := g) (row := none) (xK1 HK.out GW190.out))); (case aL => have := LMc78.out; omega); intro v227 w81 ho hb hg hat; rw [← Ny226.out] at ho; replace HO_191000 := aM (Kd.R_after (ok := (fun _ => True)) (zR (rM HO_191000.out (fun _ hk => ⟨trivial, hk⟩))) hg hat); replace BK190 := yR BK190 hg (Kd.R_ne HO_5.out BK190.out (by decide)); replace HB := aM (below_weaken (xG2 HB.out (IsS78.ge HI0.out) GE190.out) HL.out hb); replace HI0 := aM (IsS78.grown (IsS78.x1 HI0.out NB0_190.out) hg (IsS78.own_ne HI0.out HO_5.out (by decide))); replace HK := aM (KeepBut.trans (xK1 HK.out GW190.out) (KeepBut.of_grown hg g) (Kd.R_base2 HO_5.out)); have HO228 := aM (ho); clear HO_5; clear ho hb hg hat))
        go_ret
        exact ⟨_, yF, zR (rM HO228.out (fun _ hk => trivial)), IsS78.x1 HI0.out NB0_190.out, xG2 HB.out (IsS78.ge HI0.out) GE190.out, xK1 HK.out GW190.out⟩
       subst c46
       rw [if_pos rfl] at H
       replace H := oB.mp H
       obtain ⟨⟨t207, t208, t209⟩, A470, H⟩ := H
       (try dsimp only at H)
       have A47 := aM A470
       clear A470
       obtain ⟨y210, hy210⟩ := yE (([2, (-1)] : List Int) : List Int)
       replace H : ((spec_l1Cur_among.f s0_0 t208 t209 y210).bind fun bt213 => (if 0 ≤ t207 then (if t207 < (x5_31.length : Int) then ((some (x5_31.set (t207 : Int).toNat bt213.1 : List Int)).bind fun y216 => ((spec_l1Cur_one.f s0_0 bt213.2.1 bt213.2.2 40).bind fun bt217 => (if bt217.1 = true then (if y216.length < 17592186044416 then (some ((y216 ++ [0]), bt217.2.1, bt217.2.2)) else (none)) else (some (y216, bt217.2.1, bt217.2.2))))) else (none)) else (none))) = some (r1, r2, r3) := yI hy210 H
       have Ny210 := aM hy210
       clear hy210
       replace H := oB.mp H
       obtain ⟨⟨t213, t214, t215⟩, A480, H⟩ := H
       (try dsimp only at H)
       have A48 := aM A480
       clear A480
       obtain ⟨-, c49b0, H⟩ | ⟨c49, -, H⟩ := yif H
       rotate_left
       · exact absurd H (by simp)
       obtain ⟨-, c50b0, H⟩ | ⟨c50, -, H⟩ := yif H
       rotate_left
       · exact absurd H (by simp)
       obtain ⟨y216, hy216⟩ := yE (x5_31.set (t207 : Int).toNat t213 : List Int)
       replace H : ((spec_l1Cur_one.f s0_0 t214 t215 40).bind fun bt217 => (if bt217.1 = true then (if y216.length < 17592186044416 then (some ((y216 ++ [0]), bt217.2.1, bt217.2.2)) else (none)) else (some (y216, bt217.2.1, bt217.2.2)))) = some (r1, r2, r3) := yI hy216 H
       have Ny216 := aM hy216
       clear hy216
       replace H := oB.mp H
       obtain ⟨⟨t217, t218, t219⟩, A520, H⟩ := H
       (try dsimp only at H)
       have A52 := aM A520
       clear A520
       by_cases c53 : t217 = true
       rotate_left
       ·
        replace c53 := Bool.eq_false_iff.mpr c53
        subst c53
        rw [if_neg (show ¬ (false = true) by decide)] at H
        simp only [Option.some.injEq, Prod.mk.injEq] at H
        obtain ⟨rfl, rfl, rfl⟩ := H
        go_wp2_with (first | (refine yL 51 Try.func84 #[.pointer (some ⟨g, 0, none⟩), .int .i64 40] ?_; (with_reducible refine (spec_l1Cur_one.calls g s0_0 x1001_31 x1002_31 40 true t205 t206 w0 _ (IsS78.x1 HI0.out NB0_190.out) (xG2 HB.out (IsS78.ge HI0.out) GE190.out) A45.out).mono ?_); rintro e w66 ⟨rfl, hi, hb, hk⟩; refine ⟨_, rfl, ?_⟩; replace HO_5 := aM (rM (Kd.R_keep (IsS78.apart (show IsS78 w0 _ g s0_0 x1001_31 x1002_31 from IsS78.x1 HI0.out NB0_190.out) (xR HO_5.out) (by decide)) hk (fun _ h => h.2)) (fun _ h => h.1)); replace HO_191000 := aM (rM (Kd.R_keep (IsS78.apart (show IsS78 w0 _ g s0_0 x1001_31 x1002_31 from IsS78.x1 HI0.out NB0_190.out) (xR HO_191000.out) (by decide)) hk (fun _ h => h.2)) (fun _ h => h.1)); replace BK190 := yQ hk BK190 NB190_0; replace HK := aM (KeepBut.trans (xK1 HK.out GW190.out) hk (.inl rfl)); replace HB := aM (hb); replace HI0 := aM (hi); (try clear hb; try clear hk; try clear hi); obtain ⟨Ao67, co67, eo67⟩ := Kd.R_slice HO_5.out; subst eo67) | (refine yL 56 Try.func85 #[.pointer (some ⟨g, 0, none⟩), .int .i64 (x5_31.length : Int)] ?_; (with_reducible refine (spec_l1Cur_pick.calls g s0_0 t205 t206 (x5_31.length : Int) t207 t208 t209 w0 _ (IsS78.x1 HI0.out NB0_190.out) (xG2 HB.out (IsS78.ge HI0.out) GE190.out) A47.out).mono ?_); rintro e w68 ⟨rfl, hi, hb, hk⟩; refine ⟨_, rfl, ?_⟩; replace HO_5 := aM (rM (Kd.R_keep (IsS78.apart (show IsS78 w0 _ g s0_0 t205 t206 from IsS78.x1 HI0.out NB0_190.out) (xR HO_5.out) (by decide)) hk (fun _ h => h.2)) (fun _ h => h.1)); replace HO_191000 := aM (rM (Kd.R_keep (IsS78.apart (show IsS78 w0 _ g s0_0 t205 t206 from IsS78.x1 HI0.out NB0_190.out) (xR HO_191000.out) (by decide)) hk (fun _ h => h.2)) (fun _ h => h.1)); replace BK190 := yQ hk BK190 NB190_0; replace HK := aM (KeepBut.trans (xK1 HK.out GW190.out) hk (.inl rfl)); replace HB := aM (hb); replace HI0 := aM (hi); (try clear hb; try clear hk; try clear hi)) | ((with_reducible refine gate_dst (N := 58) rfl ?_); (try (refine gate_guard (by rfl) ?_; dsimp only)); refine Kd.R_lit (Kd.int .i64) _ 3 ?hg (N := 58) ?hd (xs := ([2, (-1)] : List Int)) (inner := [.int .i64 2, .int .i64 (-1)]) (ok := fun _ => True) (okp := fun _ => True) ?hr ?hp (fun _ hk => hk) trivial (Below.refl _ _) (Nat.le_refl _) (by simp) ?_; (case hd => rfl); (case hg => rfl); (case hr => first | (go_simp; done) | (go_simp; rfl)); (case hp => exact (Reps.one (show Kd.M (Kd.int .i64) _ _ _ 2 [.int .i64 2] from rfl) (Reps.one (show Kd.M (Kd.int .i64) _ _ _ (-1) [.int .i64 (-1)] from rfl) (Reps.none _ _)))); intro v211 w69 ho70 hb hg_ hnew_; clear hg_ hnew_; (first | rw [← Ny210.out] at ho70 | (simp only [Int.reduceToNat] at ho70; rw [← Ny210.out] at ho70)); have HO212 := aM (Kd.R_lower (Kd.R_new' (Kd.R_new' ho70 (Kd.R_lt (xR HO_5.out))) (Kd.R_lt (xR HO_191000.out))) (keep_size (w := w) (g := g) (row := none) (xK1 HK.out GW190.out))); replace HO_5 := aM (Kd.R_elder' (xR HO_5.out) (Kd.R_base ho70) hb); replace HO_191000 := aM (Kd.R_elder' (xR HO_191000.out) (Kd.R_base ho70) hb); replace BK190 := yK BK190 hb; replace HK := aM (KeepBut.trans (xK1 HK.out GW190.out) (KeepBut.of_below hb g none) (.inl rfl)); replace HB := aM (below_step (xG2 HB.out (IsS78.ge HI0.out) GE190.out) hb); replace HI0 := aM (IsS78.below (IsS78.x1 HI0.out NB0_190.out) hb); clear hb ho70; obtain ⟨Ao71, co71, eo71⟩ := Kd.R_slice HO212.out; subst eo71) | (refine yL 59 Try.func87 #[.pointer (some ⟨g, 0, none⟩), .slice Ao71 y210.length co71] ?_; (with_reducible refine (spec_l1Cur_among.calls g s0_0 t208 t209 _ _ y210 t213 t214 t215 w0 _ (IsS78.x1 HI0.out NB0_190.out) (xG2 HB.out (IsS78.ge HI0.out) GE190.out) (xC (Kd.R_reads' HO212.out).2.2) ((Kd.R_reads' HO212.out).2.1) (far_slice (IsS78.own_ne HI0.out HO212.out (by decide))) A48.out).mono ?_); rintro e w72 ⟨rfl, hi, hb, hk⟩; refine ⟨_, rfl, ?_⟩; replace HO_5 := aM (rM (Kd.R_keep (IsS78.apart (show IsS78 w0 _ g s0_0 t208 t209 from IsS78.x1 HI0.out NB0_190.out) (xR HO_5.out) (by decide)) hk (fun _ h => h.2)) (fun _ h => h.1)); replace HO_191000 := aM (rM (Kd.R_keep (IsS78.apart (show IsS78 w0 _ g s0_0 t208 t209 from IsS78.x1 HI0.out NB0_190.out) (xR HO_191000.out) (by decide)) hk (fun _ h => h.2)) (fun _ h => h.1)); replace BK190 := yQ hk BK190 NB190_0; replace HO212 := aM (rM (Kd.R_keep (IsS78.apart (show IsS78 w0 _ g s0_0 t208 t209 from IsS78.x1 HI0.out NB0_190.out) (xR HO212.out) (by decide)) hk (fun _ h => h.2)) (fun _ h => h.1)); replace HK := aM (KeepBut.trans (xK1 HK.out GW190.out) hk (.inl rfl)); replace HB := aM (hb); replace HI0 := aM (hi); (try clear hb; try clear hk; try clear hi); have p51 : 0 ≤ (t207 : Int) := yA; have q51 : (t207 : Int) < ((x5_31.length : Int) : Int) := yA; obtain ⟨go51, co51, eo51, gb51, gl51, cl51, HG51⟩ := Kd.R_form HO_5.out (by omega); (first | cases eo51 | (injection eo51 with ea_ en_ ec_; (first | subst ea_ | (injection ea_ with ea_; subst ea_)); subst ec_; clear en_)); have GB51 := aM gb51; have GG51 := aM HG51; clear gb51 gl51 HG51; obtain ⟨hx51_0, hf51_0⟩ := Kd.R_celln 0 HO_5.out (t207 : Int) p51 q51; replace p51 := eq_true p51; replace q51 := eq_true q51; obtain ⟨hy73_, hz73_⟩ := Kd.R_celln 0 HO_5.out (t207 : Int) (yA) (yA); have HP73 := Kd.R_putg HO_5.out (t207 : Int) t213) | ((with_reducible refine gate_store (t := 3) (p := 60) rfl ?_); refine store_event (t := 3) (p := 60) (v := ?vo_w74) (w1 := (w72.setCell ⟨go51, (t207 : Int).toNat, none⟩ (.int .i64 t213))) ?hg ?ho ?hn ?hr ?_; (case ho => rfl); (case hg => rfl); (case hn => rfl); (case hr => first | (go_simp; done) | (go_simp; rfl)); intro w74 hw; have hg : w72.grownBy w74 (some go51) := (by rw [hw]; exact HP73.2); have hp_ : Kd.R (Kd.int .i64) 3 w74 w.heap.size (fun k_ => some k_ ≠ (.slice Ao12 t184.length co12 : Value).ownBlock ∧ some k_ ≠ (.slice Ao71 y210.length co71 : Value).ownBlock) (.slice (some ⟨go51, 0, none⟩) x5_31.length co67) y216 := (by rw [hw, Ny216.out]; exact HP73.1); clear HP73; replace HO_191000 := aM (Kd.R_after (v := (.slice (some ⟨go51, 0, none⟩) x5_31.length co67)) (v1 := (.slice (some ⟨go51, 0, none⟩) x5_31.length co67)) (ok := (fun k_ => some k_ ≠ (.slice Ao71 y210.length co71 : Value).ownBlock)) (zR (rM HO_191000.out (fun _ hk => ⟨hk.2, hk.1⟩))) hg (.inl rfl)); replace BK190 := yR BK190 hg (Kd.R_ne HO_5.out BK190.out (by decide)); replace HI0 := aM (IsS78.grown (IsS78.x1 HI0.out NB0_190.out) hg (IsS78.own_ne HI0.out HO_5.out (by decide))); replace HO212 := aM (Kd.R_after (v := (.slice (some ⟨go51, 0, none⟩) x5_31.length co67)) (v1 := (.slice (some ⟨go51, 0, none⟩) x5_31.length co67)) (ok := (fun k_ => some k_ ≠ (.slice Ao12 t184.length co12 : Value).ownBlock)) (zR (rM HO212.out (fun _ hk => ⟨hk.2, hk.1.2⟩))) hg (.inl rfl)); replace HB := aM ((by rw [hw]; exact eS (HB.out) (Nat.le_trans HL.out GB51.out) : Below w0.heap.size w0 w74)); replace HK := aM (KeepBut.trans (xK1 HK.out GW190.out) (KeepBut.of_grown hg g) (Kd.R_base2 HO_5.out)); replace HO_5 := aM (hp_); clear hg hw hp_) | (refine yL 62 Try.func84 #[.pointer (some ⟨g, 0, none⟩), .int .i64 40] ?_; (with_reducible refine (spec_l1Cur_one.calls g s0_0 t214 t215 40 false t218 t219 w0 _ (IsS78.x1 HI0.out NB0_190.out) (xG2 HB.out (IsS78.ge HI0.out) GE190.out) A52.out).mono ?_); rintro e w75 ⟨rfl, hi, hb, hk⟩; refine ⟨_, rfl, ?_⟩; replace HO_5 := aM (rM (Kd.R_keep (IsS78.apart (show IsS78 w0 _ g s0_0 t214 t215 from IsS78.x1 HI0.out NB0_190.out) (xR HO_5.out) (by decide)) hk (fun _ h => h.2)) (fun _ h => h.1)); replace HO_191000 := aM (rM (Kd.R_keep (IsS78.apart (show IsS78 w0 _ g s0_0 t214 t215 from IsS78.x1 HI0.out NB0_190.out) (xR HO_191000.out) (by decide)) hk (fun _ h => h.2)) (fun _ h => h.1)); replace BK190 := yQ hk BK190 NB190_0; replace HO212 := aM (rM (Kd.R_keep (IsS78.apart (show IsS78 w0 _ g s0_0 t214 t215 from IsS78.x1 HI0.out NB0_190.out) (xR HO212.out) (by decide)) hk (fun _ h => h.2)) (fun _ h => h.1)); replace HK := aM (KeepBut.trans (xK1 HK.out GW190.out) hk (.inl rfl)); replace HB := aM (hb); replace HI0 := aM (hi); (try clear hb; try clear hk; try clear hi)))
        go_ret
        exact ⟨_, yF, zR (rM HO_5.out (fun _ hk => trivial)), IsS78.x1 HI0.out NB0_190.out, xG2 HB.out (IsS78.ge HI0.out) GE190.out, xK1 HK.out GW190.out⟩
       subst c53
       rw [if_pos rfl] at H
       obtain ⟨c54, -, H⟩ | ⟨c54, -, H⟩ := yif H
       rotate_left
       · exact absurd H (by simp)
       have LMc54 := aM c54
       clear c54
       obtain ⟨y220, hy220⟩ := yE (y216 ++ [0] : List Int)
       replace H : (some (y220, t218, t219)) = some (r1, r2, r3) := yI hy220 H
       have Ny220 := aM hy220
       clear hy220
       simp only [Option.some.injEq, Prod.mk.injEq] at H
       obtain ⟨rfl, rfl, rfl⟩ := H
       go_wp2_with (first | (refine yL 51 Try.func84 #[.pointer (some ⟨g, 0, none⟩), .int .i64 40] ?_; (with_reducible refine (spec_l1Cur_one.calls g s0_0 x1001_31 x1002_31 40 true t205 t206 w0 _ (IsS78.x1 HI0.out NB0_190.out) (xG2 HB.out (IsS78.ge HI0.out) GE190.out) A45.out).mono ?_); rintro e w55 ⟨rfl, hi, hb, hk⟩; refine ⟨_, rfl, ?_⟩; replace HO_5 := aM (rM (Kd.R_keep (IsS78.apart (show IsS78 w0 _ g s0_0 x1001_31 x1002_31 from IsS78.x1 HI0.out NB0_190.out) (xR HO_5.out) (by decide)) hk (fun _ h => h.2)) (fun _ h => h.1)); replace HO_191000 := aM (rM (Kd.R_keep (IsS78.apart (show IsS78 w0 _ g s0_0 x1001_31 x1002_31 from IsS78.x1 HI0.out NB0_190.out) (xR HO_191000.out) (by decide)) hk (fun _ h => h.2)) (fun _ h => h.1)); replace BK190 := yQ hk BK190 NB190_0; replace HK := aM (KeepBut.trans (xK1 HK.out GW190.out) hk (.inl rfl)); replace HB := aM (hb); replace HI0 := aM (hi); (try clear hb; try clear hk; try clear hi); obtain ⟨Ao56, co56, eo56⟩ := Kd.R_slice HO_5.out; subst eo56) | (refine yL 56 Try.func85 #[.pointer (some ⟨g, 0, none⟩), .int .i64 (x5_31.length : Int)] ?_; (with_reducible refine (spec_l1Cur_pick.calls g s0_0 t205 t206 (x5_31.length : Int) t207 t208 t209 w0 _ (IsS78.x1 HI0.out NB0_190.out) (xG2 HB.out (IsS78.ge HI0.out) GE190.out) A47.out).mono ?_); rintro e w57 ⟨rfl, hi, hb, hk⟩; refine ⟨_, rfl, ?_⟩; replace HO_5 := aM (rM (Kd.R_keep (IsS78.apart (show IsS78 w0 _ g s0_0 t205 t206 from IsS78.x1 HI0.out NB0_190.out) (xR HO_5.out) (by decide)) hk (fun _ h => h.2)) (fun _ h => h.1)); replace HO_191000 := aM (rM (Kd.R_keep (IsS78.apart (show IsS78 w0 _ g s0_0 t205 t206 from IsS78.x1 HI0.out NB0_190.out) (xR HO_191000.out) (by decide)) hk (fun _ h => h.2)) (fun _ h => h.1)); replace BK190 := yQ hk BK190 NB190_0; replace HK := aM (KeepBut.trans (xK1 HK.out GW190.out) hk (.inl rfl)); replace HB := aM (hb); replace HI0 := aM (hi); (try clear hb; try clear hk; try clear hi)) | ((with_reducible refine gate_dst (N := 58) rfl ?_); (try (refine gate_guard (by rfl) ?_; dsimp only)); refine Kd.R_lit (Kd.int .i64) _ 3 ?hg (N := 58) ?hd (xs := ([2, (-1)] : List Int)) (inner := [.int .i64 2, .int .i64 (-1)]) (ok := fun _ => True) (okp := fun _ => True) ?hr ?hp (fun _ hk => hk) trivial (Below.refl _ _) (Nat.le_refl _) (by simp) ?_; (case hd => rfl); (case hg => rfl); (case hr => first | (go_simp; done) | (go_simp; rfl)); (case hp => exact (Reps.one (show Kd.M (Kd.int .i64) _ _ _ 2 [.int .i64 2] from rfl) (Reps.one (show Kd.M (Kd.int .i64) _ _ _ (-1) [.int .i64 (-1)] from rfl) (Reps.none _ _)))); intro v211 w58 ho59 hb hg_ hnew_; clear hg_ hnew_; (first | rw [← Ny210.out] at ho59 | (simp only [Int.reduceToNat] at ho59; rw [← Ny210.out] at ho59)); have HO212 := aM (Kd.R_lower (Kd.R_new' (Kd.R_new' ho59 (Kd.R_lt (xR HO_5.out))) (Kd.R_lt (xR HO_191000.out))) (keep_size (w := w) (g := g) (row := none) (xK1 HK.out GW190.out))); replace HO_5 := aM (Kd.R_elder' (xR HO_5.out) (Kd.R_base ho59) hb); replace HO_191000 := aM (Kd.R_elder' (xR HO_191000.out) (Kd.R_base ho59) hb); replace BK190 := yK BK190 hb; replace HK := aM (KeepBut.trans (xK1 HK.out GW190.out) (KeepBut.of_below hb g none) (.inl rfl)); replace HB := aM (below_step (xG2 HB.out (IsS78.ge HI0.out) GE190.out) hb); replace HI0 := aM (IsS78.below (IsS78.x1 HI0.out NB0_190.out) hb); clear hb ho59; obtain ⟨Ao60, co60, eo60⟩ := Kd.R_slice HO212.out; subst eo60) | (refine yL 59 Try.func87 #[.pointer (some ⟨g, 0, none⟩), .slice Ao60 y210.length co60] ?_; (with_reducible refine (spec_l1Cur_among.calls g s0_0 t208 t209 _ _ y210 t213 t214 t215 w0 _ (IsS78.x1 HI0.out NB0_190.out) (xG2 HB.out (IsS78.ge HI0.out) GE190.out) (xC (Kd.R_reads' HO212.out).2.2) ((Kd.R_reads' HO212.out).2.1) (far_slice (IsS78.own_ne HI0.out HO212.out (by decide))) A48.out).mono ?_); rintro e w61 ⟨rfl, hi, hb, hk⟩; refine ⟨_, rfl, ?_⟩; replace HO_5 := aM (rM (Kd.R_keep (IsS78.apart (show IsS78 w0 _ g s0_0 t208 t209 from IsS78.x1 HI0.out NB0_190.out) (xR HO_5.out) (by decide)) hk (fun _ h => h.2)) (fun _ h => h.1)); replace HO_191000 := aM (rM (Kd.R_keep (IsS78.apart (show IsS78 w0 _ g s0_0 t208 t209 from IsS78.x1 HI0.out NB0_190.out) (xR HO_191000.out) (by decide)) hk (fun _ h => h.2)) (fun _ h => h.1)); replace BK190 := yQ hk BK190 NB190_0; replace HO212 := aM (rM (Kd.R_keep (IsS78.apart (show IsS78 w0 _ g s0_0 t208 t209 from IsS78.x1 HI0.out NB0_190.out) (xR HO212.out) (by decide)) hk (fun _ h => h.2)) (fun _ h => h.1)); replace HK := aM (KeepBut.trans (xK1 HK.out GW190.out) hk (.inl rfl)); replace HB := aM (hb); replace HI0 := aM (hi); (try clear hb; try clear hk; try clear hi); have p51 : 0 ≤ (t207 : Int) := yA; have q51 : (t207 : Int) < ((x5_31.length : Int) : Int) := yA; obtain ⟨go51, co51, eo51, gb51, gl51, cl51, HG51⟩ := Kd.R_form HO_5.out (by omega); (first | cases eo51 | (injection eo51 with ea_ en_ ec_; (first | subst ea_ | (injection ea_ with ea_; subst ea_)); subst ec_; clear en_)); have GB51 := aM gb51; have GG51 := aM HG51; clear gb51 gl51 HG51; obtain ⟨hx51_0, hf51_0⟩ := Kd.R_celln 0 HO_5.out (t207 : Int) p51 q51; replace p51 := eq_true p51; replace q51 := eq_true q51; obtain ⟨hy62_, hz62_⟩ := Kd.R_celln 0 HO_5.out (t207 : Int) (yA) (yA); have HP62 := Kd.R_putg HO_5.out (t207 : Int) t213) | ((with_reducible refine gate_store (t := 3) (p := 60) rfl ?_); refine store_event (t := 3) (p := 60) (v := ?vo_w63) (w1 := (w61.setCell ⟨go51, (t207 : Int).toNat, none⟩ (.int .i64 t213))) ?hg ?ho ?hn ?hr ?_; (case ho => rfl); (case hg => rfl); (case hn => rfl); (case hr => first | (go_simp; done) | (go_simp; rfl)); intro w63 hw; have hg : w61.grownBy w63 (some go51) := (by rw [hw]; exact HP62.2); have hp_ : Kd.R (Kd.int .i64) 3 w63 w.heap.size (fun k_ => some k_ ≠ (.slice Ao12 t184.length co12 : Value).ownBlock ∧ some k_ ≠ (.slice Ao60 y210.length co60 : Value).ownBlock) (.slice (some ⟨go51, 0, none⟩) x5_31.length co56) y216 := (by rw [hw, Ny216.out]; exact HP62.1); clear HP62; replace HO_191000 := aM (Kd.R_after (v := (.slice (some ⟨go51, 0, none⟩) x5_31.length co56)) (v1 := (.slice (some ⟨go51, 0, none⟩) x5_31.length co56)) (ok := (fun k_ => some k_ ≠ (.slice Ao60 y210.length co60 : Value).ownBlock)) (zR (rM HO_191000.out (fun _ hk => ⟨hk.2, hk.1⟩))) hg (.inl rfl)); replace BK190 := yR BK190 hg (Kd.R_ne HO_5.out BK190.out (by decide)); replace HI0 := aM (IsS78.grown (IsS78.x1 HI0.out NB0_190.out) hg (IsS78.own_ne HI0.out HO_5.out (by decide))); replace HO212 := aM (Kd.R_after (v := (.slice (some ⟨go51, 0, none⟩) x5_31.length co56)) (v1 := (.slice (some ⟨go51, 0, none⟩) x5_31.length co56)) (ok := (fun k_ => some k_ ≠ (.slice Ao12 t184.length co12 : Value).ownBlock)) (zR (rM HO212.out (fun _ hk => ⟨hk.2, hk.1.2⟩))) hg (.inl rfl)); replace HB := aM ((by rw [hw]; exact eS (HB.out) (Nat.le_trans HL.out GB51.out) : Below w0.heap.size w0 w63)); replace HK := aM (KeepBut.trans (xK1 HK.out GW190.out) (KeepBut.of_grown hg g) (Kd.R_base2 HO_5.out)); replace HO_5 := aM (hp_); clear hg hw hp_) | (refine yL 62 Try.func84 #[.pointer (some ⟨g, 0, none⟩), .int .i64 40] ?_; (with_reducible refine (spec_l1Cur_one.calls g s0_0 t214 t215 40 true t218 t219 w0 _ (IsS78.x1 HI0.out NB0_190.out) (xG2 HB.out (IsS78.ge HI0.out) GE190.out) A52.out).mono ?_); rintro e w64 ⟨rfl, hi, hb, hk⟩; refine ⟨_, rfl, ?_⟩; replace HO_5 := aM (rM (Kd.R_keep (IsS78.apart (show IsS78 w0 _ g s0_0 t214 t215 from IsS78.x1 HI0.out NB0_190.out) (xR HO_5.out) (by decide)) hk (fun _ h => h.2)) (fun _ h => h.1)); replace HO_191000 := aM (rM (Kd.R_keep (IsS78.apart (show IsS78 w0 _ g s0_0 t214 t215 from IsS78.x1 HI0.out NB0_190.out) (xR HO_191000.out) (by decide)) hk (fun _ h => h.2)) (fun _ h => h.1)); replace BK190 := yQ hk BK190 NB190_0; replace HO212 := aM (rM (Kd.R_keep (IsS78.apart (show IsS78 w0 _ g s0_0 t214 t215 from IsS78.x1 HI0.out NB0_190.out) (xR HO212.out) (by decide)) hk (fun _ h => h.2)) (fun _ h => h.1)); replace HK := aM (KeepBut.trans (xK1 HK.out GW190.out) hk (.inl rfl)); replace HB := aM (hb); replace HI0 := aM (hi); (try clear hb; try clear hk; try clear hi)) | ((with_reducible refine gate_builtin (b := .append) (xs := #[.tmp 63, .tmp 64]) rfl ?_); (try (refine gate_guard (by rfl) ?_; dsimp only)); at_builtin; refine Kd.R_append (Kd.int .i64) w.heap.size rfl (.tmp 63) (.tmp 64) 24 3 (.int .i64 0) 8 rfl Try.underlying24 info3 rfl (by decide) (by omega) (.slice (some ⟨go51, 0, none⟩) x5_31.length co56) y216 0 [.int .i64 0] (fun k_ => some k_ ≠ (.slice Ao12 t184.length co12 : Value).ownBlock ∧ some k_ ≠ (.slice Ao60 y210.length co60 : Value).ownBlock) (fun _ => False) rfl rfl ?aP (fun _ hk => hk.elim) ?aF ?aO (Below.refl _ _) ?aS ?aL ?_; (case aP => exact rfl); (case aF => exact (fun k_ hk => ⟨Kd.fresh' (Kd.R_lt (xR HO_191000.out)) k_ hk, Kd.fresh' (Kd.R_lt (xR HO212.out)) k_ hk⟩)); (case aO => exact (xR HO_5.out)); (case aS => exact (keep_size (w := w) (g := g) (row := none) (xK1 HK.out GW190.out))); (case aL => have := LMc54.out; omega); intro v221 w65 ho hb hg hat; rw [← Ny220.out] at ho; replace HO_191000 := aM (Kd.R_after (ok := (fun k_ => some k_ ≠ (.slice Ao60 y210.length co60 : Value).ownBlock)) (xR HO_191000.out) hg hat); replace BK190 := yR BK190 hg (Kd.R_ne HO_5.out BK190.out (by decide)); replace HO212 := aM (Kd.R_after (ok := (fun k_ => some k_ ≠ (.slice Ao12 t184.length co12 : Value).ownBlock)) (xR HO212.out) hg hat); replace HB := aM (below_weaken (xG2 HB.out (IsS78.ge HI0.out) GE190.out) HL.out hb); replace HI0 := aM (IsS78.grown (IsS78.x1 HI0.out NB0_190.out) hg (IsS78.own_ne HI0.out HO_5.out (by decide))); replace HK := aM (KeepBut.trans (xK1 HK.out GW190.out) (KeepBut.of_grown hg g) (Kd.R_base2 HO_5.out)); have HO222 := aM (ho); clear HO_5; clear ho hb hg hat))
       go_ret
       exact ⟨_, yF, zR (rM HO222.out (fun _ hk => trivial)), IsS78.x1 HI0.out NB0_190.out, xG2 HB.out (IsS78.ge HI0.out) GE190.out, xK1 HK.out GW190.out⟩
def spec_l1Cur_table5.f (k : Nat) (s0_0 : List Int) (s0_1 : Int) (s0_2 : Int) : Option (Int × List Int × Int × Int) := (spec_l1Cur_among.f s0_0 s0_1 s0_2 (([2, 3, 3, 1, 3, 0, 2, 4] : List Int))).bind fun bt232 => ((spec_l1Cur_table.f k s0_0 bt232.2.1 bt232.2.2 bt232.1).bind fun bt235 => (some (bt232.1, bt235.1, bt235.2.1, bt235.2.2)))
theorem spec_l1Cur_table5.calls (k : Nat) (g : Nat) (s0_0 : List Int) (s0_1 : Int) (s0_2 : Int) (r1 : Int) (r2 : List Int) (r3 : Int) (r4 : Int) (w0 w : World) (hI : IsS78 w0 w g s0_0 s0_1 s0_2) (hB : Below w0.heap.size w0 w) (h : spec_l1Cur_table5.f k s0_0 s0_1 s0_2 = some (r1, r2, r3, r4)) :
    Calls Try.prog 83 #[.pointer (some ⟨g, 0, none⟩)] w fun e w' => ∃ v1_ : Value, e = .returned (.tuple #[.int .i64 r1, v1_]) ∧ Kd.R (Kd.int .i64) 3 w' w.heap.size (fun _ => True) v1_ r2 ∧ IsS78 w0 w' g s0_0 r3 r4 ∧ Below w0.heap.size w0 w' ∧ KeepBut w w' g none := by
  have HI0 := aM hI
  have HK := aM (KeepBut.refl w g none)
  have HL := aM hB.size
  clear hI
  have HW0 := aM hB.size
  have HB := aM hB
  clear hB
  have H : ((spec_l1Cur_among.f s0_0 s0_1 s0_2 (([2, 3, 3, 1, 3, 0, 2, 4] : List Int))).bind fun bt232 => ((spec_l1Cur_table.f k s0_0 bt232.2.1 bt232.2.2 bt232.1).bind fun bt235 => (some (bt232.1, bt235.1, bt235.2.1, bt235.2.2)))) = some (r1, r2, r3, r4) := h
  clear h
  obtain ⟨y229, hy229⟩ := yE (([2, 3, 3, 1, 3, 0, 2, 4] : List Int) : List Int)
  replace H : ((spec_l1Cur_among.f s0_0 s0_1 s0_2 y229).bind fun bt232 => ((spec_l1Cur_table.f k s0_0 bt232.2.1 bt232.2.2 bt232.1).bind fun bt235 => (some (bt232.1, bt235.1, bt235.2.1, bt235.2.2)))) = some (r1, r2, r3, r4) := yI hy229 H
  have Ny229 := aM hy229
  clear hy229
  replace H := oB.mp H
  obtain ⟨⟨t232, t233, t234⟩, A20, H⟩ := H
  (try dsimp only at H)
  have A2 := aM A20
  clear A20
  replace H := oB.mp H
  obtain ⟨⟨t235, t238, t239⟩, A30, H⟩ := H
  (try dsimp only at H)
  have A3 := aM A30
  clear A30
  simp only [Option.some.injEq, Prod.mk.injEq] at H
  obtain ⟨rfl, rfl, rfl, rfl⟩ := H
  go_enter Try.func83, Try.ntmps83
  go_wp2_with (first | ((with_reducible refine gate_dst (N := 6) rfl ?_); refine Kd.R_lit (Kd.int .i64) _ 3 ?hg (N := 6) ?hd (xs := ([2, 3, 3, 1, 3, 0, 2, 4] : List Int)) (inner := [.int .i64 2, .int .i64 3, .int .i64 3, .int .i64 1, .int .i64 3, .int .i64 0, .int .i64 2, .int .i64 4]) (ok := fun _ => True) (okp := fun _ => True) ?hr ?hp (fun _ hk => hk) trivial (Below.refl _ _) (Nat.le_refl _) (by simp) ?_; (case hd => rfl); (case hg => rfl); (case hr => first | (go_simp; done) | (go_simp; rfl)); (case hp => exact (Reps.one (show Kd.M (Kd.int .i64) _ _ _ 2 [.int .i64 2] from rfl) (Reps.one (show Kd.M (Kd.int .i64) _ _ _ 3 [.int .i64 3] from rfl) (Reps.one (show Kd.M (Kd.int .i64) _ _ _ 3 [.int .i64 3] from rfl) (Reps.one (show Kd.M (Kd.int .i64) _ _ _ 1 [.int .i64 1] from rfl) (Reps.one (show Kd.M (Kd.int .i64) _ _ _ 3 [.int .i64 3] from rfl) (Reps.one (show Kd.M (Kd.int .i64) _ _ _ 0 [.int .i64 0] from rfl) (Reps.one (show Kd.M (Kd.int .i64) _ _ _ 2 [.int .i64 2] from rfl) (Reps.one (show Kd.M (Kd.int .i64) _ _ _ 4 [.int .i64 4] from rfl) (Reps.none _ _)))))))))); intro v230 w4 ho5 hb hg_ hnew_; clear hg_ hnew_; (first | rw [← Ny229.out] at ho5 | (simp only [Int.reduceToNat] at ho5; rw [← Ny229.out] at ho5)); have HO231 := aM (Kd.R_lower ho5 (keep_size (w := w) (g := g) (row := none) (xK0 HK.out))); replace HK := aM (KeepBut.trans (xK0 HK.out) (KeepBut.of_below hb g none) (.inl rfl)); replace HB := aM (below_step (xG1 HB.out (IsS78.ge HI0.out)) hb); replace HI0 := aM (IsS78.below (IsS78.x0 HI0.out) hb); clear hb ho5; obtain ⟨Ao6, co6, eo6⟩ := Kd.R_slice HO231.out; subst eo6) | (refine yL 7 Try.func87 #[.pointer (some ⟨g, 0, none⟩), .slice Ao6 y229.length co6] ?_; (with_reducible refine (spec_l1Cur_among.calls g s0_0 s0_1 s0_2 _ _ y229 t232 t233 t234 w0 _ (IsS78.x0 HI0.out) (xG1 HB.out (IsS78.ge HI0.out)) (xC (Kd.R_reads' HO231.out).2.2) ((Kd.R_reads' HO231.out).2.1) (far_slice (IsS78.own_ne HI0.out HO231.out (by decide))) A2.out).mono ?_); rintro e w7 ⟨rfl, hi, hb, hk⟩; refine ⟨_, rfl, ?_⟩; replace HO231 := aM (rM (Kd.R_keep (IsS78.apart (show IsS78 w0 _ g s0_0 s0_1 s0_2 from IsS78.x0 HI0.out) (xR HO231.out) (by decide)) hk (fun _ h => h.2)) (fun _ h => h.1)); replace HK := aM (KeepBut.trans (xK0 HK.out) hk (.inl rfl)); replace HB := aM (hb); replace HI0 := aM (hi); (try clear hb; try clear hk; try clear hi)) | (refine yL 11 Try.func112 #[.pointer (some ⟨g, 0, none⟩), .int .i64 t232] ?_; (with_reducible refine (spec_l1Cur_table.calls k g s0_0 t233 t234 t232 t235 t238 t239 w0 _ (IsS78.x0 HI0.out) (xG1 HB.out (IsS78.ge HI0.out)) A3.out).mono ?_); rintro e w8 ⟨v236, rfl, ho0, hi, hb, hk⟩; refine ⟨_, rfl, ?_⟩; have HO237 := aM (Kd.R_lower (Kd.R_new' ho0 (Kd.R_lt (xR HO231.out))) (keep_size (w := w) (g := g) (row := none) (xK0 HK.out))); replace HO231 := aM (rM (Kd.R_told (Kd.R_oldK (IsS78.apart (show IsS78 w0 _ g s0_0 t233 t234 from IsS78.x0 HI0.out) (xR HO231.out) (by decide)) hk) (Kd.R_base ho0)) (fun _ h_ => h_.1)); replace HK := aM (KeepBut.trans (xK0 HK.out) hk (.inl rfl)); replace HB := aM (hb); replace HI0 := aM (hi); (try clear hb; try clear hk; try clear hi; try clear ho0)))
  go_ret2
  exact ⟨_, yF, zR (rM HO237.out (fun _ hk => trivial)), IsS78.x0 HI0.out, xG1 HB.out (IsS78.ge HI0.out), xK0 HK.out⟩
def spec_DrawIsThreshold.f (k : Nat) (l0 : List Int) : Option (Int × List Int) := (spec_l1Cur_table5.f k l0 0 0).bind fun bt241 => (some (bt241.1, bt241.2.1))
theorem spec_DrawIsThreshold.calls (k : Nat) (A0 : Option Addr) (c0 : Nat) (l0 : List Int) (r1 : Int) (r2 : List Int) (w : World) (hr0 : Kd.C (Kd.int .u8) w A0 l0.length l0) (hc0 : l0.length ≤ c0) (h : spec_DrawIsThreshold.f k l0 = some (r1, r2)) :
    Calls Try.prog 73 #[.slice A0 l0.length c0] w fun e w' => ∃ v1_ : Value, e = .returned (.tuple #[.int .i64 r1, v1_]) ∧ Kd.R (Kd.int .i64) 3 w' w.heap.size (fun _ => True) v1_ r2 ∧ Below w.heap.size w w' := by
  have hu78 := Try.underlying78
  have HR0 := aM hr0
  have HC0 := aM hc0
  clear hr0 hc0
  have HB := aM (Below.refl w.heap.size w)
  have H : ((spec_l1Cur_table5.f k l0 0 0).bind fun bt241 => (some (bt241.1, bt241.2.1))) = some (r1, r2) := h
  clear h
  replace H := oB.mp H
  obtain ⟨⟨t241, t242, t245, t246⟩, A20, H⟩ := H
  (try dsimp only at H)
  have A2 := aM A20
  clear A20
  simp only [Option.some.injEq, Prod.mk.injEq] at H
  obtain ⟨rfl, rfl⟩ := H
  go_enter Try.func73, Try.ntmps73
  go_wp2_with (first | (refine yB 7 #[.slice A0 l0.length c0, .int .i64 0, .int .u64 0] 78 ?_; intro gb240 hg w3 hbox hb; have BK240 := aM (hbox); have GW240 := yV0 hg HB; have GE240 := yV0 hg HB; replace HB := yS0 HB hb; clear hb hbox hg; have HI240 := aM (show IsS78 w _ gb240 l0 0 0 from ⟨_, _, BK240.out, (by first | exact GW240.out | exact GE240.out), HR0.out⟩); clear BK240) | (refine yL 9 Try.func83 #[.pointer (some ⟨gb240, 0, none⟩)] ?_; (with_reducible refine (spec_l1Cur_table5.calls k gb240 l0 0 0 t241 t242 t245 t246 w _ (IsS78.x0 HI240.out) (xG1 HB.out (IsS78.ge HI240.out)) A2.out).mono ?_); rintro e w4 ⟨v243, rfl, ho0, hi, hb, hk⟩; refine ⟨_, rfl, ?_⟩; have HO244 := aM (Kd.R_lower ho0 (below_size (xG1 HB.out (IsS78.ge HI240.out)))); replace HB := aM (hb); replace HI240 := aM (hi); (try clear hb; try clear hk; try clear hi; try clear ho0)))
  go_ret2
  exact ⟨_, yF, xR HO244.out, xG1 HB.out (IsS78.ge HI240.out)⟩
def spec_DrawLeastPlane.f (k : Nat) (l0 : List Int) : Option (Int × List Int) := (spec_DrawIsThreshold.f k l0).bind fun bt247 => (some (bt247.1, bt247.2))
theorem spec_DrawLeastPlane.calls (k : Nat) (A0 : Option Addr) (c0 : Nat) (l0 : List Int) (r1 : Int) (r2 : List Int) (w : World) (hr0 : Kd.C (Kd.int .u8) w A0 l0.length l0) (hc0 : l0.length ≤ c0) (h : spec_DrawLeastPlane.f k l0 = some (r1, r2)) :
    Calls Try.prog 8 #[.slice A0 l0.length c0] w fun e w' => ∃ v1_ : Value, e = .returned (.tuple #[.int .i64 r1, v1_]) ∧ Kd.R (Kd.int .i64) 3 w' w.heap.size (fun _ => True) v1_ r2 ∧ Below w.heap.size w w' := by
  have HR0 := aM hr0
  have HC0 := aM hc0
  clear hr0 hc0
  have HB := aM (Below.refl w.heap.size w)
  have H : ((spec_DrawIsThreshold.f k l0).bind fun bt247 => (some (bt247.1, bt247.2))) = some (r1, r2) := h
  clear h
  replace H := oB.mp H
  obtain ⟨⟨t247, t248⟩, A20, H⟩ := H
  (try dsimp only at H)
  have A2 := aM A20
  clear A20
  simp only [Option.some.injEq, Prod.mk.injEq] at H
  obtain ⟨rfl, rfl⟩ := H
  go_enter Try.func8, Try.ntmps8
  go_wp2_with (first | (refine yL 5 Try.func73 #[.slice A0 l0.length c0] ?_; (with_reducible refine (spec_DrawIsThreshold.calls k _ _ l0 t247 t248 _ (xC HR0.out) HC0.out A2.out).mono ?_); rintro e w3 ⟨v249, rfl, ho0, hb⟩; refine ⟨_, rfl, ?_⟩; have HO250 := aM (Kd.R_lower ho0 (below_size (xH HB.out))); replace HB := yS0 HB hb; (try clear hb; try clear ho0)))
  go_ret2
  exact ⟨_, yF, xR HO250.out, xH HB.out⟩
def impl_within.f (a0 : Int) (a1 : Int) (a2 : Int) : Option (Bool) := if a0 ≥ a1 then (some (decide (a0 ≤ a2))) else (some false)
theorem impl_within.calls (a0 : Int) (a1 : Int) (a2 : Int) (r : Bool) (w : World) (h : impl_within.f a0 a1 a2 = some r) :
    Calls Try.prog 109 #[.int .i64 a0, .int .i64 a1, .int .i64 a2] w fun e w' => e = .returned (.bool r) ∧ Drawn0 w w' := by
 have H : (if a0 ≥ a1 then (some (decide (a0 ≤ a2))) else (some false)) = some r := h
 clear h
 obtain ⟨c4, -, H⟩ | ⟨c4, -, H⟩ := yif H
 ·
  have c4b0 : decide (a1 ≤ a0) = true := decide_eq_true c4
  clear c4
  obtain rfl := Option.some.inj H
  go_enter Try.func109, Try.ntmps109
  go_wp2
  go_ret
  exact ⟨yZ, yDn⟩
 have c4b0 : decide (a1 ≤ a0) = false := decide_eq_false c4
 clear c4
 obtain rfl := Option.some.inj H
 go_enter Try.func109, Try.ntmps109
 go_wp2
 go_ret
 exact ⟨yZ, yDn⟩
end Go.Proofs.Ytmfmgnpefjmieaa.PFnThresholdTables
