-- Laid for this claim by a program of the session's own (wip/tool/myprint.py).
import Derived.Test.YtmfmgnpefjmieaaMFnThresholdTablesx4
import Derived.Test.YtmfmgnpefjmieaaMFnThresholdTablesx11
namespace Go.Proofs.Ytmfmgnpefjmieaa.PFnThresholdTables
open Go.RowKit Go.Proofs.YtmfmgnpefjmieaaW.PrintWords Go.Proofs.YtmfmgnpefjmieaaW.PrintLast Go.Proofs.YtmfmgnpefjmieaaW.PrintMore
attribute [local go_sem] max2_int min2_int max_two min_two max_three min_three max_four min_four
set_option linter.unusedVariables false
set_option maxHeartbeats 8000000
set_option maxRecDepth 100000
set_option linter.unusedSimpArgs false
mutual
def spec_DrawIsTrade.j0 : Nat → Int → List Int → Bool → List Int → Int → Int → Option (Int × List Int × List Int)
  | 0, _, _, _, _, _, _ => none
  | k + 1, x6, x7, x26, x431000, x431001, x431002 => if x26 = true then ((spec_l5Find.f k x6 x7).bind fun t441 => (if (t441.length : Int) > 0 then (some (x6, x7, t441)) else (spec_DrawIsTrade.j1 k x6 x7 x431000 x431001 x431002))) else (spec_DrawIsTrade.j1 k x6 x7 x431000 x431001 x431002)
def spec_DrawIsTrade.j1 : Nat → Int → List Int → List Int → Int → Int → Option (Int × List Int × List Int)
  | 0, _, _, _, _, _ => none
  | k + 1, x6, x7, x431000, x431001, x431002 => spec_DrawIsTrade.l0 k x6 x7 (([] : List Int)) 0 x431000 x431001 x431002
def spec_DrawIsTrade.l0 : Nat → Int → List Int → List Int → Int → List Int → Int → Int → Option (Int × List Int × List Int)
  | 0, _, _, _, _, _, _, _ => none
  | k + 1, x6, x7, x9, x10, x431000, x431001, x431002 => if x10 < 4 then ((spec_l1Most.f 1 (x7.length : Int)).bind fun t447 => ((spec_l1Cur_pick.f x431000 x431001 x431002 t447).bind fun bt448 => (if x9.length < 17592186044416 then (spec_DrawIsTrade.l0 k x6 x7 (x9 ++ [bt448.1]) (wrap64 (x10 + 1)) x431000 bt448.2.1 bt448.2.2) else (none)))) else ((spec_l1Cur_one.f x431000 x431001 x431002 16).bind fun bt454 => (if bt454.1 = true then ((spec_l1Cur_among.f x431000 bt454.2.1 bt454.2.2 (([(-1), 0, 16] : List Int))).bind fun bt460 => (if x9.length < 17592186044416 then (some (x6, x7, (x9 ++ [bt460.1]))) else (none))) else (some (x6, x7, x9))))
end
def spec_DrawIsTrade.f (k : Nat) (l0 : List Int) : Option (Int × List Int × List Int) := (spec_l1Cur_table5.f k l0 0 0).bind fun bt431 => ((spec_l2Table.f k bt431.1 bt431.2.1).bind fun t437 => (if t437 = true then ((spec_l1Cur_one.f l0 bt431.2.2.1 bt431.2.2.2 3).bind fun bt438 => (spec_DrawIsTrade.j0 k bt431.1 bt431.2.1 (!bt438.1) l0 bt438.2.1 bt438.2.2)) else (spec_DrawIsTrade.j0 k bt431.1 bt431.2.1 false l0 bt431.2.2.1 bt431.2.2.2)))
theorem spec_DrawIsTrade.calls (k : Nat) (A0 : Option Addr) (c0 : Nat) (l0 : List Int) (r1 : Int) (r2 : List Int) (r3 : List Int) (w : World) (hr0 : Kd.C (Kd.int .u8) w A0 l0.length l0) (hc0 : l0.length ≤ c0) (h : spec_DrawIsTrade.f k l0 = some (r1, r2, r3)) :
    Calls Try.prog 17 #[.slice A0 l0.length c0] w fun e w' => ∃ v1_ v2_ : Value, e = .returned (.tuple #[.int .i64 r1, v1_, v2_]) ∧ Kd.R (Kd.int .i64) 3 w' w.heap.size (fun k_ => some k_ ≠ (v2_ : Value).ownBlock) v1_ r2 ∧ Kd.R (Kd.int .i64) 3 w' w.heap.size (fun k_ => some k_ ≠ (v1_ : Value).ownBlock) v2_ r3 ∧ Below w.heap.size w w' := by
 have hu78 := Try.underlying78
 have HR0 := aM hr0
 have HC0 := aM hc0
 clear hr0 hc0
 have HB := aM (Below.refl w.heap.size w)
 have H : ((spec_l1Cur_table5.f k l0 0 0).bind fun bt431 => ((spec_l2Table.f k bt431.1 bt431.2.1).bind fun t437 => (if t437 = true then ((spec_l1Cur_one.f l0 bt431.2.2.1 bt431.2.2.2 3).bind fun bt438 => (spec_DrawIsTrade.j0 k bt431.1 bt431.2.1 (!bt438.1) l0 bt438.2.1 bt438.2.2)) else (spec_DrawIsTrade.j0 k bt431.1 bt431.2.1 false l0 bt431.2.2.1 bt431.2.2.2)))) = some (r1, r2, r3) := h
 clear h
 replace H := oB.mp H
 obtain ⟨⟨t431, t432, t435, t436⟩, A20, H⟩ := H
 (try dsimp only at H)
 have A2 := aM A20
 clear A20
 have HC3 := aM H
 clear H
 go_enter Try.func17, Try.ntmps17
 go_upto_region 3 with (first | (refine yB 13 #[.slice A0 l0.length c0, .int .i64 0, .int .u64 0] 78 ?_; intro gb430 hg w4 hbox hb; have BK430 := aM (hbox); have GW430 := yV0 hg HB; have GE430 := yV0 hg HB; replace HB := yS0 HB hb; clear hb hbox hg; have HI430 := aM (show IsS78 w _ gb430 l0 0 0 from ⟨_, _, BK430.out, (by first | exact GW430.out | exact GE430.out), HR0.out⟩); clear BK430) | (refine yL 16 Try.func83 #[.pointer (some ⟨gb430, 0, none⟩)] ?_; (with_reducible refine (spec_l1Cur_table5.calls k gb430 l0 0 0 t431 t432 t435 t436 w _ (IsS78.x0 HI430.out) (xG1 HB.out (IsS78.ge HI430.out)) A2.out).mono ?_); rintro e w5 ⟨v433, rfl, ho0, hi, hb, hk⟩; refine ⟨_, rfl, ?_⟩; have HO434 := aM (Kd.R_lower ho0 (below_size (xG1 HB.out (IsS78.ge HI430.out)))); replace HB := aM (hb); replace HI430 := aM (hi); (try clear hb; try clear hk; try clear hi; try clear ho0)))
 (try simp only [Act.put, sA, sZ, sU])
 go_cut [26] (fun v26 wc => ∃ (kq : Nat) (x26_2 : Bool) (x431001_2 : Int) (x431002_2 : Int), v26 = .bool x26_2 ∧ Aside0 (spec_DrawIsTrade.j0 kq t431 t432 x26_2 l0 x431001_2 x431002_2 = some (r1, r2, r3)) ∧ Aside0 (kq ≤ k) ∧ Aside0 (Kd.R (Kd.int .i64) 3 wc w.heap.size (fun _ => True) v433 t432) ∧ Aside0 (IsS78 w wc gb430 l0 x431001_2 x431002_2) ∧ Aside0 (Below w.heap.size w wc))
 case first =>
  have H := HC3.out
  clear HC3
  replace H := oB.mp H
  obtain ⟨t437, A60, H⟩ := H
  have A6 := aM A60
  clear A60
  by_cases c7 : t437 = true
  rotate_left
  ·
   replace c7 := Bool.eq_false_iff.mpr c7
   subst c7
   rw [if_neg (show ¬ (false = true) by decide)] at H
   have H' := aM H
   clear H
   obtain ⟨Ao11, co11, eo11⟩ := Kd.R_slice HO434.out
   subst eo11
   go_wp2_with (first | (refine yL 21 Try.func76 #[.int .i64 t431, .slice Ao11 t432.length co11] ?_; (with_reducible refine (spec_l2Table.calls k t431 _ _ t432 false _ (xC (Kd.R_reads' HO434.out).2.2) ((Kd.R_reads' HO434.out).2.1) A6.out).mono ?_); rintro e w' ⟨rfl, ⟨nd, rfl⟩⟩; refine ⟨_, rfl, ?_⟩))
   go_meet
   case rel => exact ⟨_, (false), (t435), (t436), yZ, H', ⟨yM⟩, ⟨xR HO434.out⟩, ⟨IsS78.x0 HI430.out⟩, ⟨xG1 HB.out (IsS78.ge HI430.out)⟩⟩
  subst c7
  rw [if_pos rfl] at H
  replace H := oB.mp H
  obtain ⟨⟨t438, t439, t440⟩, A80, H⟩ := H
  (try dsimp only at H)
  have A8 := aM A80
  clear A80
  have H' := aM H
  clear H
  obtain ⟨Ao9, co9, eo9⟩ := Kd.R_slice HO434.out
  subst eo9
  go_wp2_with (first | (refine yL 21 Try.func76 #[.int .i64 t431, .slice Ao9 t432.length co9] ?_; (with_reducible refine (spec_l2Table.calls k t431 _ _ t432 true _ (xC (Kd.R_reads' HO434.out).2.2) ((Kd.R_reads' HO434.out).2.1) A6.out).mono ?_); rintro e w' ⟨rfl, ⟨nd, rfl⟩⟩; refine ⟨_, rfl, ?_⟩) | (go_at_call 84; (with_reducible refine (spec_l1Cur_one.calls gb430 l0 t435 t436 3 t438 t439 t440 w _ (IsS78.x0 HI430.out) (xG1 HB.out (IsS78.ge HI430.out)) A8.out).mono ?_); rintro e w10 ⟨rfl, hi, hb, hk⟩; replace HO434 := aM (rM (Kd.R_keep (IsS78.apart (show IsS78 w _ gb430 l0 t435 t436 from IsS78.x0 HI430.out) (xR HO434.out) (by decide)) hk (fun _ h => h.2)) (fun _ h => h.1)); replace HB := aM (hb); replace HI430 := aM (hi); (try clear hb; try clear hk; try clear hi)))
  go_meet
  case rel => exact ⟨_, (!t438), (t439), (t440), yZ, H', ⟨yM⟩, ⟨xR HO434.out⟩, ⟨IsS78.x0 HI430.out⟩, ⟨xG1 HB.out (IsS78.ge HI430.out)⟩⟩
 case rest =>
  clear HC3
  try clear c7
  obtain ⟨kq, x26_2, x431001_2, x431002_2, rfl, HA, HJ2, HO_7, HI430, HB⟩ := hcut
  cases kq with
  | zero => exact absurd HA.out (by simp [spec_DrawIsTrade.j0])
  | succ kj2 =>
   have H := HA.out
   clear HA
   simp only [spec_DrawIsTrade.j0] at H
   have HC12 := aM H
   clear H
   go_upto_if 26 with (fail)
   go_cut [] (fun wc => ∃ (kq : Nat), Aside0 (spec_DrawIsTrade.j1 kq t431 t432 l0 x431001_2 x431002_2 = some (r1, r2, r3)) ∧ Aside0 (kq ≤ kj2) ∧ Aside0 (Kd.R (Kd.int .i64) 3 wc w.heap.size (fun _ => True) v433 t432) ∧ Aside0 (IsS78 w wc gb430 l0 x431001_2 x431002_2) ∧ Aside0 (Below w.heap.size w wc))
   case first =>
    have H := HC12.out
    clear HC12
    by_cases c13 : x26_2 = true
    rotate_left
    ·
     replace c13 := Bool.eq_false_iff.mpr c13
     subst c13
     rw [if_neg (show ¬ (false = true) by decide)] at H
     have H' := aM H
     clear H
     go_wp2
     go_meet
     case rel => exact ⟨_, H', ⟨by have := HJ2.out; first | omega | exact Nat.le_refl _⟩, ⟨xR HO_7.out⟩, ⟨IsS78.x0 HI430.out⟩, ⟨xG1 HB.out (IsS78.ge HI430.out)⟩⟩
    subst c13
    rw [if_pos rfl] at H
    replace H := oB.mp H
    obtain ⟨t441, A140, H⟩ := H
    have A14 := aM A140
    clear A140
    obtain ⟨c15, -, H⟩ | ⟨c15, -, H⟩ := yif H
    rotate_left
    ·
     have c15b0 : decide (0 < (t441.length : Int)) = false := decide_eq_false c15
     have c15b1 : decide (0 < t441.length) = false := decide_eq_false (by omega)
     clear c15
     (first | rw [c15b0] | (simp only [i64_w, i32_w]; rw [c15b0]) | rw [c15b1] | skip)
     have H' := aM H
     clear H
     obtain ⟨Ao19, co19, eo19⟩ := Kd.R_slice HO_7.out
     subst eo19
     go_wp2_with (first | (refine yL 29 Try.func82 #[.int .i64 t431, .slice Ao19 t432.length co19] ?_; (with_reducible refine (spec_l5Find.calls kj2 t431 _ _ t432 t441 _ (xC (Kd.R_reads' HO_7.out).2.2) ((Kd.R_reads' HO_7.out).2.1) A14.out).mono ?_); rintro e w20 ⟨v442, rfl, ho0, hb⟩; refine ⟨_, rfl, ?_⟩; have HO443 := aM (Kd.R_lower (Kd.R_new' ho0 (Kd.R_lt (xR HO_7.out))) (below_size (xG1 HB.out (IsS78.ge HI430.out)))); replace HO_7 := aM (Kd.R_elder' (xR HO_7.out) (Kd.R_base ho0) hb); replace HB := aM (below_step (xG1 HB.out (IsS78.ge HI430.out)) hb); replace HI430 := aM (IsS78.below (IsS78.x0 HI430.out) hb); (try clear hb; try clear ho0); obtain ⟨Ao21, co21, eo21⟩ := Kd.R_slice HO443.out; subst eo21))
     go_meet
     case rel => exact ⟨_, H', ⟨by have := HJ2.out; first | omega | exact Nat.le_refl _⟩, ⟨zR (rM HO_7.out (fun _ hk => trivial))⟩, ⟨IsS78.x0 HI430.out⟩, ⟨xG1 HB.out (IsS78.ge HI430.out)⟩⟩
    have c15b0 : decide (0 < (t441.length : Int)) = true := decide_eq_true c15
    have c15b1 : decide (0 < t441.length) = true := decide_eq_true (by omega)
    clear c15
    (first | rw [c15b0] | (simp only [i64_w, i32_w]; rw [c15b0]) | rw [c15b1] | skip)
    simp only [Option.some.injEq, Prod.mk.injEq] at H
    obtain ⟨rfl, rfl, rfl⟩ := H
    obtain ⟨Ao16, co16, eo16⟩ := Kd.R_slice HO_7.out
    subst eo16
    go_wp2_with (first | (refine yL 29 Try.func82 #[.int .i64 t431, .slice Ao16 t432.length co16] ?_; (with_reducible refine (spec_l5Find.calls kj2 t431 _ _ t432 t441 _ (xC (Kd.R_reads' HO_7.out).2.2) ((Kd.R_reads' HO_7.out).2.1) A14.out).mono ?_); rintro e w17 ⟨v442, rfl, ho0, hb⟩; refine ⟨_, rfl, ?_⟩; have HO443 := aM (Kd.R_lower (Kd.R_new' ho0 (Kd.R_lt (xR HO_7.out))) (below_size (xG1 HB.out (IsS78.ge HI430.out)))); replace HO_7 := aM (Kd.R_elder' (xR HO_7.out) (Kd.R_base ho0) hb); replace HB := aM (below_step (xG1 HB.out (IsS78.ge HI430.out)) hb); replace HI430 := aM (IsS78.below (IsS78.x0 HI430.out) hb); (try clear hb; try clear ho0); obtain ⟨Ao18, co18, eo18⟩ := Kd.R_slice HO443.out; subst eo18))
    go_ret3
    exact ⟨_, _, yF, zR (rM HO_7.out (fun _ hk => hk.2)), zR (rM HO443.out (fun _ hk => by first | exact hk.2 | exact trivial)), xG1 HB.out (IsS78.ge HI430.out)⟩
   case rest =>
    clear HC12
    try clear c13
    try clear c15
    try clear c15b0
    try clear c15b1
    obtain ⟨kq, HA, HJ11, HO_7, HI430, HB⟩ := hcut
    cases kq with
    | zero => exact absurd HA.out (by simp [spec_DrawIsTrade.j1])
    | succ kj11 =>
     have H := HA.out
     clear HA
     simp only [spec_DrawIsTrade.j1] at H
     obtain ⟨y444, hy444⟩ := yE (([] : List Int) : List Int)
     replace H : (spec_DrawIsTrade.l0 kj11 t431 t432 y444 0 l0 x431001_2 x431002_2) = some (r1, r2, r3) := yI hy444 H
     have Ny444 := aM hy444
     clear hy444
     have H' := aM H
     clear H
     go_wp2_with (first | ((with_reducible refine gate_dst (N := 36) rfl ?_); refine Kd.R_lit (Kd.int .i64) _ 3 ?hg (N := 36) ?hd (xs := ([] : List Int)) (inner := []) (ok := fun _ => True) (okp := fun _ => True) ?hr ?hp (fun _ hk => hk) trivial (Below.refl _ _) (Nat.le_refl _) (by simp) ?_; (case hd => rfl); (case hg => rfl); (case hr => first | (go_simp; done) | (go_simp; rfl)); (case hp => exact (Reps.none _ _)); intro v445 w22 ho23 hb hg_ hnew_; clear hg_ hnew_; (first | rw [← Ny444.out] at ho23 | (simp only [Int.reduceToNat] at ho23; rw [← Ny444.out] at ho23)); have HO446 := aM (Kd.R_lower (Kd.R_new' ho23 (Kd.R_lt (xR HO_7.out))) (below_size (xG1 HB.out (IsS78.ge HI430.out)))); replace HO_7 := aM (Kd.R_elder' (xR HO_7.out) (Kd.R_base ho23) hb); replace HB := aM (below_step (xG1 HB.out (IsS78.ge HI430.out)) hb); replace HI430 := aM (IsS78.below (IsS78.x0 HI430.out) hb); clear hb ho23))
     go_loopg [9, 10] kj11 (fun kq v9 v10 w' => ∃ (x9_3 : List Int) (x10_3 : Int) (x431001_3 : Int) (x431002_3 : Int), v10 = .int .i64 x10_3 ∧ Aside0 (spec_DrawIsTrade.l0 kq t431 t432 x9_3 x10_3 l0 x431001_3 x431002_3 = some (r1, r2, r3)) ∧ Aside0 (kq ≤ kj11) ∧ Aside0 (Kd.R (Kd.int .i64) 3 w' w.heap.size (fun k_ => some k_ ≠ (v9 : Value).ownBlock) v433 t432) ∧ Aside0 (Kd.R (Kd.int .i64) 3 w' w.heap.size (fun k_ => some k_ ≠ (v433 : Value).ownBlock) v9 x9_3) ∧ Aside0 (IsS78 w w' gb430 l0 x431001_3 x431002_3) ∧ Aside0 (Below w.heap.size w w'))
     case atStart => exact ⟨(y444), (0), (x431001_2), (x431002_2), yZ, H', ⟨Nat.le_refl _⟩, ⟨zR (rM HO_7.out (fun _ hk => hk.2))⟩, ⟨zR (rM HO446.out (fun _ hk => by first | exact hk.2 | exact trivial))⟩, ⟨IsS78.x0 HI430.out⟩, ⟨xG1 HB.out (IsS78.ge HI430.out)⟩⟩
     case round =>
      clear H'
      obtain ⟨x9_3, x10_3, x431001_3, x431002_3, rfl, HA, HK3, HO_7, HO_9, HI430, HB⟩ := hrel
      cases gk with
      | zero => exact absurd HA.out (by simp [spec_DrawIsTrade.l0])
      | succ k3 =>
       have H := HA.out
       clear HA
       simp only [spec_DrawIsTrade.l0] at H
       obtain ⟨-, c24b0, H⟩ | ⟨-, c24b0, H⟩ := yif H
       ·
        replace H := oB.mp H
        obtain ⟨t447, A250, H⟩ := H
        have A25 := aM A250
        clear A250
        replace H := oB.mp H
        obtain ⟨⟨t448, t449, t450⟩, A260, H⟩ := H
        (try dsimp only at H)
        have A26 := aM A260
        clear A260
        obtain ⟨c27, -, H⟩ | ⟨c27, -, H⟩ := yif H
        rotate_left
        · exact absurd H (by simp)
        have LMc27 := aM c27
        clear c27
        obtain ⟨y451, hy451⟩ := yE (x9_3 ++ [t448] : List Int)
        replace H : (spec_DrawIsTrade.l0 k3 t431 t432 y451 (wrap64 (x10_3 + 1)) l0 t449 t450) = some (r1, r2, r3) := yI hy451 H
        have Ny451 := aM hy451
        clear hy451
        have H' := aM H
        clear H
        obtain ⟨Ao28, co28, eo28⟩ := Kd.R_slice HO_7.out
        subst eo28
        go_wp2_with (first | (refine yL 45 Try.func86 #[.int .i64 1, .int .i64 (t432.length : Int)] ?_; (with_reducible refine (spec_l1Most.calls 1 (t432.length : Int) t447 _ A25.out).mono ?_); rintro e w' ⟨rfl, ⟨nd, rfl⟩⟩; refine ⟨_, rfl, ?_⟩) | (refine yL 46 Try.func85 #[.pointer (some ⟨gb430, 0, none⟩), .int .i64 t447] ?_; (with_reducible refine (spec_l1Cur_pick.calls gb430 l0 x431001_3 x431002_3 t447 t448 t449 t450 w _ (IsS78.x0 HI430.out) (xG1 HB.out (IsS78.ge HI430.out)) A26.out).mono ?_); rintro e w29 ⟨rfl, hi, hb, hk⟩; refine ⟨_, rfl, ?_⟩; replace HO_7 := aM (rM (Kd.R_keep (IsS78.apart (show IsS78 w _ gb430 l0 x431001_3 x431002_3 from IsS78.x0 HI430.out) (xR HO_7.out) (by decide)) hk (fun _ h => h.2)) (fun _ h => h.1)); replace HO_9 := aM (rM (Kd.R_keep (IsS78.apart (show IsS78 w _ gb430 l0 x431001_3 x431002_3 from IsS78.x0 HI430.out) (xR HO_9.out) (by decide)) hk (fun _ h => h.2)) (fun _ h => h.1)); replace HB := aM (hb); replace HI430 := aM (hi); (try clear hb; try clear hk; try clear hi)) | ((with_reducible refine gate_builtin (b := .append) (xs := #[.tmp 41, .tmp 47]) rfl ?_); at_builtin; refine Kd.R_append (Kd.int .i64) (w0 := w) w.heap.size rfl (.tmp 41) (.tmp 47) 24 3 (.int .i64 0) 8 rfl Try.underlying24 info3 rfl (by decide) (by omega) u9 x9_3 t448 [.int .i64 t448] (fun k_ => some k_ ≠ (.slice Ao28 t432.length co28 : Value).ownBlock) (fun _ => False) rfl rfl ?aP (fun _ hk => hk.elim) ?aF ?aO ?aB ?aS ?aL ?_; (case aP => exact rfl); (case aB => exact (xG1 HB.out (IsS78.ge HI430.out))); (case aF => exact (fun k_ hk => Kd.fresh' (Kd.R_lt (xR HO_7.out)) k_ hk)); (case aO => exact (xR HO_9.out)); (case aS => exact (below_size (xG1 HB.out (IsS78.ge HI430.out)))); (case aL => have := LMc27.out; omega); intro v452 w30 ho hb hg hat; rw [← Ny451.out] at ho; replace HO_7 := aM (Kd.R_after (ok := (fun _ => True)) (zR (rM HO_7.out (fun _ hk => ⟨trivial, hk⟩))) hg hat); replace HI430 := aM (IsS78.grown (IsS78.x0 HI430.out) hg (IsS78.own_ne HI430.out HO_9.out (by decide))); replace HB := aM (hb); have HO453 := aM (ho); clear HO_9; clear ho hb hg hat))
        go_roundg k3
        case measure => have := HJ2.out; have := HJ11.out; have := HK3.out; omega
        case rel => exact ⟨(y451), (wrap64 (x10_3 + 1)), (t449), (t450), yZ, H', ⟨by have := HJ2.out; have := HJ11.out; have := HK3.out; omega⟩, ⟨zR (rM HO_7.out (fun _ hk => hk.2))⟩, ⟨xR HO453.out⟩, ⟨IsS78.x0 HI430.out⟩, ⟨xG1 HB.out (IsS78.ge HI430.out)⟩⟩
       replace H := oB.mp H
       obtain ⟨⟨t454, t455, t456⟩, A310, H⟩ := H
       (try dsimp only at H)
       have A31 := aM A310
       clear A310
       by_cases c32 : t454 = true
       rotate_left
       ·
        replace c32 := Bool.eq_false_iff.mpr c32
        subst c32
        rw [if_neg (show ¬ (false = true) by decide)] at H
        simp only [Option.some.injEq, Prod.mk.injEq] at H
        obtain ⟨rfl, rfl, rfl⟩ := H
        go_wp2_with (first | (refine yL 50 Try.func84 #[.pointer (some ⟨gb430, 0, none⟩), .int .i64 16] ?_; (with_reducible refine (spec_l1Cur_one.calls gb430 l0 x431001_3 x431002_3 16 false t455 t456 w _ (IsS78.x0 HI430.out) (xG1 HB.out (IsS78.ge HI430.out)) A31.out).mono ?_); rintro e w41 ⟨rfl, hi, hb, hk⟩; refine ⟨_, rfl, ?_⟩; replace HO_7 := aM (rM (Kd.R_keep (IsS78.apart (show IsS78 w _ gb430 l0 x431001_3 x431002_3 from IsS78.x0 HI430.out) (xR HO_7.out) (by decide)) hk (fun _ h => h.2)) (fun _ h => h.1)); replace HO_9 := aM (rM (Kd.R_keep (IsS78.apart (show IsS78 w _ gb430 l0 x431001_3 x431002_3 from IsS78.x0 HI430.out) (xR HO_9.out) (by decide)) hk (fun _ h => h.2)) (fun _ h => h.1)); replace HB := aM (hb); replace HI430 := aM (hi); (try clear hb; try clear hk; try clear hi)))
        go_ret3
        exact ⟨_, _, yF, xR HO_7.out, xR HO_9.out, xG1 HB.out (IsS78.ge HI430.out)⟩
       subst c32
       rw [if_pos rfl] at H
       obtain ⟨y457, hy457⟩ := yE (([(-1), 0, 16] : List Int) : List Int)
       replace H : ((spec_l1Cur_among.f l0 t455 t456 y457).bind fun bt460 => (if x9_3.length < 17592186044416 then (some (t431, t432, (x9_3 ++ [bt460.1]))) else (none))) = some (r1, r2, r3) := yI hy457 H
       have Ny457 := aM hy457
       clear hy457
       replace H := oB.mp H
       obtain ⟨⟨t460, t461, t462⟩, A330, H⟩ := H
       (try dsimp only at H)
       have A33 := aM A330
       clear A330
       obtain ⟨c34, -, H⟩ | ⟨c34, -, H⟩ := yif H
       rotate_left
       · exact absurd H (by simp)
       have LMc34 := aM c34
       clear c34
       obtain ⟨y463, hy463⟩ := yE (x9_3 ++ [t460] : List Int)
       replace H : (some (t431, t432, y463)) = some (r1, r2, r3) := yI hy463 H
       have Ny463 := aM hy463
       clear hy463
       simp only [Option.some.injEq, Prod.mk.injEq] at H
       obtain ⟨rfl, rfl, rfl⟩ := H
       go_wp2_with (first | (refine yL 50 Try.func84 #[.pointer (some ⟨gb430, 0, none⟩), .int .i64 16] ?_; (with_reducible refine (spec_l1Cur_one.calls gb430 l0 x431001_3 x431002_3 16 true t455 t456 w _ (IsS78.x0 HI430.out) (xG1 HB.out (IsS78.ge HI430.out)) A31.out).mono ?_); rintro e w35 ⟨rfl, hi, hb, hk⟩; refine ⟨_, rfl, ?_⟩; replace HO_7 := aM (rM (Kd.R_keep (IsS78.apart (show IsS78 w _ gb430 l0 x431001_3 x431002_3 from IsS78.x0 HI430.out) (xR HO_7.out) (by decide)) hk (fun _ h => h.2)) (fun _ h => h.1)); replace HO_9 := aM (rM (Kd.R_keep (IsS78.apart (show IsS78 w _ gb430 l0 x431001_3 x431002_3 from IsS78.x0 HI430.out) (xR HO_9.out) (by decide)) hk (fun _ h => h.2)) (fun _ h => h.1)); replace HB := aM (hb); replace HI430 := aM (hi); (try clear hb; try clear hk; try clear hi)) | ((with_reducible refine gate_dst (N := 53) rfl ?_); refine Kd.R_lit (Kd.int .i64) _ 3 ?hg (N := 53) ?hd (xs := ([(-1), 0, 16] : List Int)) (inner := [.int .i64 (-1), .int .i64 0, .int .i64 16]) (ok := fun _ => True) (okp := fun _ => True) ?hr ?hp (fun _ hk => hk) trivial (Below.refl _ _) (Nat.le_refl _) (by simp) ?_; (case hd => rfl); (case hg => rfl); (case hr => first | (go_simp; done) | (go_simp; rfl)); (case hp => exact (Reps.one (show Kd.M (Kd.int .i64) _ _ _ (-1) [.int .i64 (-1)] from rfl) (Reps.one (show Kd.M (Kd.int .i64) _ _ _ 0 [.int .i64 0] from rfl) (Reps.one (show Kd.M (Kd.int .i64) _ _ _ 16 [.int .i64 16] from rfl) (Reps.none _ _))))); intro v458 w36 ho37 hb hg_ hnew_; clear hg_ hnew_; (first | rw [← Ny457.out] at ho37 | (simp only [Int.reduceToNat] at ho37; rw [← Ny457.out] at ho37)); have HO459 := aM (Kd.R_lower (Kd.R_new' (Kd.R_new' ho37 (Kd.R_lt (xR HO_7.out))) (Kd.R_lt (xR HO_9.out))) (below_size (xG1 HB.out (IsS78.ge HI430.out)))); replace HO_7 := aM (Kd.R_elder' (xR HO_7.out) (Kd.R_base ho37) hb); replace HO_9 := aM (Kd.R_elder' (xR HO_9.out) (Kd.R_base ho37) hb); replace HB := aM (below_step (xG1 HB.out (IsS78.ge HI430.out)) hb); replace HI430 := aM (IsS78.below (IsS78.x0 HI430.out) hb); clear hb ho37; obtain ⟨Ao38, co38, eo38⟩ := Kd.R_slice HO459.out; subst eo38) | (refine yL 54 Try.func87 #[.pointer (some ⟨gb430, 0, none⟩), .slice Ao38 y457.length co38] ?_; (with_reducible refine (spec_l1Cur_among.calls gb430 l0 t455 t456 _ _ y457 t460 t461 t462 w _ (IsS78.x0 HI430.out) (xG1 HB.out (IsS78.ge HI430.out)) (xC (Kd.R_reads' HO459.out).2.2) ((Kd.R_reads' HO459.out).2.1) (far_slice (IsS78.own_ne HI430.out HO459.out (by decide))) A33.out).mono ?_); rintro e w39 ⟨rfl, hi, hb, hk⟩; refine ⟨_, rfl, ?_⟩; replace HO_7 := aM (rM (Kd.R_keep (IsS78.apart (show IsS78 w _ gb430 l0 t455 t456 from IsS78.x0 HI430.out) (xR HO_7.out) (by decide)) hk (fun _ h => h.2)) (fun _ h => h.1)); replace HO_9 := aM (rM (Kd.R_keep (IsS78.apart (show IsS78 w _ gb430 l0 t455 t456 from IsS78.x0 HI430.out) (xR HO_9.out) (by decide)) hk (fun _ h => h.2)) (fun _ h => h.1)); replace HO459 := aM (rM (Kd.R_keep (IsS78.apart (show IsS78 w _ gb430 l0 t455 t456 from IsS78.x0 HI430.out) (xR HO459.out) (by decide)) hk (fun _ h => h.2)) (fun _ h => h.1)); replace HB := aM (hb); replace HI430 := aM (hi); (try clear hb; try clear hk; try clear hi)) | ((with_reducible refine gate_builtin (b := .append) (xs := #[.tmp 51, .tmp 55]) rfl ?_); at_builtin; refine Kd.R_append (Kd.int .i64) (w0 := w) w.heap.size rfl (.tmp 51) (.tmp 55) 24 3 (.int .i64 0) 8 rfl Try.underlying24 info3 rfl (by decide) (by omega) u9 x9_3 t460 [.int .i64 t460] (fun k_ => some k_ ≠ (v433 : Value).ownBlock ∧ some k_ ≠ (.slice Ao38 y457.length co38 : Value).ownBlock) (fun _ => False) rfl rfl ?aP (fun _ hk => hk.elim) ?aF ?aO ?aB ?aS ?aL ?_; (case aP => exact rfl); (case aB => exact (xG1 HB.out (IsS78.ge HI430.out))); (case aF => exact (fun k_ hk => ⟨Kd.fresh' (Kd.R_lt (xR HO_7.out)) k_ hk, Kd.fresh' (Kd.R_lt (xR HO459.out)) k_ hk⟩)); (case aO => exact (xR HO_9.out)); (case aS => exact (below_size (xG1 HB.out (IsS78.ge HI430.out)))); (case aL => have := LMc34.out; omega); intro v464 w40 ho hb hg hat; rw [← Ny463.out] at ho; replace HO_7 := aM (Kd.R_after (ok := (fun k_ => some k_ ≠ (.slice Ao38 y457.length co38 : Value).ownBlock)) (zR (rM HO_7.out (fun _ hk => ⟨hk.2, hk.1⟩))) hg hat); replace HI430 := aM (IsS78.grown (IsS78.x0 HI430.out) hg (IsS78.own_ne HI430.out HO_9.out (by decide))); replace HO459 := aM (Kd.R_after (ok := (fun k_ => some k_ ≠ (v433 : Value).ownBlock)) (zR (rM HO459.out (fun _ hk => ⟨hk.1.2, hk.2⟩))) hg hat); replace HB := aM (hb); have HO465 := aM (ho); clear HO_9; clear ho hb hg hat))
       go_ret3
       exact ⟨_, _, yF, zR (rM HO_7.out (fun _ hk => hk.2)), zR (rM HO465.out (fun _ hk => hk.1)), xG1 HB.out (IsS78.ge HI430.out)⟩
def laws_vCut.f (l0 : List Int) (a1 : Int) : Option (List Int) := if a1 > (l0.length : Int) then ((some (([] : List Int) : List Int)).bind fun y466 => (if 0 ≤ (l0.length : Int) then (if (l0.length : Int) ≤ (l0.length : Int) then (if y466.length + (l0.drop ((l0.length : Int) : Int).toNat).length < 140737488355328 then ((some (y466 ++ (l0.drop ((l0.length : Int) : Int).toNat) : List Int)).bind fun y470 => (if y470.length < 140737488355328 then (some (y470 ++ [((l0.length : Int)) % 256])) else (none))) else (none)) else (none)) else (none))) else ((some (([] : List Int) : List Int)).bind fun y476 => (if 0 ≤ a1 then (if a1 ≤ (l0.length : Int) then (if y476.length + (l0.drop (a1 : Int).toNat).length < 140737488355328 then ((some (y476 ++ (l0.drop (a1 : Int).toNat) : List Int)).bind fun y480 => (if y480.length < 140737488355328 then (some (y480 ++ [(a1) % 256])) else (none))) else (none)) else (none)) else (none)))
theorem laws_vCut.calls (A0 : Option Addr) (c0 : Nat) (l0 : List Int) (a1 : Int) (r : List Int) (w : World) (hr0 : Kd.C (Kd.int .u8) w A0 l0.length l0) (hc0 : l0.length ≤ c0) (h : laws_vCut.f l0 a1 = some r) :
    Calls Try.prog 18 #[.slice A0 l0.length c0, .int .i64 a1] w fun e w' => ∃ v0_ : Value, e = .returned (v0_) ∧ Kd.R (Kd.int .u8) 5 w' w.heap.size (fun _ => True) v0_ r ∧ Below w.heap.size w w' := by
 have HR0 := aM hr0
 have HC0 := aM hc0
 clear hr0 hc0
 have HB := aM (Below.refl w.heap.size w)
 have H : (if a1 > (l0.length : Int) then ((some (([] : List Int) : List Int)).bind fun y466 => (if 0 ≤ (l0.length : Int) then (if (l0.length : Int) ≤ (l0.length : Int) then (if y466.length + (l0.drop ((l0.length : Int) : Int).toNat).length < 140737488355328 then ((some (y466 ++ (l0.drop ((l0.length : Int) : Int).toNat) : List Int)).bind fun y470 => (if y470.length < 140737488355328 then (some (y470 ++ [((l0.length : Int)) % 256])) else (none))) else (none)) else (none)) else (none))) else ((some (([] : List Int) : List Int)).bind fun y476 => (if 0 ≤ a1 then (if a1 ≤ (l0.length : Int) then (if y476.length + (l0.drop (a1 : Int).toNat).length < 140737488355328 then ((some (y476 ++ (l0.drop (a1 : Int).toNat) : List Int)).bind fun y480 => (if y480.length < 140737488355328 then (some (y480 ++ [(a1) % 256])) else (none))) else (none)) else (none)) else (none)))) = some r := h
 clear h
 obtain ⟨c3, -, H⟩ | ⟨c3, -, H⟩ := yif H
 rotate_left
 ·
  have c3b0 : decide ((l0.length : Int) < a1) = false := decide_eq_false c3
  clear c3
  obtain ⟨y476, hy476⟩ := yE (([] : List Int) : List Int)
  replace H : (if 0 ≤ a1 then (if a1 ≤ (l0.length : Int) then (if y476.length + (l0.drop (a1 : Int).toNat).length < 140737488355328 then ((some (y476 ++ (l0.drop (a1 : Int).toNat) : List Int)).bind fun y480 => (if y480.length < 140737488355328 then (some (y480 ++ [(a1) % 256])) else (none))) else (none)) else (none)) else (none)) = some r := yI hy476 H
  have Ny476 := aM hy476
  clear hy476
  obtain ⟨c13, -, H⟩ | ⟨c13, -, H⟩ := yif H
  rotate_left
  · exact absurd H (by simp)
  have c13b0 := eq_true c13
  have c13b1 : decide (0 ≤ a1) = true := decide_eq_true c13
  clear c13
  obtain ⟨c14, -, H⟩ | ⟨c14, -, H⟩ := yif H
  rotate_left
  · exact absurd H (by simp)
  have c14b0 := eq_true c14
  have c14b1 : decide (a1 ≤ (l0.length : Int)) = true := decide_eq_true c14
  clear c14
  obtain ⟨c15, -, H⟩ | ⟨c15, -, H⟩ := yif H
  rotate_left
  · exact absurd H (by simp)
  have LMc15 := aM c15
  clear c15
  obtain ⟨y480, hy480⟩ := yE (y476 ++ (l0.drop (a1 : Int).toNat) : List Int)
  replace H : (if y480.length < 140737488355328 then (some (y480 ++ [(a1) % 256])) else (none)) = some r := yI hy480 H
  have Ny480 := aM hy480
  clear hy480
  obtain ⟨c16, -, H⟩ | ⟨c16, -, H⟩ := yif H
  rotate_left
  · exact absurd H (by simp)
  have LMc16 := aM c16
  clear c16
  obtain ⟨y483, hy483⟩ := yE (y480 ++ [(a1) % 256] : List Int)
  replace H : (some y483) = some r := yI hy483 H
  have Ny483 := aM hy483
  clear hy483
  obtain rfl := Option.some.inj H
  go_enter Try.func18, Try.ntmps18
  go_wp2_with (first | ((with_reducible refine gate_dst (N := 11) rfl ?_); refine Kd.R_lit (Kd.int .u8) _ 5 ?hg (N := 11) ?hd (xs := ([] : List Int)) (inner := []) (ok := fun _ => True) (okp := fun _ => True) ?hr ?hp (fun _ hk => hk) trivial (Below.refl _ _) (Nat.le_refl _) (by simp) ?_; (case hd => rfl); (case hg => rfl); (case hr => first | (go_simp; done) | (go_simp; rfl)); (case hp => exact (Reps.none _ _)); intro v477 w17 ho18 hb hg_ hnew_; clear hg_ hnew_; (first | rw [← Ny476.out] at ho18 | (simp only [Int.reduceToNat] at ho18; rw [← Ny476.out] at ho18)); have HO478 := aM (Kd.R_lower ho18 (below_size (xH HB.out))); replace HB := yS0 HB hb; clear hb ho18; obtain ⟨i019, hi019, _, hsz19, _⟩ := info_parts info5; obtain ⟨A19, hcut19, hA19, hC19⟩ := print_drop_of (P := Try.prog) (Value.int .u8) 0 22 5 .i64 Try.underlying22 hi019 hsz19 A0 c0 l0 a1 (by first | exact yA | omega) (by first | exact yA | omega) HC0.out; have HR479 := aM (Kd.C_of_reads (h1 := fun _ => rfl) (hA19 _ (Kd.reads_of_C HR0.out))); have HC479 := aM hC19; clear hA19 hC19 hi019 hsz19) | ((with_reducible refine gate_builtin (b := .append) (xs := #[.tmp 11, .tmp 14]) rfl ?_); at_builtin; refine Kd.R_append_rows (Kd.int .u8) (w0 := w) w.heap.size rfl (.tmp 11) (.tmp 14) 22 5 (.int .u8 0) 1 rfl Try.underlying22 info5 rfl (by decide) (by omega) v477 y476 (l0.drop (a1 : Int).toNat) _ _ _ (fun _ => True) (fun _ => False) rfl rfl ?aO ?aR (fun _ _ h => h) (fun _ h => h.elim) ?aF ?aB ?aS ?aL ?_; (case aR => first | (rw [← show (l0.drop (a1 : Int).toNat).length = (l0.length - a1.toNat) from List.length_drop]; exact xC (Kd.C_below HR479.out HB.out)) | (exact xC (Kd.C_below HR479.out HB.out))); (case aB => exact (xH HB.out)); (case aF => exact (fun _ _ => trivial)); (case aO => exact (xR HO478.out)); (case aS => exact (below_size (xH HB.out))); (case aL => have := LMc15.out; have hlx_ := (show (l0.drop (a1 : Int).toNat).length = (l0.length - a1.toNat) from List.length_drop); omega); intro v481 w20 ho hb hg hat; rw [← Ny480.out] at ho; replace HB := aM (hb); have HO482 := aM (ho); clear HO478; clear ho hb hg hat) | ((with_reducible refine gate_builtin (b := .append) (xs := #[.tmp 15, .tmp 18]) rfl ?_); at_builtin; refine Kd.R_append (Kd.int .u8) (w0 := w) w.heap.size rfl (.tmp 15) (.tmp 18) 22 5 (.int .u8 0) 1 rfl Try.underlying22 info5 rfl (by decide) (by omega) v481 y480 ((a1) % 256) [.int .u8 ((a1) % 256)] (fun _ => True) (fun _ => False) rfl rfl ?aP (fun _ hk => hk.elim) ?aF ?aO ?aB ?aS ?aL ?_; (case aP => exact rfl); (case aB => exact (xH HB.out)); (case aF => exact (fun _ _ => trivial)); (case aO => exact (xR HO482.out)); (case aS => exact (below_size (xH HB.out))); (case aL => have := LMc16.out; omega); intro v484 w21 ho hb hg hat; rw [← Ny483.out] at ho; replace HB := aM (hb); have HO485 := aM (ho); clear HO482; clear ho hb hg hat))
  go_ret
  exact ⟨_, yF, xR HO485.out, xH HB.out⟩
 have c3b0 : decide ((l0.length : Int) < a1) = true := decide_eq_true c3
 clear c3
 obtain ⟨y466, hy466⟩ := yE (([] : List Int) : List Int)
 replace H : (if 0 ≤ (l0.length : Int) then (if (l0.length : Int) ≤ (l0.length : Int) then (if y466.length + (l0.drop ((l0.length : Int) : Int).toNat).length < 140737488355328 then ((some (y466 ++ (l0.drop ((l0.length : Int) : Int).toNat) : List Int)).bind fun y470 => (if y470.length < 140737488355328 then (some (y470 ++ [((l0.length : Int)) % 256])) else (none))) else (none)) else (none)) else (none)) = some r := yI hy466 H
 have Ny466 := aM hy466
 clear hy466
 obtain ⟨c4, -, H⟩ | ⟨c4, -, H⟩ := yif H
 rotate_left
 · exact absurd H (by simp)
 have c4b0 := eq_true c4
 have c4b1 : decide (0 ≤ (l0.length : Int)) = true := decide_eq_true c4
 clear c4
 obtain ⟨c5, -, H⟩ | ⟨c5, -, H⟩ := yif H
 rotate_left
 · exact absurd H (by simp)
 have c5b0 := eq_true c5
 have c5b1 : decide ((l0.length : Int) ≤ (l0.length : Int)) = true := decide_eq_true c5
 clear c5
 obtain ⟨c6, -, H⟩ | ⟨c6, -, H⟩ := yif H
 rotate_left
 · exact absurd H (by simp)
 have LMc6 := aM c6
 clear c6
 obtain ⟨y470, hy470⟩ := yE (y466 ++ (l0.drop ((l0.length : Int) : Int).toNat) : List Int)
 replace H : (if y470.length < 140737488355328 then (some (y470 ++ [((l0.length : Int)) % 256])) else (none)) = some r := yI hy470 H
 have Ny470 := aM hy470
 clear hy470
 obtain ⟨c7, -, H⟩ | ⟨c7, -, H⟩ := yif H
 rotate_left
 · exact absurd H (by simp)
 have LMc7 := aM c7
 clear c7
 obtain ⟨y473, hy473⟩ := yE (y470 ++ [((l0.length : Int)) % 256] : List Int)
 replace H : (some y473) = some r := yI hy473 H
 have Ny473 := aM hy473
 clear hy473
 obtain rfl := Option.some.inj H
 go_enter Try.func18, Try.ntmps18
 go_wp2_with (first | ((with_reducible refine gate_dst (N := 11) rfl ?_); refine Kd.R_lit (Kd.int .u8) _ 5 ?hg (N := 11) ?hd (xs := ([] : List Int)) (inner := []) (ok := fun _ => True) (okp := fun _ => True) ?hr ?hp (fun _ hk => hk) trivial (Below.refl _ _) (Nat.le_refl _) (by simp) ?_; (case hd => rfl); (case hg => rfl); (case hr => first | (go_simp; done) | (go_simp; rfl)); (case hp => exact (Reps.none _ _)); intro v467 w8 ho9 hb hg_ hnew_; clear hg_ hnew_; (first | rw [← Ny466.out] at ho9 | (simp only [Int.reduceToNat] at ho9; rw [← Ny466.out] at ho9)); have HO468 := aM (Kd.R_lower ho9 (below_size (xH HB.out))); replace HB := yS0 HB hb; clear hb ho9; obtain ⟨i010, hi010, _, hsz10, _⟩ := info_parts info5; obtain ⟨A10, hcut10, hA10, hC10⟩ := print_drop_of (P := Try.prog) (Value.int .u8) 0 22 5 .i64 Try.underlying22 hi010 hsz10 A0 c0 l0 (l0.length : Int) (by first | exact yA | omega) (by first | exact yA | omega) HC0.out; have HR469 := aM (Kd.C_of_reads (h1 := fun _ => rfl) (hA10 _ (Kd.reads_of_C HR0.out))); have HC469 := aM hC10; clear hA10 hC10 hi010 hsz10; obtain ⟨z10, hz10⟩ : ∃ z_ : List Int, z_ = (l0.drop ((l0.length : Int) : Int).toNat) := ⟨_, rfl⟩; rw [← hz10] at hcut10 HR469 HC469; have Nz10 := aM hz10; clear hz10) | ((with_reducible refine gate_builtin (b := .append) (xs := #[.tmp 11, .tmp 14]) rfl ?_); at_builtin; refine Kd.R_append_rows (Kd.int .u8) (w0 := w) w.heap.size rfl (.tmp 11) (.tmp 14) 22 5 (.int .u8 0) 1 rfl Try.underlying22 info5 rfl (by decide) (by omega) v467 y466 z10 _ _ _ (fun _ => True) (fun _ => False) rfl rfl ?aO ?aR (fun _ _ h => h) (fun _ h => h.elim) ?aF ?aB ?aS ?aL ?_; (case aR => first | (rw [← show (l0.drop ((l0.length : Int) : Int).toNat).length = (l0.length - (l0.length : Int).toNat) from List.length_drop]; exact xC (Kd.C_below HR469.out HB.out)) | (exact xC (Kd.C_below HR469.out HB.out))); (case aB => exact (xH HB.out)); (case aF => exact (fun _ _ => trivial)); (case aO => exact (xR HO468.out)); (case aS => exact (below_size (xH HB.out))); (case aL => have := LMc6.out; have hlz_ := congrArg List.length Nz10.out; have hlx_ := (show (l0.drop ((l0.length : Int) : Int).toNat).length = (l0.length - (l0.length : Int).toNat) from List.length_drop); omega); intro v471 w11 ho hb hg hat; rw [Nz10.out, ← Ny470.out] at ho; replace HB := aM (hb); have HO472 := aM (ho); clear HO468; clear ho hb hg hat) | ((with_reducible refine gate_builtin (b := .append) (xs := #[.tmp 15, .tmp 18]) rfl ?_); at_builtin; refine Kd.R_append (Kd.int .u8) (w0 := w) w.heap.size rfl (.tmp 15) (.tmp 18) 22 5 (.int .u8 0) 1 rfl Try.underlying22 info5 rfl (by decide) (by omega) v471 y470 (((l0.length : Int)) % 256) [.int .u8 (((l0.length : Int)) % 256)] (fun _ => True) (fun _ => False) rfl rfl ?aP (fun _ hk => hk.elim) ?aF ?aO ?aB ?aS ?aL ?_; (case aP => exact rfl); (case aB => exact (xH HB.out)); (case aF => exact (fun _ _ => trivial)); (case aO => exact (xR HO472.out)); (case aS => exact (below_size (xH HB.out))); (case aL => have := LMc7.out; omega); intro v474 w12 ho hb hg hat; rw [← Ny473.out] at ho; replace HB := aM (hb); have HO475 := aM (ho); clear HO472; clear ho hb hg hat))
 go_ret
 exact ⟨_, yF, xR HO475.out, xH HB.out⟩
end Go.Proofs.Ytmfmgnpefjmieaa.PFnThresholdTables
