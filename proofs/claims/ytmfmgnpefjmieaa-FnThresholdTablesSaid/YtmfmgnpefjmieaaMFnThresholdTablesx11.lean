-- Laid for this claim by a program of the session's own (wip/tool/myprint.py).
import Derived.Test.YtmfmgnpefjmieaaMFnThresholdTablesx7
import Derived.Test.YtmfmgnpefjmieaaMFnThresholdTablesx10
namespace Go.Proofs.Ytmfmgnpefjmieaa.PFnThresholdTables
open Go.RowKit Go.Proofs.YtmfmgnpefjmieaaW.PrintWords Go.Proofs.YtmfmgnpefjmieaaW.PrintLast Go.Proofs.YtmfmgnpefjmieaaW.PrintMore
attribute [local go_sem] max2_int min2_int max_two min_two max_three min_three max_four min_four
set_option linter.unusedVariables false
set_option maxHeartbeats 8000000
set_option maxRecDepth 100000
set_option linter.unusedSimpArgs false
mutual
def spec_l5Find.l0 : Nat → Int → List Int → Int → Option (List Int)
  | 0, _, _, _ => none
  | k + 1, x0, x1, x5 => if x5 < (x1.length : Int) then (spec_l5Find.l1 k x0 x1 x5 x5) else (some (([] : List Int)))
def spec_l5Find.l1 : Nat → Int → List Int → Int → Int → Option (List Int)
  | 0, _, _, _, _ => none
  | k + 1, x0, x1, x5, x6 => if x6 < (x1.length : Int) then (spec_l5Find.l2 k x0 x1 x5 x6 0) else (spec_l5Find.l0 k x0 x1 (wrap64 (x5 + 1)))
def spec_l5Find.l2 : Nat → Int → List Int → Int → Int → Int → Option (List Int)
  | 0, _, _, _, _, _ => none
  | k + 1, x0, x1, x5, x6, x7 => if x7 < (x1.length : Int) then (if 0 ≤ x5 then (if x5 < (x1.length : Int) then (if (rd x1 x5) = 1 then (if 0 ≤ x6 then (if x6 < (x1.length : Int) then (spec_l5Find.j3 k x0 x1 x5 x6 x7 ((rd x1 x6) == 1)) else (none)) else (none)) else (spec_l5Find.j3 k x0 x1 x5 x6 x7 false)) else (none)) else (none)) else (spec_l5Find.j3 k x0 x1 x5 x6 x7 false)
def spec_l5Find.j3 : Nat → Int → List Int → Int → Int → Int → Bool → Option (List Int)
  | 0, _, _, _, _, _, _ => none
  | k + 1, x0, x1, x5, x6, x7, x40 => if x40 = true then (spec_l5Find.l3 k x0 x1 x5 x6 x7 x7) else (spec_l5Find.l1 k x0 x1 x5 (wrap64 (x6 + 1)))
def spec_l5Find.l3 : Nat → Int → List Int → Int → Int → Int → Int → Option (List Int)
  | 0, _, _, _, _, _, _ => none
  | k + 1, x0, x1, x5, x6, x7, x8 => if x8 < (x1.length : Int) then ((some (([x5, x6, x7, x8] : List Int) : List Int)).bind fun y419 => ((spec_l5Trade.f k x0 x1 y419).bind fun t422 => (if t422 = true then (some y419) else (spec_l5Find.l3 k x0 x1 x5 x6 x7 (wrap64 (x8 + 1)))))) else (spec_l5Find.l2 k x0 x1 x5 x6 (wrap64 (x7 + 1)))
end
def spec_l5Find.f (k : Nat) (a0 : Int) (l1 : List Int) : Option (List Int) := spec_l5Find.l0 k a0 l1 0
theorem spec_l5Find.calls (k : Nat) (a0 : Int) (A1 : Option Addr) (c1 : Nat) (l1 : List Int) (r : List Int) (w : World) (hr1 : Kd.C (Kd.int .i64) w A1 l1.length l1) (hc1 : l1.length ≤ c1) (h : spec_l5Find.f k a0 l1 = some r) :
    Calls Try.prog 82 #[.int .i64 a0, .slice A1 l1.length c1] w fun e w' => ∃ v0_ : Value, e = .returned (v0_) ∧ Kd.R (Kd.int .i64) 3 w' w.heap.size (fun _ => True) v0_ r ∧ Below w.heap.size w w' := by
 have HR1 := aM hr1
 have HC1 := aM hc1
 clear hr1 hc1
 have HB := aM (Below.refl w.heap.size w)
 have H : (spec_l5Find.l0 k a0 l1 0) = some r := h
 clear h
 have H' := aM H
 clear H
 go_enter Try.func82, Try.ntmps82
 go_wp2
 go_loopg [5] k (fun kq v5 w' => ∃ (x5_1 : Int), v5 = .int .i64 x5_1 ∧ Aside0 (spec_l5Find.l0 kq a0 l1 x5_1 = some r) ∧ Aside0 (kq ≤ k) ∧ Aside0 (Below w.heap.size w w'))
 case atStart => exact ⟨(0), yZ, H', ⟨Nat.le_refl _⟩, ⟨xH HB.out⟩⟩
 case round =>
  clear H'
  try clear c1
  obtain ⟨x5_1, rfl, HA, HK1, HB⟩ := hrel
  cases gk with
  | zero => exact absurd HA.out (by simp [spec_l5Find.l0])
  | succ k1 =>
   have H := HA.out
   clear HA
   simp only [spec_l5Find.l0] at H
   obtain ⟨c3, c3b0, H⟩ | ⟨-, c3b0, H⟩ := yif H
   rotate_left
   ·
    obtain ⟨y414, hy414⟩ := yE (([] : List Int) : List Int)
    replace H : (some y414) = some r := yI hy414 H
    have Ny414 := aM hy414
    clear hy414
    obtain rfl := Option.some.inj H
    go_wp2_with (first | ((with_reducible refine gate_dst (N := 60) rfl ?_); refine Kd.R_lit (Kd.int .i64) _ 3 ?hg (N := 60) ?hd (xs := ([] : List Int)) (inner := []) (ok := fun _ => True) (okp := fun _ => True) ?hr ?hp (fun _ hk => hk) trivial (Below.refl _ _) (Nat.le_refl _) (by simp) ?_; (case hd => rfl); (case hg => rfl); (case hr => first | (go_simp; done) | (go_simp; rfl)); (case hp => exact (Reps.none _ _)); intro v415 w22 ho23 hb hg_ hnew_; clear hg_ hnew_; (first | rw [← Ny414.out] at ho23 | (simp only [Int.reduceToNat] at ho23; rw [← Ny414.out] at ho23)); have HO416 := aM (Kd.R_lower ho23 (below_size (xH HB.out))); replace HB := yS0 HB hb; clear hb ho23))
    go_ret
    exact ⟨_, yF, xR HO416.out, xH HB.out⟩
   clear c3
   have H' := aM H
   clear H
   go_wp2
   go_loopg [6] k1 (fun kq v6 w' => ∃ (x6_2 : Int), v6 = .int .i64 x6_2 ∧ Aside0 (spec_l5Find.l1 kq a0 l1 x5_1 x6_2 = some r) ∧ Aside0 (kq ≤ k1) ∧ Aside0 (Below w.heap.size w w'))
   case atStart => exact ⟨(x5_1), yZ, H', ⟨Nat.le_refl _⟩, ⟨xH HB.out⟩⟩
   case round =>
    clear H'
    try clear c3
    try clear c3b0
    obtain ⟨x6_2, rfl, HA, HK2, HB⟩ := hrel
    cases gk with
    | zero => exact absurd HA.out (by simp [spec_l5Find.l1])
    | succ k2 =>
     have H := HA.out
     clear HA
     simp only [spec_l5Find.l1] at H
     obtain ⟨c4, c4b0, H⟩ | ⟨-, c4b0, H⟩ := yif H
     rotate_left
     ·
      have H' := aM H
      clear H
      go_wp2
      go_roundg k2
      case measure => have := HK1.out; have := HK2.out; omega
      case rel => exact ⟨(wrap64 (x5_1 + 1)), yZ, H', ⟨by have := HK1.out; have := HK2.out; omega⟩, ⟨xH HB.out⟩⟩
     clear c4
     have H' := aM H
     clear H
     go_wp2
     go_loopg [7] k2 (fun kq v7 w' => ∃ (x7_3 : Int), v7 = .int .i64 x7_3 ∧ Aside0 (spec_l5Find.l2 kq a0 l1 x5_1 x6_2 x7_3 = some r) ∧ Aside0 (kq ≤ k2) ∧ Aside0 (Below w.heap.size w w'))
     case atStart => exact ⟨(0), yZ, H', ⟨Nat.le_refl _⟩, ⟨xH HB.out⟩⟩
     case round =>
      clear H'
      try clear c4
      try clear c4b0
      obtain ⟨x7_3, rfl, HA, HK3, HB⟩ := hrel
      cases gk with
      | zero => exact absurd HA.out (by simp [spec_l5Find.l2])
      | succ k3 =>
       have H := HA.out
       clear HA
       simp only [spec_l5Find.l2] at H
       have HC5 := aM H
       clear H
       go_upto_region 8 with (fail)
       go_cut [40] (fun v40 wc => ∃ (kq : Nat) (x40_4 : Bool), v40 = .bool x40_4 ∧ Aside0 (spec_l5Find.j3 kq a0 l1 x5_1 x6_2 x7_3 x40_4 = some r) ∧ Aside0 (kq ≤ k3) ∧ Aside0 (Below w.heap.size w wc))
       case first =>
        have H := HC5.out
        clear HC5
        obtain ⟨-, c6b0, H⟩ | ⟨-, c6b0, H⟩ := yif H
        rotate_left
        ·
         (first | rw [c6b0] | (simp only [i64_w, i32_w]; rw [c6b0]) | rw [c6b1] | skip)
         have H' := aM H
         clear H
         go_wp2
         go_meet
         case rel => exact ⟨_, (false), yZ, H', ⟨by have := HK1.out; have := HK2.out; have := HK3.out; first | omega | exact Nat.le_refl _⟩, ⟨xH HB.out⟩⟩
        (first | rw [c6b0] | (simp only [i64_w, i32_w]; rw [c6b0]) | rw [c6b1] | skip)
        obtain ⟨-, c7b0, H⟩ | ⟨c7, -, H⟩ := yif H
        rotate_left
        · exact absurd H (by simp)
        obtain ⟨-, c8b0, H⟩ | ⟨c8, -, H⟩ := yif H
        rotate_left
        · exact absurd H (by simp)
        obtain ⟨c9, -, H⟩ | ⟨c9, -, H⟩ := yif H
        rotate_left
        ·
         have c9b0 : ((rd l1 x5_1) == 1) = false := beq_eq_false_iff_ne.mpr c9
         have c9b1 : ((rd l1 x5_1) != 1) = true := bne_iff_ne.mpr c9
         have H' := aM H
         clear H
         obtain ⟨ad417, e417, hx417_0, p417, q417⟩ := yi HR1.out x5_1
         cases e417
         replace hx417_0 := yc HB hx417_0
         go_wp2
         go_meet
         case rel => exact ⟨_, (false), yZ, H', ⟨by have := HK1.out; have := HK2.out; have := HK3.out; first | omega | exact Nat.le_refl _⟩, ⟨xH HB.out⟩⟩
        have c9b0 : ((rd l1 x5_1) == 1) = true := beq_iff_eq.mpr c9
        have c9b1 : ((rd l1 x5_1) != 1) = false := bne_eq_false_iff_eq.mpr c9
        clear c9
        obtain ⟨-, c10b0, H⟩ | ⟨c10, -, H⟩ := yif H
        rotate_left
        · exact absurd H (by simp)
        obtain ⟨-, c11b0, H⟩ | ⟨c11, -, H⟩ := yif H
        rotate_left
        · exact absurd H (by simp)
        have H' := aM H
        clear H
        obtain ⟨ad417, e417, hx417_0, p417, q417⟩ := yi HR1.out x5_1
        cases e417
        replace hx417_0 := yc HB hx417_0
        obtain ⟨ad418, e418, hx418_0, p418, q418⟩ := yi HR1.out x6_2
        obtain rfl : ad417 = ad418 := (by injection e418)
        replace hx418_0 := yc HB hx418_0
        go_wp2
        go_meet
        case rel => exact ⟨_, (((rd l1 x6_2) == 1)), yZ, H', ⟨by have := HK1.out; have := HK2.out; have := HK3.out; first | omega | exact Nat.le_refl _⟩, ⟨xH HB.out⟩⟩
       case rest =>
        clear HC5
        try clear c6b0
        try clear c7
        try clear c7b0
        try clear c8
        try clear c8b0
        try clear c9
        try clear c9b0
        try clear c9b1
        try clear c10
        try clear c10b0
        try clear c11
        try clear c11b0
        try clear hx417_0
        try clear hx418_0
        try clear p417
        try clear p418
        try clear q417
        try clear q418
        obtain ⟨kq, x40_4, rfl, HA, HJ4, HB⟩ := hcut
        cases kq with
        | zero => exact absurd HA.out (by simp [spec_l5Find.j3])
        | succ kj4 =>
         have H := HA.out
         clear HA
         simp only [spec_l5Find.j3] at H
         by_cases c12 : x40_4 = true
         rotate_left
         ·
          replace c12 := Bool.eq_false_iff.mpr c12
          subst c12
          rw [if_neg (show ¬ (false = true) by decide)] at H
          have H' := aM H
          clear H
          go_wp2
          go_roundg kj4
          case measure => have := HK1.out; have := HK2.out; have := HK3.out; have := HJ4.out; omega
          case rel => exact ⟨(wrap64 (x6_2 + 1)), yZ, H', ⟨by have := HK1.out; have := HK2.out; have := HK3.out; have := HJ4.out; omega⟩, ⟨xH HB.out⟩⟩
         subst c12
         rw [if_pos rfl] at H
         have H' := aM H
         clear H
         go_wp2
         go_loopg [8] kj4 (fun kq v8 w' => ∃ (x8_5 : Int), v8 = .int .i64 x8_5 ∧ Aside0 (spec_l5Find.l3 kq a0 l1 x5_1 x6_2 x7_3 x8_5 = some r) ∧ Aside0 (kq ≤ kj4) ∧ Aside0 (Below w.heap.size w w'))
         case atStart => exact ⟨(x7_3), yZ, H', ⟨Nat.le_refl _⟩, ⟨xH HB.out⟩⟩
         case round =>
          clear H'
          try clear c12
          obtain ⟨x8_5, rfl, HA, HK5, HB⟩ := hrel
          cases gk with
          | zero => exact absurd HA.out (by simp [spec_l5Find.l3])
          | succ k5 =>
           have H := HA.out
           clear HA
           simp only [spec_l5Find.l3] at H
           obtain ⟨-, c13b0, H⟩ | ⟨-, c13b0, H⟩ := yif H
           rotate_left
           ·
            have H' := aM H
            clear H
            go_wp2
            go_roundg k5
            case measure => have := HK1.out; have := HK2.out; have := HK3.out; have := HJ4.out; have := HK5.out; omega
            case rel => exact ⟨(wrap64 (x7_3 + 1)), yZ, H', ⟨by have := HK1.out; have := HK2.out; have := HK3.out; have := HJ4.out; have := HK5.out; omega⟩, ⟨xH HB.out⟩⟩
           obtain ⟨y419, hy419⟩ := yE (([x5_1, x6_2, x7_3, x8_5] : List Int) : List Int)
           replace H : ((spec_l5Trade.f k5 a0 l1 y419).bind fun t422 => (if t422 = true then (some y419) else (spec_l5Find.l3 k5 a0 l1 x5_1 x6_2 x7_3 (wrap64 (x8_5 + 1))))) = some r := yI hy419 H
           have Ny419 := aM hy419
           clear hy419
           replace H := oB.mp H
           obtain ⟨t422, A140, H⟩ := H
           have A14 := aM A140
           clear A140
           by_cases c15 : t422 = true
           ·
            subst c15
            rw [if_pos rfl] at H
            obtain rfl := Option.some.inj H
            go_wp2_with (first | ((with_reducible refine gate_dst (N := 54) rfl ?_); refine Kd.R_lit (Kd.int .i64) _ 3 ?hg (N := 54) ?hd (xs := ([x5_1, x6_2, x7_3, x8_5] : List Int)) (inner := [.int .i64 x5_1, .int .i64 x6_2, .int .i64 x7_3, .int .i64 x8_5]) (ok := fun _ => True) (okp := fun _ => True) ?hr ?hp (fun _ hk => hk) trivial (Below.refl _ _) (Nat.le_refl _) (by simp) ?_; (case hd => rfl); (case hg => rfl); (case hr => first | (go_simp; done) | (go_simp; rfl)); (case hp => exact (Reps.one (show Kd.M (Kd.int .i64) _ _ _ x5_1 [.int .i64 x5_1] from rfl) (Reps.one (show Kd.M (Kd.int .i64) _ _ _ x6_2 [.int .i64 x6_2] from rfl) (Reps.one (show Kd.M (Kd.int .i64) _ _ _ x7_3 [.int .i64 x7_3] from rfl) (Reps.one (show Kd.M (Kd.int .i64) _ _ _ x8_5 [.int .i64 x8_5] from rfl) (Reps.none _ _)))))); intro v420 w16 ho17 hb hg_ hnew_; clear hg_ hnew_; (first | rw [← Ny419.out] at ho17 | (simp only [Int.reduceToNat] at ho17; rw [← Ny419.out] at ho17)); have HO421 := aM (Kd.R_lower ho17 (below_size (xH HB.out))); replace HB := yS0 HB hb; clear hb ho17; obtain ⟨Ao18, co18, eo18⟩ := Kd.R_slice HO421.out; subst eo18) | (refine yL 58 Try.func89 #[.int .i64 a0, .slice A1 l1.length c1, .slice Ao18 y419.length co18] ?_; (with_reducible refine (spec_l5Trade.calls k5 a0 _ _ l1 _ _ y419 true _ (xC (Kd.C_below HR1.out HB.out)) HC1.out (xC (Kd.R_reads' HO421.out).2.2) ((Kd.R_reads' HO421.out).2.1) A14.out).mono ?_); rintro e w' ⟨rfl, ⟨nd, rfl⟩⟩; refine ⟨_, rfl, ?_⟩))
            go_ret
            exact ⟨_, yF, xR HO421.out, xH HB.out⟩
           replace c15 := Bool.eq_false_iff.mpr c15
           subst c15
           rw [if_neg (show ¬ (false = true) by decide)] at H
           have H' := aM H
           clear H
           go_wp2_with (first | ((with_reducible refine gate_dst (N := 54) rfl ?_); refine Kd.R_lit (Kd.int .i64) _ 3 ?hg (N := 54) ?hd (xs := ([x5_1, x6_2, x7_3, x8_5] : List Int)) (inner := [.int .i64 x5_1, .int .i64 x6_2, .int .i64 x7_3, .int .i64 x8_5]) (ok := fun _ => True) (okp := fun _ => True) ?hr ?hp (fun _ hk => hk) trivial (Below.refl _ _) (Nat.le_refl _) (by simp) ?_; (case hd => rfl); (case hg => rfl); (case hr => first | (go_simp; done) | (go_simp; rfl)); (case hp => exact (Reps.one (show Kd.M (Kd.int .i64) _ _ _ x5_1 [.int .i64 x5_1] from rfl) (Reps.one (show Kd.M (Kd.int .i64) _ _ _ x6_2 [.int .i64 x6_2] from rfl) (Reps.one (show Kd.M (Kd.int .i64) _ _ _ x7_3 [.int .i64 x7_3] from rfl) (Reps.one (show Kd.M (Kd.int .i64) _ _ _ x8_5 [.int .i64 x8_5] from rfl) (Reps.none _ _)))))); intro v420 w19 ho20 hb hg_ hnew_; clear hg_ hnew_; (first | rw [← Ny419.out] at ho20 | (simp only [Int.reduceToNat] at ho20; rw [← Ny419.out] at ho20)); have HO421 := aM (Kd.R_lower ho20 (below_size (xH HB.out))); replace HB := yS0 HB hb; clear hb ho20; obtain ⟨Ao21, co21, eo21⟩ := Kd.R_slice HO421.out; subst eo21) | (refine yL 58 Try.func89 #[.int .i64 a0, .slice A1 l1.length c1, .slice Ao21 y419.length co21] ?_; (with_reducible refine (spec_l5Trade.calls k5 a0 _ _ l1 _ _ y419 false _ (xC (Kd.C_below HR1.out HB.out)) HC1.out (xC (Kd.R_reads' HO421.out).2.2) ((Kd.R_reads' HO421.out).2.1) A14.out).mono ?_); rintro e w' ⟨rfl, ⟨nd, rfl⟩⟩; refine ⟨_, rfl, ?_⟩))
           go_roundg k5
           case measure => have := HK1.out; have := HK2.out; have := HK3.out; have := HJ4.out; have := HK5.out; omega
           case rel => exact ⟨(wrap64 (x8_5 + 1)), yZ, H', ⟨by have := HK1.out; have := HK2.out; have := HK3.out; have := HJ4.out; have := HK5.out; omega⟩, ⟨xH HB.out⟩⟩
def spec_FindTrade.f (k : Nat) (a0 : Int) (l1 : List Int) : Option (List Int × Bool) := (spec_l2Table.f k a0 l1).bind fun t423 => (if t423 = true then ((spec_l5Find.f k a0 l1).bind fun t424 => (some (t424, decide ((t424.length : Int) > 0)))) else (some ((([] : List Int)), false)))
theorem spec_FindTrade.calls (k : Nat) (a0 : Int) (A1 : Option Addr) (c1 : Nat) (l1 : List Int) (r1 : List Int) (r2 : Bool) (w : World) (hr1 : Kd.C (Kd.int .i64) w A1 l1.length l1) (hc1 : l1.length ≤ c1) (h : spec_FindTrade.f k a0 l1 = some (r1, r2)) :
    Calls Try.prog 16 #[.int .i64 a0, .slice A1 l1.length c1] w fun e w' => ∃ v0_ : Value, e = .returned (.tuple #[v0_, .bool r2]) ∧ Kd.R (Kd.int .i64) 3 w' w.heap.size (fun _ => True) v0_ r1 ∧ Below w.heap.size w w' := by
 have HR1 := aM hr1
 have HC1 := aM hc1
 clear hr1 hc1
 have HB := aM (Below.refl w.heap.size w)
 have H : ((spec_l2Table.f k a0 l1).bind fun t423 => (if t423 = true then ((spec_l5Find.f k a0 l1).bind fun t424 => (some (t424, decide ((t424.length : Int) > 0)))) else (some ((([] : List Int)), false)))) = some (r1, r2) := h
 clear h
 replace H := oB.mp H
 obtain ⟨t423, A30, H⟩ := H
 have A3 := aM A30
 clear A30
 by_cases c4 : t423 = true
 ·
  subst c4
  rw [if_pos rfl] at H
  replace H := oB.mp H
  obtain ⟨t424, A50, H⟩ := H
  have A5 := aM A50
  clear A50
  simp only [Option.some.injEq, Prod.mk.injEq] at H
  obtain ⟨rfl, rfl⟩ := H
  go_enter Try.func16, Try.ntmps16
  go_wp2_with (first | (refine yL 9 Try.func76 #[.int .i64 a0, .slice A1 l1.length c1] ?_; (with_reducible refine (spec_l2Table.calls k a0 _ _ l1 true _ (xC HR1.out) HC1.out A3.out).mono ?_); rintro e w' ⟨rfl, ⟨nd, rfl⟩⟩; refine ⟨_, rfl, ?_⟩) | (refine yL 14 Try.func82 #[.int .i64 a0, .slice A1 l1.length c1] ?_; (with_reducible refine (spec_l5Find.calls k a0 _ _ l1 t424 _ (xC HR1.out) HC1.out A5.out).mono ?_); rintro e w6 ⟨v425, rfl, ho0, hb⟩; refine ⟨_, rfl, ?_⟩; have HO426 := aM (Kd.R_lower ho0 (below_size (xH HB.out))); replace HB := yS0 HB hb; (try clear hb; try clear ho0); obtain ⟨Ao7, co7, eo7⟩ := Kd.R_slice HO426.out; subst eo7))
  go_ret2
  exact ⟨_, yF, xR HO426.out, xH HB.out⟩
 replace c4 := Bool.eq_false_iff.mpr c4
 subst c4
 rw [if_neg (show ¬ (false = true) by decide)] at H
 obtain ⟨y427, hy427⟩ := yE (([] : List Int) : List Int)
 replace H : (some (y427, false)) = some (r1, r2) := yI hy427 H
 have Ny427 := aM hy427
 clear hy427
 simp only [Option.some.injEq, Prod.mk.injEq] at H
 obtain ⟨rfl, rfl⟩ := H
 go_enter Try.func16, Try.ntmps16
 go_wp2_with (first | (refine yL 9 Try.func76 #[.int .i64 a0, .slice A1 l1.length c1] ?_; (with_reducible refine (spec_l2Table.calls k a0 _ _ l1 false _ (xC HR1.out) HC1.out A3.out).mono ?_); rintro e w' ⟨rfl, ⟨nd, rfl⟩⟩; refine ⟨_, rfl, ?_⟩) | ((with_reducible refine gate_dst (N := 11) rfl ?_); refine Kd.R_lit (Kd.int .i64) _ 3 ?hg (N := 11) ?hd (xs := ([] : List Int)) (inner := []) (ok := fun _ => True) (okp := fun _ => True) ?hr ?hp (fun _ hk => hk) trivial (Below.refl _ _) (Nat.le_refl _) (by simp) ?_; (case hd => rfl); (case hg => rfl); (case hr => first | (go_simp; done) | (go_simp; rfl)); (case hp => exact (Reps.none _ _)); intro v428 w8 ho9 hb hg_ hnew_; clear hg_ hnew_; (first | rw [← Ny427.out] at ho9 | (simp only [Int.reduceToNat] at ho9; rw [← Ny427.out] at ho9)); have HO429 := aM (Kd.R_lower ho9 (below_size (xH HB.out))); replace HB := yS0 HB hb; clear hb ho9))
 go_ret2
 exact ⟨_, yF, xR HO429.out, xH HB.out⟩
end Go.Proofs.Ytmfmgnpefjmieaa.PFnThresholdTables
