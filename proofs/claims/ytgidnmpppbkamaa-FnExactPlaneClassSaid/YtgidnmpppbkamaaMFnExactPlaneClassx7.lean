-- Laid for this claim by a program of the session's own (wip/tool/myprint.py).
import Derived.Test.YtgidnmpppbkamaaMFnExactPlaneClassx0
namespace Go.Proofs.Ytgidnmpppbkamaa.PFnExactPlaneClass
open Go.RowKit Go.Proofs.YtgidnmpppbkamaaW.PrintWords Go.Proofs.YtgidnmpppbkamaaW.PrintLast Go.Proofs.YtgidnmpppbkamaaW.PrintMore
attribute [local go_sem] max2_int min2_int max_two min_two max_three min_three max_four min_four
set_option linter.unusedVariables false
set_option maxHeartbeats 8000000
set_option maxRecDepth 100000
set_option linter.unusedSimpArgs false
mutual
def spec_l4Equations.l0 : Nat → List (List Int) → List (List Int) → List Int → Int → Option ((List (List Int)))
 | 0, _, _, _, _ => none
 | k + 1, x0, x3, x4, x5 => if (x0.length : Int) > 0 then (if 0 < (x0.length : Int) then (spec_l4Equations.j1 k x0 x3 x4 x5 (decide (x5 < ((rd_L1 x0 0).length : Int)))) else (none)) else (spec_l4Equations.j1 k x0 x3 x4 x5 false)
def spec_l4Equations.j1 : Nat → List (List Int) → List (List Int) → List Int → Int → Bool → Option ((List (List Int)))
 | 0, _, _, _, _, _ => none
 | k + 1, x0, x3, x4, x5, x21 => if x21 = true then (spec_l4Equations.l1 k x0 x3 x4 x5 (([] : List Int)) 0) else (spec_l4Equations.l2 k x0 x3 x4 0)
def spec_l4Equations.l1 : Nat → List (List Int) → List (List Int) → List Int → Int → List Int → Int → Option ((List (List Int)))
 | 0, _, _, _, _, _, _ => none
 | k + 1, x0, x3, x4, x5, x6, x7 => if x7 < (x0.length : Int) then (if 0 ≤ x7 then (if 0 ≤ x5 then (if x5 < ((rd_L1 x0 x7).length : Int) then (if x6.length < 17592186044416 then (spec_l4Equations.l1 k x0 x3 x4 x5 (x6 ++ [rd (rd_L1 x0 x7) x5]) (wrap64 (x7 + 1))) else (none)) else (none)) else (none)) else (none)) else (if x3.length < 5864062014805 then (spec_l4Equations.l0 k x0 (x3 ++ [x6]) x4 (wrap64 (x5 + 1))) else (none))
def spec_l4Equations.l2 : Nat → List (List Int) → List (List Int) → List Int → Int → Option ((List (List Int)))
 | 0, _, _, _, _ => none
 | k + 1, x0, x3, x4, x8 => if x8 < (x0.length : Int) then (if x4.length < 17592186044416 then (spec_l4Equations.l2 k x0 x3 (x4 ++ [1]) (wrap64 (x8 + 1))) else (none)) else (if x3.length < 5864062014805 then (some (x3 ++ [x4])) else (none))
end
def spec_l4Equations.f (k : Nat) (l0 : List (List Int)) : Option ((List (List Int))) := spec_l4Equations.l0 k l0 (([] : List (List Int))) (([] : List Int)) 0
theorem spec_l4Equations.calls (k : Nat) (A0 : Option Addr) (c0 : Nat) (l0 : List (List Int)) (r : List (List Int)) (w : World) (hr0 : Kd.C (Kd.slice 3 (Kd.int .i64)) w A0 l0.length l0) (hc0 : l0.length ≤ c0) (h : spec_l4Equations.f k l0 = some r) :
  Calls Try.prog 74 #[.slice A0 l0.length c0] w fun e w' => ∃ v0_ : Value, e = .returned (v0_) ∧ Kd.S (Kd.slice 3 (Kd.int .i64)) 22 w' w.heap.size (fun _ => True) v0_ r ∧ Below w.heap.size w w' := by
 have HR0 := aM hr0
 have HC0 := aM hc0
 clear hr0 hc0
 have HB := aM (Below.refl w.heap.size w)
 have H : (spec_l4Equations.l0 k l0 (([] : List (List Int))) (([] : List Int)) 0) = some r := h
 clear h
 obtain ⟨y227, hy227⟩ := yE (([] : List (List Int)) : List (List Int))
 replace H : (spec_l4Equations.l0 k l0 y227 (([] : List Int)) 0) = some r := yI hy227 H
 have Ny227 := aM hy227
 clear hy227
 obtain ⟨y230, hy230⟩ := yE (([] : List Int) : List Int)
 replace H : (spec_l4Equations.l0 k l0 y227 y230 0) = some r := yI hy230 H
 have Ny230 := aM hy230
 clear hy230
 have H' := aM H
 clear H
 go_enter Try.func74, Try.ntmps74
 go_wp2_with (first | ((with_reducible refine gate_dst (N := 9) rfl ?_); (try (refine gate_guard (by rfl) ?_; dsimp only)); refine Kd.S_lit (Kd.slice 3 (Kd.int .i64)) _ 22 ?hg (N := 9) ?hd (xs := ([] : List (List Int))) (inner := []) (ok := fun _ => True) (okp := fun _ => True) ?hr ?hp (fun _ hk => hk) trivial (Below.refl _ _) (Nat.le_refl _) (by simp) ?_; (case hd => rfl); (case hg => rfl); (case hr => first | (go_simp; done) | (go_simp; rfl)); (case hp => exact (Reps.none _ _)); intro v228 w2 ho3 hb hg_ hnew_; clear hg_ hnew_; (first | rw [← Ny227.out] at ho3 | (simp only [Int.reduceToNat] at ho3; rw [← Ny227.out] at ho3)); have HO229 := aM (Kd.S_lower ho3 (below_size (xH HB.out))); replace HB := yS0 HB hb; clear hb ho3) | ((with_reducible refine gate_dst (N := 10) rfl ?_); (try (refine gate_guard (by rfl) ?_; dsimp only)); refine Kd.R_lit (Kd.int .i64) _ 3 ?hg (N := 10) ?hd (xs := ([] : List Int)) (inner := []) (ok := fun _ => True) (okp := fun _ => True) ?hr ?hp (fun _ hk => hk) trivial (Below.refl _ _) (Nat.le_refl _) (by simp) ?_; (case hd => rfl); (case hg => rfl); (case hr => first | (go_simp; done) | (go_simp; rfl)); (case hp => exact (Reps.none _ _)); intro v231 w4 ho5 hb hg_ hnew_; clear hg_ hnew_; (first | rw [← Ny230.out] at ho5 | (simp only [Int.reduceToNat] at ho5; rw [← Ny230.out] at ho5)); replace HO229 := aM (Kd.S_elder' (xS HO229.out) (Kd.R_base ho5) hb); have HO232 := aM (Kd.R_lower ho5 (below_size (xH HB.out))); replace HB := yS0 HB hb; clear hb ho5))
 go_loopg [3, 5] k (fun kq v3 v5 w' => ∃ (x3_1 : List (List Int)) (x5_1 : Int), v5 = .int .i64 x5_1 ∧ Aside0 (spec_l4Equations.l0 kq l0 x3_1 y230 x5_1 = some r) ∧ Aside0 (kq ≤ k) ∧ Aside0 (Kd.S (Kd.slice 3 (Kd.int .i64)) 22 w' w.heap.size (fun k_ => some k_ ≠ (v231 : Value).ownBlock) v3 x3_1) ∧ Aside0 (Kd.R (Kd.int .i64) 3 w' w.heap.size (fun _ => True) v231 y230) ∧ Aside0 (Below w.heap.size w w'))
 case atStart => exact ⟨(y227), (0), yZ, H', ⟨Nat.le_refl _⟩, ⟨zS (Kd.S_mono HO229.out (fun _ hk => by first | exact hk.2 | exact trivial))⟩, ⟨xR HO232.out⟩, ⟨xH HB.out⟩⟩
 case round =>
  clear H'
  obtain ⟨x3_1, x5_1, rfl, HA, HK1, HO_3, HO_4, HB⟩ := hrel
  cases gk with
  | zero => exact absurd HA.out (by simp [spec_l4Equations.l0])
  | succ k1 =>
   have H := HA.out
   clear HA
   simp only [spec_l4Equations.l0] at H
   have HC6 := aM H
   clear H
   go_upto_region 3 with (fail)
   go_cut [21] (fun v21 wc => ∃ (kq : Nat) (x21_5 : Bool), v21 = .bool x21_5 ∧ Aside0 (spec_l4Equations.j1 kq l0 x3_1 y230 x5_1 x21_5 = some r) ∧ Aside0 (kq ≤ k1) ∧ Aside0 (Kd.S (Kd.slice 3 (Kd.int .i64)) 22 wc w.heap.size (fun k_ => some k_ ≠ (v231 : Value).ownBlock) u3 x3_1) ∧ Aside0 (Kd.R (Kd.int .i64) 3 wc w.heap.size (fun _ => True) v231 y230) ∧ Aside0 (Below w.heap.size w wc))
   case first =>
    have H := HC6.out
    clear HC6
    by_cases c7 : (l0.length : Int) > 0
    rotate_left
    ·
     rw [if_neg c7] at H
     have c7b0 : decide (0 < (l0.length : Int)) = false := decide_eq_false c7
     have c7b1 : decide (0 < l0.length) = false := decide_eq_false (by omega)
     clear c7
     (first | rw [c7b0] | (simp only [i64_w, i32_w]; rw [c7b0]) | rw [c7b1] | skip)
     have H' := aM H
     clear H
     go_wp2
     go_meet
     case rel => exact ⟨_, (false), yZ, H', ⟨by have := HK1.out; first | omega | exact Nat.le_refl _⟩, ⟨xS HO_3.out⟩, ⟨xR HO_4.out⟩, ⟨xH HB.out⟩⟩
    rw [if_pos c7] at H
    have c7b0 : decide (0 < (l0.length : Int)) = true := decide_eq_true c7
    have c7b1 : decide (0 < l0.length) = true := decide_eq_true (by omega)
    clear c7
    (first | rw [c7b0] | (simp only [i64_w, i32_w]; rw [c7b0]) | rw [c7b1] | skip)
    by_cases c8 : 0 < (l0.length : Int)
    rotate_left
    ·
     rw [if_neg c8] at H
     exact absurd H (by simp)
    rw [if_pos c8] at H
    have c8b0 := decide_eq_true c8
    have c8b1 : decide (0 < l0.length) = true := decide_eq_true (by omega)
    clear c8
    have H' := aM H
    clear H
    have p233 : 0 ≤ (0 : Int) := (by omega)
    have q233 : 0 < (l0.length : Int) := yA
    obtain ⟨ad233, A233_0, c233_0, e233, hx233_0, hl233_0, hi233_0⟩ := at_L1 HR0.out 0 p233 q233
    cases e233
    have qi233 : (0 < l0.length) = True := eq_true (by omega)
    (try rw [show ((0 : Int)).toNat = 0 from rfl] at hx233_0)
    (try rw [Addr.add_zero'] at hx233_0)
    replace hx233_0 := (HB.out.cell (World.block_lt_of_cell? w _ hx233_0)).trans hx233_0
    have HR233_0 := aM hi233_0
    have HC233_0 := aM hl233_0
    clear hi233_0 hl233_0
    replace p233 := eq_true p233
    replace q233 := eq_true q233
    go_wp2
    go_meet
    case rel => exact ⟨_, (decide (x5_1 < ((rd_L1 l0 0).length : Int))), yZ, H', ⟨by have := HK1.out; first | omega | exact Nat.le_refl _⟩, ⟨xS HO_3.out⟩, ⟨xR HO_4.out⟩, ⟨xH HB.out⟩⟩
   case rest =>
    clear HC6
    try clear c7; try clear c7b0; try clear c7b1; try clear c8; try clear c8b0; try clear c8b1; try clear hx233_0; try clear p233; try clear q233
    obtain ⟨kq, x21_5, rfl, HA, HJ5, HO_3, HO_4, HB⟩ := hcut
    cases kq with
    | zero => exact absurd HA.out (by simp [spec_l4Equations.j1])
    | succ kj5 =>
     have H := HA.out
     clear HA
     simp only [spec_l4Equations.j1] at H
     by_cases c9 : x21_5 = true
     rotate_left
     ·
      replace c9 := Bool.eq_false_iff.mpr c9
      subst c9
      rw [if_neg (show ¬ (false = true) by decide)] at H
      have H' := aM H
      clear H
      go_wp2
      go_loopg [4, 8] kj5 (fun kq v4 v8 w' => ∃ (x4_3 : List Int) (x8_3 : Int), v8 = .int .i64 x8_3 ∧ Aside0 (spec_l4Equations.l2 kq l0 x3_1 x4_3 x8_3 = some r) ∧ Aside0 (kq ≤ kj5) ∧ Aside0 (Kd.S (Kd.slice 3 (Kd.int .i64)) 22 w' w.heap.size (fun k_ => some k_ ≠ (v4 : Value).ownBlock) u3 x3_1) ∧ Aside0 (Kd.R (Kd.int .i64) 3 w' w.heap.size (fun _ => True) v4 x4_3) ∧ Aside0 (Below w.heap.size w w'))
      case atStart => exact ⟨(y230), (0), yZ, H', ⟨Nat.le_refl _⟩, ⟨xS HO_3.out⟩, ⟨xR HO_4.out⟩, ⟨xH HB.out⟩⟩
      case round =>
       clear H'
       try clear c9; try clear c12; try clear c12b0; try clear c13; try clear c13b0; try clear c14; try clear c14b0; try clear c15; try clear c15b0; try clear c16; try clear c18; try clear hx237_0; try clear hx238_0; try clear p237; try clear p238; try clear q237; try clear q238
       obtain ⟨x4_3, x8_3, rfl, HA, HK3, HO_3, HO_4, HB⟩ := hrel
       cases gk with
       | zero => exact absurd HA.out (by simp [spec_l4Equations.l2])
       | succ k3 =>
        have H := HA.out
        clear HA
        simp only [spec_l4Equations.l2] at H
        by_cases c21 : x8_3 < (l0.length : Int)
        ·
         rw [if_pos c21] at H
         have c21b0 := decide_eq_true c21
         clear c21
         by_cases c22 : x4_3.length < 17592186044416
         rotate_left
         ·
          rw [if_neg c22] at H
          exact absurd H (by simp)
         rw [if_pos c22] at H
         have LMc22 := aM c22
         clear c22
         obtain ⟨y245, hy245⟩ := yE (x4_3 ++ [1] : List Int)
         replace H : (spec_l4Equations.l2 k3 l0 x3_1 y245 (wrap64 (x8_3 + 1))) = some r := yI hy245 H
         have Ny245 := aM hy245
         clear hy245
         have H' := aM H
         clear H
         go_wp2_with (first | ((with_reducible refine gate_builtin (b := .append) (xs := #[.tmp 51, .tmp 52]) rfl ?_); (try (refine gate_guard (by rfl) ?_; dsimp only)); at_builtin; refine Kd.R_append (Kd.int .i64) (w0 := w) w.heap.size rfl (.tmp 51) (.tmp 52) 22 3 (.int .i64 0) 8 rfl Try.underlying22 info3 rfl (by decide) (by omega) u4 x4_3 1 [.int .i64 1] (fun _ => True) (fun _ => False) rfl rfl ?aP (fun _ hk => hk.elim) ?aF ?aO ?aB ?aS ?aL ?_; (case aP => exact rfl); (case aB => exact (xH HB.out)); (case aF => exact (fun _ _ => trivial)); (case aO => exact (xR HO_4.out)); (case aS => exact (below_size (xH HB.out))); (case aL => have := LMc22.out; omega); intro v246 w23 ho hb hg hat; rw [← Ny245.out] at ho; replace HO_3 := aM (Kd.S_after (ok := (fun _ => True)) (zS (Kd.S_mono HO_3.out (fun _ hk => ⟨trivial, hk⟩))) hg hat); replace HB := aM (hb); have HO247 := aM (ho); clear HO_4; clear ho hb hg hat))
         go_roundg k3
         case measure => have := HK1.out; have := HJ5.out; have := HK3.out; omega
         case rel => exact ⟨(y245), (wrap64 (x8_3 + 1)), yZ, H', ⟨by have := HK1.out; have := HJ5.out; have := HK3.out; omega⟩, ⟨zS (Kd.S_mono HO_3.out (fun _ hk => hk.2))⟩, ⟨xR HO247.out⟩, ⟨xH HB.out⟩⟩
        rw [if_neg c21] at H
        have c21b0 := decide_eq_false c21
        clear c21
        by_cases c24 : x3_1.length < 5864062014805
        rotate_left
        ·
         rw [if_neg c24] at H
         exact absurd H (by simp)
        rw [if_pos c24] at H
        have LMc24 := aM c24
        clear c24
        obtain ⟨y248, hy248⟩ := yE (x3_1 ++ [x4_3] : List (List Int))
        replace H : (some y248) = some r := yI hy248 H
        have Ny248 := aM hy248
        clear hy248
        obtain rfl := Option.some.inj H
        obtain ⟨Ao26, co26, eo26⟩ := Kd.R_slice HO_4.out
        subst eo26
        go_wp2_with (first | ((with_reducible refine gate_builtin (b := .append) (xs := #[.tmp 54, .tmp 56]) rfl ?_); (try (refine gate_guard (by rfl) ?_; dsimp only)); at_builtin; refine Kd.S_append (Kd.slice 3 (Kd.int .i64)) (w0 := w) w.heap.size rfl (.tmp 54) (.tmp 56) 32 22 (.slice none 0 0) 24 rfl Try.underlying32 info22 rfl (by decide) (by omega) u3 x3_1 x4_3 [.slice Ao26 x4_3.length co26] (fun _ => True) (fun k_ => some k_ = (.slice Ao26 x4_3.length co26 : Value).ownBlock) rfl rfl ?aP (fun k_ hk_ => ((rM (ok' := fun k_ => ((fun _ => True)) k_ ∧ some k_ ≠ (u3 : Value).ownBlock) (Kd.R_apart' (HO_4.out) (Kd.S_typed HO_3.out) (by decide)) (fun k_ hk => ⟨trivial, hk.2⟩))).1 k_ hk_.symm) ?aF ?aO ?aB ?aS ?aL ?_; (case aP => exact Kd.M_row (rM (Kd.R_tight rfl (rM (ok' := fun k_ => ((fun _ => True)) k_ ∧ some k_ ≠ (u3 : Value).ownBlock) (Kd.R_apart' (HO_4.out) (Kd.S_typed HO_3.out) (by decide)) (fun k_ hk => ⟨trivial, hk.2⟩))) (fun _ h_ => h_))); (case aB => exact (xH HB.out)); (case aF => exact (fun _ _ => trivial)); (case aO => exact (zS (Kd.S_mono HO_3.out (fun k_ hk => ⟨trivial, fun e_ => hk e_⟩)))); (case aS => exact (below_size (xH HB.out))); (case aL => have := LMc24.out; omega); intro v249 w25 ho hb hg hat; rw [← Ny248.out] at ho; replace HB := aM (hb); have HO250 := aM (ho); clear HO_3; clear HO_4; clear ho hb hg hat))
        go_ret
        exact ⟨_, yF, xS HO250.out, by repeat (first | (with_reducible first | exact HB.out | apply eA | apply eN | apply eD) | exact HB.out)⟩
     subst c9
     rw [if_pos rfl] at H
     obtain ⟨y234, hy234⟩ := yE (([] : List Int) : List Int)
     replace H : (spec_l4Equations.l1 kj5 l0 x3_1 y230 x5_1 y234 0) = some r := yI hy234 H
     have Ny234 := aM hy234
     clear hy234
     have H' := aM H
     clear H
     go_wp2_with (first | ((with_reducible refine gate_dst (N := 24) rfl ?_); (try (refine gate_guard (by rfl) ?_; dsimp only)); refine Kd.R_lit (Kd.int .i64) _ 3 ?hg (N := 24) ?hd (xs := ([] : List Int)) (inner := []) (ok := fun _ => True) (okp := fun _ => True) ?hr ?hp (fun _ hk => hk) trivial (Below.refl _ _) (Nat.le_refl _) (by simp) ?_; (case hd => rfl); (case hg => rfl); (case hr => first | (go_simp; done) | (go_simp; rfl)); (case hp => exact (Reps.none _ _)); intro v235 w10 ho11 hb hg_ hnew_; clear hg_ hnew_; (first | rw [← Ny234.out] at ho11 | (simp only [Int.reduceToNat] at ho11; rw [← Ny234.out] at ho11)); replace HO_3 := aM (Kd.S_elder' (xS HO_3.out) (Kd.R_base ho11) hb); have HO236 := aM (Kd.R_lower (Kd.R_new' ho11 (Kd.R_lt (xR HO_4.out))) (below_size (xH HB.out))); replace HO_4 := aM (Kd.R_elder' (xR HO_4.out) (Kd.R_base ho11) hb); replace HB := yS0 HB hb; clear hb ho11))
     go_loopg [6, 7] kj5 (fun kq v6 v7 w' => ∃ (x6_3 : List Int) (x7_3 : Int), v7 = .int .i64 x7_3 ∧ Aside0 (spec_l4Equations.l1 kq l0 x3_1 y230 x5_1 x6_3 x7_3 = some r) ∧ Aside0 (kq ≤ kj5) ∧ Aside0 (Kd.S (Kd.slice 3 (Kd.int .i64)) 22 w' w.heap.size (fun k_ => some k_ ≠ (v231 : Value).ownBlock ∧ some k_ ≠ (v6 : Value).ownBlock) u3 x3_1) ∧ Aside0 (Kd.R (Kd.int .i64) 3 w' w.heap.size (fun k_ => some k_ ≠ (v6 : Value).ownBlock) v231 y230) ∧ Aside0 (Kd.R (Kd.int .i64) 3 w' w.heap.size (fun k_ => some k_ ≠ (v231 : Value).ownBlock) v6 x6_3) ∧ Aside0 (Below w.heap.size w w'))
     case atStart => exact ⟨(y234), (0), yZ, H', ⟨Nat.le_refl _⟩, ⟨xS HO_3.out⟩, ⟨zR (rM HO_4.out (fun _ hk => hk.2))⟩, ⟨zR (rM HO236.out (fun _ hk => by first | exact hk.2 | exact trivial))⟩, ⟨xH HB.out⟩⟩
     case round =>
      clear H'
      try clear c9
      obtain ⟨x6_3, x7_3, rfl, HA, HK3, HO_3, HO_4, HO_6, HB⟩ := hrel
      cases gk with
      | zero => exact absurd HA.out (by simp [spec_l4Equations.l1])
      | succ k3 =>
       have H := HA.out
       clear HA
       simp only [spec_l4Equations.l1] at H
       by_cases c12 : x7_3 < (l0.length : Int)
       rotate_left
       ·
        rw [if_neg c12] at H
        have c12b0 := decide_eq_false c12
        clear c12
        by_cases c18 : x3_1.length < 5864062014805
        rotate_left
        ·
         rw [if_neg c18] at H
         exact absurd H (by simp)
        rw [if_pos c18] at H
        have LMc18 := aM c18
        clear c18
        obtain ⟨y242, hy242⟩ := yE (x3_1 ++ [x6_3] : List (List Int))
        replace H : (spec_l4Equations.l0 k3 l0 y242 y230 (wrap64 (x5_1 + 1))) = some r := yI hy242 H
        have Ny242 := aM hy242
        clear hy242
        have H' := aM H
        clear H
        obtain ⟨Ao20, co20, eo20⟩ := Kd.R_slice HO_6.out
        subst eo20
        go_wp2_with (first | ((with_reducible refine gate_builtin (b := .append) (xs := #[.tmp 41, .tmp 43]) rfl ?_); (try (refine gate_guard (by rfl) ?_; dsimp only)); at_builtin; refine Kd.S_append (Kd.slice 3 (Kd.int .i64)) (w0 := w) w.heap.size rfl (.tmp 41) (.tmp 43) 32 22 (.slice none 0 0) 24 rfl Try.underlying32 info22 rfl (by decide) (by omega) u3 x3_1 x6_3 [.slice Ao20 x6_3.length co20] (fun k_ => some k_ ≠ (v231 : Value).ownBlock) (fun k_ => some k_ = (.slice Ao20 x6_3.length co20 : Value).ownBlock) rfl rfl ?aP (fun k_ hk_ => ((rM (ok' := fun k_ => ((fun k_ => some k_ ≠ (v231 : Value).ownBlock)) k_ ∧ some k_ ≠ (u3 : Value).ownBlock) (Kd.R_apart' (HO_6.out) (Kd.S_typed HO_3.out) (by decide)) (fun k_ hk => ⟨hk.1, hk.2⟩))).1 k_ hk_.symm) ?aF ?aO ?aB ?aS ?aL ?_; (case aP => exact Kd.M_row (rM (Kd.R_tight rfl (rM (ok' := fun k_ => ((fun k_ => some k_ ≠ (v231 : Value).ownBlock)) k_ ∧ some k_ ≠ (u3 : Value).ownBlock) (Kd.R_apart' (HO_6.out) (Kd.S_typed HO_3.out) (by decide)) (fun k_ hk => ⟨hk.1, hk.2⟩))) (fun _ h_ => h_))); (case aB => exact (xH HB.out)); (case aF => exact (fun k_ hk => Kd.fresh' (Kd.R_lt (xR HO_4.out)) k_ hk)); (case aO => exact (zS (Kd.S_mono HO_3.out (fun k_ hk => ⟨hk.1, fun e_ => hk.2 e_⟩)))); (case aS => exact (below_size (xH HB.out))); (case aL => have := LMc18.out; omega); intro v243 w19 ho hb hg hat; rw [← Ny242.out] at ho; replace HO_4 := aM (Kd.R_over' (xR HO_4.out) (Kd.S_typed (xS HO_3.out)) (by decide) hg); replace HB := aM (hb); have HO244 := aM (ho); clear HO_3; clear HO_6; clear ho hb hg hat))
        go_roundg k3
        case measure => have := HK1.out; have := HJ5.out; have := HK3.out; omega
        case rel => exact ⟨(y242), (wrap64 (x5_1 + 1)), yZ, H', ⟨by have := HK1.out; have := HJ5.out; have := HK3.out; omega⟩, ⟨xS HO244.out⟩, ⟨zR (rM HO_4.out (fun _ hk => trivial))⟩, ⟨xH HB.out⟩⟩
       rw [if_pos c12] at H
       have c12b0 := decide_eq_true c12
       clear c12
       by_cases c13 : 0 ≤ x7_3
       rotate_left
       ·
        rw [if_neg c13] at H
        exact absurd H (by simp)
       rw [if_pos c13] at H
       have c13b0 := decide_eq_true c13
       clear c13
       by_cases c14 : 0 ≤ x5_1
       rotate_left
       ·
        rw [if_neg c14] at H
        exact absurd H (by simp)
       rw [if_pos c14] at H
       have c14b0 := decide_eq_true c14
       clear c14
       by_cases c15 : x5_1 < ((rd_L1 l0 x7_3).length : Int)
       rotate_left
       ·
        rw [if_neg c15] at H
        exact absurd H (by simp)
       rw [if_pos c15] at H
       have c15b0 := decide_eq_true c15
       clear c15
       by_cases c16 : x6_3.length < 17592186044416
       rotate_left
       ·
        rw [if_neg c16] at H
        exact absurd H (by simp)
       rw [if_pos c16] at H
       have LMc16 := aM c16
       clear c16
       obtain ⟨y239, hy239⟩ := yE (x6_3 ++ [rd (rd_L1 l0 x7_3) x5_1] : List Int)
       replace H : (spec_l4Equations.l1 k3 l0 x3_1 y230 x5_1 y239 (wrap64 (x7_3 + 1))) = some r := yI hy239 H
       have Ny239 := aM hy239
       clear hy239
       have H' := aM H
       clear H
       have p237 : 0 ≤ (x7_3 : Int) := yA
       have q237 : x7_3 < (l0.length : Int) := yA
       obtain ⟨ad237, A237_0, c237_0, e237, hx237_0, hl237_0, hi237_0⟩ := at_L1 HR0.out x7_3 p237 q237
       cases e237
       replace hx237_0 := (HB.out.cell (World.block_lt_of_cell? w _ hx237_0)).trans hx237_0
       have HR237_0 := aM hi237_0
       have HC237_0 := aM hl237_0
       clear hi237_0 hl237_0
       replace p237 := eq_true p237
       replace q237 := eq_true q237
       have p238 : 0 ≤ (x5_1 : Int) := yA
       have q238 : x5_1 < ((rd_L1 l0 x7_3).length : Int) := yA
       obtain ⟨ad238, e238, hx238_0⟩ := Kd.at_int HR237_0.out x5_1 p238 q238
       cases e238
       replace hx238_0 := (HB.out.cell (World.block_lt_of_cell? w _ hx238_0)).trans hx238_0
       replace p238 := eq_true p238
       replace q238 := eq_true q238
       go_wp2_with (first | ((with_reducible refine gate_builtin (b := .append) (xs := #[.tmp 31, .tmp 39]) rfl ?_); (try (refine gate_guard (by rfl) ?_; dsimp only)); at_builtin; refine Kd.R_append (Kd.int .i64) (w0 := w) w.heap.size rfl (.tmp 31) (.tmp 39) 22 3 (.int .i64 0) 8 rfl Try.underlying22 info3 rfl (by decide) (by omega) u6 x6_3 (rd (rd_L1 l0 x7_3) x5_1) [.int .i64 (rd (rd_L1 l0 x7_3) x5_1)] (fun k_ => some k_ ≠ (v231 : Value).ownBlock) (fun _ => False) rfl rfl ?aP (fun _ hk => hk.elim) ?aF ?aO ?aB ?aS ?aL ?_; (case aP => exact rfl); (case aB => exact (xH HB.out)); (case aF => exact (fun k_ hk => Kd.fresh' (Kd.R_lt (xR HO_4.out)) k_ hk)); (case aO => exact (xR HO_6.out)); (case aS => exact (below_size (xH HB.out))); (case aL => have := LMc16.out; omega); intro v240 w17 ho hb hg hat; rw [← Ny239.out] at ho; replace HO_3 := aM (Kd.S_after (ok := (fun k_ => some k_ ≠ (v231 : Value).ownBlock)) (xS HO_3.out) hg hat); replace HO_4 := aM (Kd.R_after (ok := (fun _ => True)) (zR (rM HO_4.out (fun _ hk => ⟨trivial, hk⟩))) hg hat); replace HB := aM (hb); have HO241 := aM (ho); clear HO_6; clear ho hb hg hat))
       go_roundg k3
       case measure => have := HK1.out; have := HJ5.out; have := HK3.out; omega
       case rel => exact ⟨(y239), (wrap64 (x7_3 + 1)), yZ, H', ⟨by have := HK1.out; have := HJ5.out; have := HK3.out; omega⟩, ⟨xS HO_3.out⟩, ⟨zR (rM HO_4.out (fun _ hk => hk.2))⟩, ⟨xR HO241.out⟩, ⟨xH HB.out⟩⟩
end Go.Proofs.Ytgidnmpppbkamaa.PFnExactPlaneClass
