-- Laid for this claim by a program of the session's own (wip/tool/myprint.py).
import Derived.Test.YtgidnmpppbkamaaMFnExactPlaneClassx0
import Derived.Test.YtgidnmpppbkamaaMFnExactPlaneClassx2
import Derived.Test.YtgidnmpppbkamaaMFnExactPlaneClassx3
namespace Go.Proofs.Ytgidnmpppbkamaa.PFnExactPlaneClass
open Go.RowKit Go.Proofs.YtgidnmpppbkamaaW.PrintWords Go.Proofs.YtgidnmpppbkamaaW.PrintLast Go.Proofs.YtgidnmpppbkamaaW.PrintMore
attribute [local go_sem] max2_int min2_int max_two min_two max_three min_three max_four min_four
set_option linter.unusedVariables false
set_option maxHeartbeats 8000000
set_option maxRecDepth 100000
set_option linter.unusedSimpArgs false
mutual
def spec_l4Divided.l0 : Nat → List Int → Int → Int → Option (List Int)
 | 0, _, _, _ => none
 | k + 1, x0, x3, x4 => if x4 < (x0.length : Int) then (if 0 ≤ x4 then (if (rd x0 x4) = 0 then (spec_l4Divided.l0 k x0 x3 (wrap64 (x4 + 1))) else ((spec_l1Most.f (rd x0 x4) (wrap64 (-(rd x0 x4)))).bind fun t178 => ((spec_l2Gcd.f k t178 x3).bind fun t179 => (spec_l4Divided.l0 k x0 t179 (wrap64 (x4 + 1)))))) else (none)) else ((spec_l1Own.f x0).bind fun t180 => (spec_l4Divided.l1 k x3 t180 0))
def spec_l4Divided.l1 : Nat → Int → List Int → Int → Option (List Int)
 | 0, _, _, _ => none
 | k + 1, x3, x5, x6 => if x6 < (x5.length : Int) then (if x3 > 1 then (if 0 ≤ x6 then (if x3 = 0 then (none) else (spec_l4Divided.l1 k x3 (x5.set (x6 : Int).toNat (wrap64 (Int.tdiv (rd x5 x6) x3))) (wrap64 (x6 + 1)))) else (none)) else (some x5)) else (some x5)
end
def spec_l4Divided.f (k : Nat) (l0 : List Int) : Option (List Int) := spec_l4Divided.l0 k l0 0 0
theorem spec_l4Divided.calls (k : Nat) (A0 : Option Addr) (c0 : Nat) (l0 : List Int) (r : List Int) (w : World) (hr0 : Kd.C (Kd.int .i64) w A0 l0.length l0) (hc0 : l0.length ≤ c0) (h : spec_l4Divided.f k l0 = some r) :
  Calls Try.prog 99 #[.slice A0 l0.length c0] w fun e w' => ∃ v0_ : Value, e = .returned (v0_) ∧ Kd.R (Kd.int .i64) 3 w' w.heap.size (fun _ => True) v0_ r ∧ Below w.heap.size w w' := by
 have HR0 := aM hr0
 have HC0 := aM hc0
 clear hr0 hc0
 have HB := aM (Below.refl w.heap.size w)
 have H : (spec_l4Divided.l0 k l0 0 0) = some r := h
 clear h
 have H' := aM H
 clear H
 go_enter Try.func99, Try.ntmps99
 go_wp2
 repeat (go_quiet (fail); try go_wp2)
 go_loopg [3, 4] k (fun kq v3 v4 w' => ∃ (x3_1 : Int) (x4_1 : Int), v3 = .int .i64 x3_1 ∧ v4 = .int .i64 x4_1 ∧ Aside0 (spec_l4Divided.l0 kq l0 x3_1 x4_1 = some r) ∧ Aside0 (kq ≤ k) ∧ Aside0 (Below w.heap.size w w'))
 case atStart => exact ⟨(0), (0), yZ, yZ, H', ⟨Nat.le_refl _⟩, ⟨xH HB.out⟩⟩
 case round =>
  clear H'
  obtain ⟨x3_1, x4_1, rfl, rfl, HA, HK1, HB⟩ := hrel
  cases gk with
  | zero => exact absurd HA.out (by simp [spec_l4Divided.l0])
  | succ k1 =>
   have H := HA.out
   clear HA
   simp only [spec_l4Divided.l0] at H
   by_cases c2 : x4_1 < (l0.length : Int)
   ·
    rw [if_pos c2] at H
    have c2b0 := decide_eq_true c2
    clear c2
    by_cases c3 : 0 ≤ x4_1
    rotate_left
    ·
     rw [if_neg c3] at H
     exact absurd H (by simp)
    rw [if_pos c3] at H
    have c3b0 := decide_eq_true c3
    clear c3
    by_cases c4 : (rd l0 x4_1) = 0
    ·
     rw [if_pos c4] at H
     have c4b0 : ((rd l0 x4_1) == 0) = true := beq_iff_eq.mpr c4
     have c4b1 : ((rd l0 x4_1) != 0) = false := bne_eq_false_iff_eq.mpr c4
     clear c4
     have H' := aM H
     clear H
     have p175 : 0 ≤ (x4_1 : Int) := yA
     have q175 : x4_1 < (l0.length : Int) := yA
     obtain ⟨ad175, e175, hx175_0⟩ := Kd.at_int HR0.out x4_1 p175 q175
     cases e175
     replace hx175_0 := (HB.out.cell (World.block_lt_of_cell? w _ hx175_0)).trans hx175_0
     replace p175 := eq_true p175
     replace q175 := eq_true q175
     go_wp2
     repeat (go_quiet (fail); try go_wp2)
     go_roundg k1
     case measure => have := HK1.out; omega
     case rel => exact ⟨(x3_1), (wrap64 (x4_1 + 1)), yZ, yZ, H', ⟨by have := HK1.out; omega⟩, ⟨xH HB.out⟩⟩
    rw [if_neg c4] at H
    have c4b0 : ((rd l0 x4_1) == 0) = false := beq_eq_false_iff_ne.mpr c4
    have c4b1 : ((rd l0 x4_1) != 0) = true := bne_iff_ne.mpr c4
    replace H := oB.mp H
    obtain ⟨t178, A50, H⟩ := H
    have A5 := aM A50
    clear A50
    replace H := oB.mp H
    obtain ⟨t179, A60, H⟩ := H
    have A6 := aM A60
    clear A60
    have H' := aM H
    clear H
    have p175 : 0 ≤ (x4_1 : Int) := yA
    have q175 : x4_1 < (l0.length : Int) := yA
    obtain ⟨ad175, e175, hx175_0⟩ := Kd.at_int HR0.out x4_1 p175 q175
    cases e175
    replace hx175_0 := (HB.out.cell (World.block_lt_of_cell? w _ hx175_0)).trans hx175_0
    replace p175 := eq_true p175
    replace q175 := eq_true q175
    have p176 : 0 ≤ (x4_1 : Int) := yA
    have q176 : x4_1 < (l0.length : Int) := yA
    obtain ⟨ad176, e176, hx176_0⟩ := Kd.at_int HR0.out x4_1 p176 q176
    obtain rfl : ad175 = ad176 := (by injection e176)
    replace hx176_0 := (HB.out.cell (World.block_lt_of_cell? w _ hx176_0)).trans hx176_0
    replace p176 := eq_true p176
    replace q176 := eq_true q176
    have p177 : 0 ≤ (x4_1 : Int) := yA
    have q177 : x4_1 < (l0.length : Int) := yA
    obtain ⟨ad177, e177, hx177_0⟩ := Kd.at_int HR0.out x4_1 p177 q177
    obtain rfl : ad175 = ad177 := (by injection e177)
    replace hx177_0 := (HB.out.cell (World.block_lt_of_cell? w _ hx177_0)).trans hx177_0
    replace p177 := eq_true p177
    replace q177 := eq_true q177
    go_wp2_with (first | (go_at_call 97; (with_reducible refine (spec_l1Most.calls (rd l0 x4_1) (wrap64 (-(rd l0 x4_1))) t178 _ A5.out).mono ?_); rintro e w' ⟨rfl, ⟨nd, rfl⟩⟩; (try first | exact ⟨rfl, _, World.drewN_drewN _ _ _⟩ | exact ⟨rfl, _, Eq.trans (World.drewN_drewN _ _ _) (congrArg (World.drewN _) (Nat.add_assoc _ _ _))⟩)) | (go_at_call 98; (with_reducible refine (spec_l2Gcd.calls k1 t178 x3_1 t179 _ A6.out).mono ?_); rintro e w' ⟨rfl, ⟨nd, rfl⟩⟩; (try first | exact ⟨rfl, _, World.drewN_drewN _ _ _⟩ | exact ⟨rfl, _, Eq.trans (World.drewN_drewN _ _ _) (congrArg (World.drewN _) (Nat.add_assoc _ _ _))⟩)))
    repeat (go_quiet (first | (go_at_call 97; (with_reducible refine (spec_l1Most.calls (rd l0 x4_1) (wrap64 (-(rd l0 x4_1))) t178 _ A5.out).mono ?_); rintro e w' ⟨rfl, ⟨nd, rfl⟩⟩; (try first | exact ⟨rfl, _, World.drewN_drewN _ _ _⟩ | exact ⟨rfl, _, Eq.trans (World.drewN_drewN _ _ _) (congrArg (World.drewN _) (Nat.add_assoc _ _ _))⟩)) | (go_at_call 98; (with_reducible refine (spec_l2Gcd.calls k1 t178 x3_1 t179 _ A6.out).mono ?_); rintro e w' ⟨rfl, ⟨nd, rfl⟩⟩; (try first | exact ⟨rfl, _, World.drewN_drewN _ _ _⟩ | exact ⟨rfl, _, Eq.trans (World.drewN_drewN _ _ _) (congrArg (World.drewN _) (Nat.add_assoc _ _ _))⟩))); try go_wp2_with (first | (go_at_call 97; (with_reducible refine (spec_l1Most.calls (rd l0 x4_1) (wrap64 (-(rd l0 x4_1))) t178 _ A5.out).mono ?_); rintro e w' ⟨rfl, ⟨nd, rfl⟩⟩; (try first | exact ⟨rfl, _, World.drewN_drewN _ _ _⟩ | exact ⟨rfl, _, Eq.trans (World.drewN_drewN _ _ _) (congrArg (World.drewN _) (Nat.add_assoc _ _ _))⟩)) | (go_at_call 98; (with_reducible refine (spec_l2Gcd.calls k1 t178 x3_1 t179 _ A6.out).mono ?_); rintro e w' ⟨rfl, ⟨nd, rfl⟩⟩; (try first | exact ⟨rfl, _, World.drewN_drewN _ _ _⟩ | exact ⟨rfl, _, Eq.trans (World.drewN_drewN _ _ _) (congrArg (World.drewN _) (Nat.add_assoc _ _ _))⟩))))
    go_roundg k1
    case measure => have := HK1.out; omega
    case rel => exact ⟨(t179), (wrap64 (x4_1 + 1)), yZ, yZ, H', ⟨by have := HK1.out; omega⟩, ⟨xH HB.out⟩⟩
   rw [if_neg c2] at H
   have c2b0 := decide_eq_false c2
   clear c2
   replace H := oB.mp H
   obtain ⟨t180, A70, H⟩ := H
   have A7 := aM A70
   clear A70
   have H' := aM H
   clear H
   go_wp2_with (first | (go_at_call 95; (with_reducible refine (spec_l1Own.calls _ _ l0 t180 _ ?side1 ?side2 A7.out).mono ?_); (case side1 => exact xC (Kd.C_below HR0.out HB.out)); (case side2 => exact HC0.out); rintro e w8 ⟨v181, rfl, ho0, hb⟩; have HO182 := aM (Kd.R_lower ho0 (below_size (xH HB.out))); replace HB := yS0 HB hb; (try clear hb; try clear hk; try clear ho0)))
   repeat (go_quiet (first | (go_at_call 95; (with_reducible refine (spec_l1Own.calls _ _ l0 t180 _ ?side1 ?side2 A7.out).mono ?_); (case side1 => exact xC (Kd.C_below HR0.out HB.out)); (case side2 => exact HC0.out); rintro e w8 ⟨v181, rfl, ho0, hb⟩; have HO182 := aM (Kd.R_lower ho0 (below_size (xH HB.out))); replace HB := yS0 HB hb; (try clear hb; try clear hk; try clear ho0))); try go_wp2_with (first | (go_at_call 95; (with_reducible refine (spec_l1Own.calls _ _ l0 t180 _ ?side1 ?side2 A7.out).mono ?_); (case side1 => exact xC (Kd.C_below HR0.out HB.out)); (case side2 => exact HC0.out); rintro e w8 ⟨v181, rfl, ho0, hb⟩; have HO182 := aM (Kd.R_lower ho0 (below_size (xH HB.out))); replace HB := yS0 HB hb; (try clear hb; try clear hk; try clear ho0))))
   go_loopg [6] k1 (fun kq v6 w' => ∃ (x5_2 : List Int) (x6_2 : Int), v6 = .int .i64 x6_2 ∧ Aside0 (spec_l4Divided.l1 kq x3_1 x5_2 x6_2 = some r) ∧ Aside0 (kq ≤ k1) ∧ Aside0 (Kd.R (Kd.int .i64) 3 w' w.heap.size (fun _ => True) v181 x5_2) ∧ Aside0 (Below w.heap.size w w'))
   case atStart => exact ⟨(t180), (0), yZ, H', ⟨Nat.le_refl _⟩, ⟨xR HO182.out⟩, ⟨xH HB.out⟩⟩
   case round =>
    clear H'
    try clear c2; try clear c2b0; try clear c3; try clear c3b0; try clear c4; try clear c4b0; try clear c4b1; try clear hx175_0; try clear hx176_0; try clear hx177_0; try clear p175; try clear p176; try clear p177; try clear q175; try clear q176; try clear q177
    obtain ⟨x5_2, x6_2, rfl, HA, HK2, HO_5, HB⟩ := hrel
    cases gk with
    | zero => exact absurd HA.out (by simp [spec_l4Divided.l1])
    | succ k2 =>
     have H := HA.out
     clear HA
     simp only [spec_l4Divided.l1] at H
     by_cases c9 : x6_2 < (x5_2.length : Int)
     rotate_left
     ·
      rw [if_neg c9] at H
      have c9b0 := decide_eq_false c9
      clear c9
      obtain rfl := Option.some.inj H
      obtain ⟨Ao18, co18, eo18⟩ := Kd.R_slice HO_5.out
      subst eo18
      go_wp2
      repeat (go_quiet (fail); try go_wp2)
      go_ret
      exact ⟨_, yF, xR HO_5.out, by repeat (first | (with_reducible first | exact HB.out | apply eA | apply eN | apply eD) | exact HB.out)⟩
     rw [if_pos c9] at H
     have c9b0 := decide_eq_true c9
     clear c9
     by_cases c10 : x3_1 > 1
     rotate_left
     ·
      rw [if_neg c10] at H
      have c10b0 : decide (1 < x3_1) = false := decide_eq_false c10
      clear c10
      obtain rfl := Option.some.inj H
      obtain ⟨Ao17, co17, eo17⟩ := Kd.R_slice HO_5.out
      subst eo17
      go_wp2
      repeat (go_quiet (fail); try go_wp2)
      go_ret
      exact ⟨_, yF, xR HO_5.out, by repeat (first | (with_reducible first | exact HB.out | apply eA | apply eN | apply eD) | exact HB.out)⟩
     rw [if_pos c10] at H
     have c10b0 : decide (1 < x3_1) = true := decide_eq_true c10
     clear c10
     by_cases c11 : 0 ≤ x6_2
     rotate_left
     ·
      rw [if_neg c11] at H
      exact absurd H (by simp)
     rw [if_pos c11] at H
     have c11b0 := decide_eq_true c11
     clear c11
     by_cases c12 : x3_1 = 0
     ·
      rw [if_pos c12] at H
      exact absurd H (by simp)
     rw [if_neg c12] at H
     have c12b0 : (x3_1 == 0) = false := beq_eq_false_iff_ne.mpr c12
     have c12b1 : (x3_1 != 0) = true := bne_iff_ne.mpr c12
     obtain ⟨y184, hy184⟩ := yE (x5_2.set (x6_2 : Int).toNat (wrap64 (Int.tdiv (rd x5_2 x6_2) x3_1)) : List Int)
     replace H : (spec_l4Divided.l1 k2 x3_1 y184 (wrap64 (x6_2 + 1))) = some r := yI hy184 H
     have Ny184 := aM hy184
     clear hy184
     have H' := aM H
     clear H
     obtain ⟨Ao14, co14, eo14⟩ := Kd.R_slice HO_5.out
     subst eo14
     have p183 : 0 ≤ (x6_2 : Int) := yA
     have q183 : x6_2 < (x5_2.length : Int) := yA
     obtain ⟨ad183, e183, hx183_0⟩ := Kd.at_int (Kd.R_reads' HO_5.out).2.2 x6_2 p183 q183
     cases e183
     replace p183 := eq_true p183
     replace q183 := eq_true q183
     have p13 : 0 ≤ (x6_2 : Int) := yA
     have q13 : (x6_2 : Int) < ((x5_2.length : Int) : Int) := yA
     obtain ⟨go13, co13, eo13, gb13, gl13, cl13, HG13⟩ := Kd.R_form HO_5.out (by omega)
     (first | cases eo13 | (injection eo13 with ea_ en_ ec_; (first | subst ea_ | (injection ea_ with ea_; subst ea_)); subst ec_; clear en_))
     have GB13 := aM gb13
     have GG13 := aM HG13
     clear gb13 gl13 HG13
     (first | simp only [add_plain] at hx183_0 | skip)
     obtain ⟨hx13_0, hf13_0⟩ := Kd.R_celln 0 HO_5.out (x6_2 : Int) p13 q13
     replace p13 := eq_true p13
     replace q13 := eq_true q13
     have HP15 := Kd.R_putg HO_5.out (x6_2 : Int) (wrap64 (Int.tdiv (rd x5_2 x6_2) x3_1))
     go_wp2_with (first | ((with_reducible refine gate_store (t := 3) (p := 50) rfl ?_); (try (rw [drewN_self wr]; generalize hq_ : World.drewN wr _ = wr; have HO_5 := aM (Kd.R_at hq_ HO_5.out); have HB := aM (below_at hq_ HB.out); (try (have HP15 := Kd.R_putg HO_5.out (x6_2 : Int) (wrap64 (Int.tdiv (rd x5_2 x6_2) x3_1)))))); refine store_event (t := 3) (p := 50) (v := ?vo_w16) (w1 := (wr.setCell ⟨go13, (x6_2 : Int).toNat, none⟩ (.int .i64 (wrap64 (Int.tdiv (rd x5_2 x6_2) x3_1))))) ?hg ?ho ?hn ?hr ?_; (case ho => rfl); (case hg => rfl); (case hn => rfl); (case hr => first | (go_simp; done) | (go_simp; rfl)); intro w16 hw; have hg : wr.grownBy w16 (some go13) := (by rw [hw]; exact HP15.2); have hp_ : Kd.R (Kd.int .i64) 3 w16 w.heap.size (fun _ => True) (.slice (some ⟨go13, 0, none⟩) x5_2.length co14) y184 := (by rw [hw, Ny184.out]; exact HP15.1); clear HP15; replace HO_5 := aM (hp_); replace HB := aM ((by rw [hw]; exact eS (HB.out) GB13.out : Below w.heap.size w w16)); clear hg hw hp_))
     repeat (go_quiet (first | ((with_reducible refine gate_store (t := 3) (p := 50) rfl ?_); (try (rw [drewN_self wr]; generalize hq_ : World.drewN wr _ = wr; have HO_5 := aM (Kd.R_at hq_ HO_5.out); have HB := aM (below_at hq_ HB.out); (try (have HP15 := Kd.R_putg HO_5.out (x6_2 : Int) (wrap64 (Int.tdiv (rd x5_2 x6_2) x3_1)))))); refine store_event (t := 3) (p := 50) (v := ?vo_w16) (w1 := (wr.setCell ⟨go13, (x6_2 : Int).toNat, none⟩ (.int .i64 (wrap64 (Int.tdiv (rd x5_2 x6_2) x3_1))))) ?hg ?ho ?hn ?hr ?_; (case ho => rfl); (case hg => rfl); (case hn => rfl); (case hr => first | (go_simp; done) | (go_simp; rfl)); intro w16 hw; have hg : wr.grownBy w16 (some go13) := (by rw [hw]; exact HP15.2); have hp_ : Kd.R (Kd.int .i64) 3 w16 w.heap.size (fun _ => True) (.slice (some ⟨go13, 0, none⟩) x5_2.length co14) y184 := (by rw [hw, Ny184.out]; exact HP15.1); clear HP15; replace HO_5 := aM (hp_); replace HB := aM ((by rw [hw]; exact eS (HB.out) GB13.out : Below w.heap.size w w16)); clear hg hw hp_)); try go_wp2_with (first | ((with_reducible refine gate_store (t := 3) (p := 50) rfl ?_); (try (rw [drewN_self wr]; generalize hq_ : World.drewN wr _ = wr; have HO_5 := aM (Kd.R_at hq_ HO_5.out); have HB := aM (below_at hq_ HB.out); (try (have HP15 := Kd.R_putg HO_5.out (x6_2 : Int) (wrap64 (Int.tdiv (rd x5_2 x6_2) x3_1)))))); refine store_event (t := 3) (p := 50) (v := ?vo_w16) (w1 := (wr.setCell ⟨go13, (x6_2 : Int).toNat, none⟩ (.int .i64 (wrap64 (Int.tdiv (rd x5_2 x6_2) x3_1))))) ?hg ?ho ?hn ?hr ?_; (case ho => rfl); (case hg => rfl); (case hn => rfl); (case hr => first | (go_simp; done) | (go_simp; rfl)); intro w16 hw; have hg : wr.grownBy w16 (some go13) := (by rw [hw]; exact HP15.2); have hp_ : Kd.R (Kd.int .i64) 3 w16 w.heap.size (fun _ => True) (.slice (some ⟨go13, 0, none⟩) x5_2.length co14) y184 := (by rw [hw, Ny184.out]; exact HP15.1); clear HP15; replace HO_5 := aM (hp_); replace HB := aM ((by rw [hw]; exact eS (HB.out) GB13.out : Below w.heap.size w w16)); clear hg hw hp_)))
     go_roundg k2
     case measure => have := HK1.out; have := HK2.out; omega
     case rel => exact ⟨(y184), (wrap64 (x6_2 + 1)), yZ, H', ⟨by have := HK1.out; have := HK2.out; omega⟩, ⟨xR HO_5.out⟩, ⟨xH HB.out⟩⟩
def spec_l2Rows.l0 : Nat → List (List Int) → List (List Int) → Int → Option ((List (List Int)))
 | 0, _, _, _ => none
 | k + 1, x0, x3, x4 => if x4 < (x0.length : Int) then (if 0 ≤ x4 then ((spec_l1Own.f (rd_L1 x0 x4)).bind fun t189 => (if x3.length < 5864062014805 then (spec_l2Rows.l0 k x0 (x3 ++ [t189]) (wrap64 (x4 + 1))) else (none))) else (none)) else (some x3)
def spec_l2Rows.f (k : Nat) (l0 : List (List Int)) : Option ((List (List Int))) := spec_l2Rows.l0 k l0 (([] : List (List Int))) 0
theorem spec_l2Rows.calls (k : Nat) (A0 : Option Addr) (c0 : Nat) (l0 : List (List Int)) (r : List (List Int)) (w : World) (hr0 : Kd.C (Kd.slice 3 (Kd.int .i64)) w A0 l0.length l0) (hc0 : l0.length ≤ c0) (h : spec_l2Rows.f k l0 = some r) :
  Calls Try.prog 117 #[.slice A0 l0.length c0] w fun e w' => ∃ v0_ : Value, e = .returned (v0_) ∧ Kd.S (Kd.slice 3 (Kd.int .i64)) 22 w' w.heap.size (fun _ => True) v0_ r ∧ Below w.heap.size w w' := by
 have HR0 := aM hr0
 have HC0 := aM hc0
 clear hr0 hc0
 have HB := aM (Below.refl w.heap.size w)
 have H : (spec_l2Rows.l0 k l0 (([] : List (List Int))) 0) = some r := h
 clear h
 obtain ⟨y185, hy185⟩ := yE (([] : List (List Int)) : List (List Int))
 replace H : (spec_l2Rows.l0 k l0 y185 0) = some r := yI hy185 H
 have Ny185 := aM hy185
 clear hy185
 have H' := aM H
 clear H
 go_enter Try.func117, Try.ntmps117
 go_wp2_with (first | ((with_reducible refine gate_dst (N := 5) rfl ?_); refine Kd.S_lit (Kd.slice 3 (Kd.int .i64)) _ 22 ?hg (N := 5) ?hd (xs := ([] : List (List Int))) (inner := []) (ok := fun _ => True) (okp := fun _ => True) ?hr ?hp (fun _ hk => hk) trivial (Below.refl _ _) (Nat.le_refl _) (by simp) ?_; (case hd => rfl); (case hg => rfl); (case hr => first | (go_simp; done) | (go_simp; rfl)); (case hp => exact (Reps.none _ _)); intro v186 w2 ho3 hb hg_ hnew_; clear hg_ hnew_; (first | rw [← Ny185.out] at ho3 | (simp only [Int.reduceToNat] at ho3; rw [← Ny185.out] at ho3)); have HO187 := aM (Kd.S_lower ho3 (below_size (xH HB.out))); replace HB := yS0 HB hb; clear hb ho3))
 go_loopg [3, 4] k (fun kq v3 v4 w' => ∃ (x3_1 : List (List Int)) (x4_1 : Int), v4 = .int .i64 x4_1 ∧ Aside0 (spec_l2Rows.l0 kq l0 x3_1 x4_1 = some r) ∧ Aside0 (kq ≤ k) ∧ Aside0 (Kd.S (Kd.slice 3 (Kd.int .i64)) 22 w' w.heap.size (fun _ => True) v3 x3_1) ∧ Aside0 (Below w.heap.size w w'))
 case atStart => exact ⟨(y185), (0), yZ, H', ⟨Nat.le_refl _⟩, ⟨xS HO187.out⟩, ⟨xH HB.out⟩⟩
 case round =>
  clear H'
  obtain ⟨x3_1, x4_1, rfl, HA, HK1, HO_3, HB⟩ := hrel
  cases gk with
  | zero => exact absurd HA.out (by simp [spec_l2Rows.l0])
  | succ k1 =>
   have H := HA.out
   clear HA
   simp only [spec_l2Rows.l0] at H
   by_cases c4 : x4_1 < (l0.length : Int)
   rotate_left
   ·
    rw [if_neg c4] at H
    have c4b0 := decide_eq_false c4
    clear c4
    obtain rfl := Option.some.inj H
    go_wp2
    go_ret
    exact ⟨_, yF, xS HO_3.out, by repeat (first | (with_reducible first | exact HB.out | apply eA | apply eN | apply eD) | exact HB.out)⟩
   rw [if_pos c4] at H
   have c4b0 := decide_eq_true c4
   clear c4
   by_cases c5 : 0 ≤ x4_1
   rotate_left
   ·
    rw [if_neg c5] at H
    exact absurd H (by simp)
   rw [if_pos c5] at H
   have c5b0 := decide_eq_true c5
   clear c5
   replace H := oB.mp H
   obtain ⟨t189, A60, H⟩ := H
   have A6 := aM A60
   clear A60
   by_cases c7 : x3_1.length < 5864062014805
   rotate_left
   ·
    rw [if_neg c7] at H
    exact absurd H (by simp)
   rw [if_pos c7] at H
   have LMc7 := aM c7
   clear c7
   obtain ⟨y192, hy192⟩ := yE (x3_1 ++ [t189] : List (List Int))
   replace H : (spec_l2Rows.l0 k1 l0 y192 (wrap64 (x4_1 + 1))) = some r := yI hy192 H
   have Ny192 := aM hy192
   clear hy192
   have H' := aM H
   clear H
   have p188 : 0 ≤ (x4_1 : Int) := yA
   have q188 : x4_1 < (l0.length : Int) := yA
   obtain ⟨ad188, A188_0, c188_0, e188, hx188_0, hl188_0, hi188_0⟩ := at_L1 HR0.out x4_1 p188 q188
   cases e188
   replace hx188_0 := (HB.out.cell (World.block_lt_of_cell? w _ hx188_0)).trans hx188_0
   have HR188_0 := aM hi188_0
   have HC188_0 := aM hl188_0
   clear hi188_0 hl188_0
   replace p188 := eq_true p188
   replace q188 := eq_true q188
   go_wp2_with (first | (refine yL 17 Try.func95 #[.slice A188_0 (rd_L1 l0 x4_1).length c188_0] ?_; (with_reducible refine (spec_l1Own.calls _ _ (rd_L1 l0 x4_1) t189 _ ?side1 ?side2 A6.out).mono ?_); (case side1 => exact xC (Kd.C_below HR188_0.out HB.out)); (case side2 => exact HC188_0.out); rintro e w8 ⟨v190, rfl, ho0, hb⟩; refine ⟨_, rfl, ?_⟩; replace HO_3 := aM (Kd.S_elder' (xS HO_3.out) (Kd.R_base ho0) hb); have HO191 := aM (Kd.R_lower ho0 (below_size (xH HB.out))); replace HB := yS0 HB hb; (try clear hb; try clear hk; try clear ho0); obtain ⟨Ao10, co10, eo10⟩ := Kd.R_slice HO191.out; subst eo10) | ((with_reducible refine gate_builtin (b := .append) (xs := #[.tmp 12, .tmp 18]) rfl ?_); at_builtin; refine Kd.S_append (Kd.slice 3 (Kd.int .i64)) (w0 := w) w.heap.size rfl (.tmp 12) (.tmp 18) 32 22 (.slice none 0 0) 24 rfl Try.underlying32 info22 rfl (by decide) (by omega) u3 x3_1 t189 [.slice Ao10 t189.length co10] (fun _ => True) (fun k_ => some k_ = (.slice Ao10 t189.length co10 : Value).ownBlock) rfl rfl ?aP (fun k_ hk_ => ((rM (ok' := fun k_ => ((fun _ => True)) k_ ∧ some k_ ≠ (u3 : Value).ownBlock) (Kd.R_apart' (HO191.out) (Kd.S_typed HO_3.out) (by decide)) (fun k_ hk => ⟨trivial, hk.2⟩))).1 k_ hk_.symm) ?aF ?aO ?aB ?aS ?aL ?_; (case aP => exact Kd.M_row (rM (Kd.R_tight rfl (rM (ok' := fun k_ => ((fun _ => True)) k_ ∧ some k_ ≠ (u3 : Value).ownBlock) (Kd.R_apart' (HO191.out) (Kd.S_typed HO_3.out) (by decide)) (fun k_ hk => ⟨trivial, hk.2⟩))) (fun _ h_ => h_))); (case aB => exact (xH HB.out)); (case aF => exact (fun _ _ => trivial)); (case aO => exact (zS (Kd.S_mono HO_3.out (fun k_ hk => ⟨trivial, fun e_ => hk.2 e_⟩)))); (case aS => exact (below_size (xH HB.out))); (case aL => have := LMc7.out; omega); intro v193 w9 ho hb hg hat; rw [← Ny192.out] at ho; replace HB := aM (hb); have HO194 := aM (ho); clear HO_3; clear HO191; clear ho hb hg hat))
   go_roundg k1
   case measure => have := HK1.out; omega
   case rel => exact ⟨(y192), (wrap64 (x4_1 + 1)), yZ, H', ⟨by have := HK1.out; omega⟩, ⟨xS HO194.out⟩, ⟨xH HB.out⟩⟩
end Go.Proofs.Ytgidnmpppbkamaa.PFnExactPlaneClass
