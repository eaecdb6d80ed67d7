-- Laid for this claim by a program of the session's own (wip/tool/myprint.py).
import Derived.Test.YtihnmdnmjieffaaMFnExactShattersSetx0
import Derived.Test.YtihnmdnmjieffaaMFnExactShattersSetx1
import Derived.Test.YtihnmdnmjieffaaMFnExactShattersSetx2
namespace Go.Proofs.Ytihnmdnmjieffaa.PFnExactShattersSet
open Go.RowKit Go.Proofs.YtihnmdnmjieffaaW.PrintWords Go.Proofs.YtihnmdnmjieffaaW.PrintLast Go.Proofs.YtihnmdnmjieffaaW.PrintMore
attribute [local go_sem] max2_int min2_int max_two min_two max_three min_three max_four min_four   -- for this text's walks alone
set_option linter.unusedVariables false
set_option maxHeartbeats 8000000
set_option maxRecDepth 100000
set_option linter.unusedSimpArgs false

/-! ### spec_l7Traces: function 85 -/
mutual
def spec_l7Traces.l0 : Nat → List (List Int) → List Int → List (List Int) → Int → Option ((List (List Int)))
  | 0, _, _, _, _ => none
  | k + 1, x0, x1, x5, x6 => if x6 < (x0.length : Int) then (if 0 ≤ x6 then ((spec_l7At.f k (rd_L1 x0 x6) x1).bind fun t144 => (spec_l7Traces.l1 k x0 x1 x5 x6 t144 (x5.length : Int))) else (none)) else (some x5)
def spec_l7Traces.l1 : Nat → List (List Int) → List Int → List (List Int) → Int → List Int → Int → Option ((List (List Int)))
  | 0, _, _, _, _, _, _ => none
  | k + 1, x0, x1, x5, x6, x7, x8 => if x8 > 0 then (if 0 ≤ (wrap64 (x8 - 1)) then (if (wrap64 (x8 - 1)) < (x5.length : Int) then ((spec_l7Before.f k x7 (rd_L1 x5 (wrap64 (x8 - 1)))).bind fun t148 => (if t148 = true then (spec_l7Traces.l1 k x0 x1 x5 x6 x7 (wrap64 (x8 - 1))) else (if x8 = 0 then ((some (([] : List (List Int)) : List (List Int))).bind fun y149 => (if 0 ≤ x8 then (if x8 ≤ (x5.length : Int) then ((some (x5.take (x8 : Int).toNat : List (List Int))).bind fun y152 => (if y149.length + y152.length < 5864062014805 then ((some (y149 ++ y152 : List (List Int))).bind fun y157 => ((some (([x7] : List (List Int)) : List (List Int))).bind fun y160 => (if y157.length + y160.length < 5864062014805 then ((some (y157 ++ y160 : List (List Int))).bind fun y163 => ((some (x5.drop (x8 : Int).toNat : List (List Int))).bind fun y166 => (if y163.length + y166.length < 5864062014805 then (spec_l7Traces.l0 k x0 x1 (y163 ++ y166) (wrap64 (x6 + 1))) else (none)))) else (none)))) else (none))) else (none)) else (none))) else ((spec_l7Before.f k (rd_L1 x5 (wrap64 (x8 - 1))) x7).bind fun t175 => (if t175 = true then ((some (([] : List (List Int)) : List (List Int))).bind fun y176 => (if 0 ≤ x8 then (if x8 ≤ (x5.length : Int) then ((some (x5.take (x8 : Int).toNat : List (List Int))).bind fun y179 => (if y176.length + y179.length < 5864062014805 then ((some (y176 ++ y179 : List (List Int))).bind fun y184 => ((some (([x7] : List (List Int)) : List (List Int))).bind fun y187 => (if y184.length + y187.length < 5864062014805 then ((some (y184 ++ y187 : List (List Int))).bind fun y190 => ((some (x5.drop (x8 : Int).toNat : List (List Int))).bind fun y193 => (if y190.length + y193.length < 5864062014805 then (spec_l7Traces.l0 k x0 x1 (y190 ++ y193) (wrap64 (x6 + 1))) else (none)))) else (none)))) else (none))) else (none)) else (none))) else (spec_l7Traces.l0 k x0 x1 x5 (wrap64 (x6 + 1)))))))) else (none)) else (none)) else (if x8 = 0 then ((some (([] : List (List Int)) : List (List Int))).bind fun y201 => (if 0 ≤ x8 then (if x8 ≤ (x5.length : Int) then ((some (x5.take (x8 : Int).toNat : List (List Int))).bind fun y204 => (if y201.length + y204.length < 5864062014805 then ((some (y201 ++ y204 : List (List Int))).bind fun y209 => ((some (([x7] : List (List Int)) : List (List Int))).bind fun y212 => (if y209.length + y212.length < 5864062014805 then ((some (y209 ++ y212 : List (List Int))).bind fun y215 => ((some (x5.drop (x8 : Int).toNat : List (List Int))).bind fun y218 => (if y215.length + y218.length < 5864062014805 then (spec_l7Traces.l0 k x0 x1 (y215 ++ y218) (wrap64 (x6 + 1))) else (none)))) else (none)))) else (none))) else (none)) else (none))) else (if 0 ≤ (wrap64 (x8 - 1)) then (if (wrap64 (x8 - 1)) < (x5.length : Int) then ((spec_l7Before.f k (rd_L1 x5 (wrap64 (x8 - 1))) x7).bind fun t227 => (if t227 = true then ((some (([] : List (List Int)) : List (List Int))).bind fun y228 => (if 0 ≤ x8 then (if x8 ≤ (x5.length : Int) then ((some (x5.take (x8 : Int).toNat : List (List Int))).bind fun y231 => (if y228.length + y231.length < 5864062014805 then ((some (y228 ++ y231 : List (List Int))).bind fun y236 => ((some (([x7] : List (List Int)) : List (List Int))).bind fun y239 => (if y236.length + y239.length < 5864062014805 then ((some (y236 ++ y239 : List (List Int))).bind fun y242 => ((some (x5.drop (x8 : Int).toNat : List (List Int))).bind fun y245 => (if y242.length + y245.length < 5864062014805 then (spec_l7Traces.l0 k x0 x1 (y242 ++ y245) (wrap64 (x6 + 1))) else (none)))) else (none)))) else (none))) else (none)) else (none))) else (spec_l7Traces.l0 k x0 x1 x5 (wrap64 (x6 + 1))))) else (none)) else (none)))
end
def spec_l7Traces.f (k : Nat) (l0 : List (List Int)) (l1 : List Int) : Option ((List (List Int))) := spec_l7Traces.l0 k l0 l1 (([] : List (List Int))) 0
theorem spec_l7Traces.mono_l : ∀ k, (∀ y0 y1 y2 y3, LeO (spec_l7Traces.l0 k y0 y1 y2 y3) (spec_l7Traces.l0 (k + 1) y0 y1 y2 y3)) ∧ (∀ y0 y1 y2 y3 y4 y5, LeO (spec_l7Traces.l1 k y0 y1 y2 y3 y4 y5) (spec_l7Traces.l1 (k + 1) y0 y1 y2 y3 y4 y5))
  | 0 => ⟨fun _ _ _ _ r h => by simp [spec_l7Traces.l0] at h, fun _ _ _ _ _ _ r h => by simp [spec_l7Traces.l1] at h⟩
  | k + 1 => by
    obtain ⟨ih0, ih1⟩ := spec_l7Traces.mono_l k
    refine ⟨?_, ?_⟩
    · intro y0 y1 y2 y3
      unfold spec_l7Traces.l0
      repeat' first
      | (with_reducible first | exact ih0 _ _ _ _ | exact ih1 _ _ _ _ _ _ | exact spec_l7At.mono _ _ _ | exact spec_l7Before.mono _ _ _ | exact LeO.refl _ | exact LeO.none _ | refine LeO.ite ?_ ?_ | refine LeO.bind ?_ (fun _ => ?_))
      | exact ih0 _ _ _ _ | exact ih1 _ _ _ _ _ _ | exact spec_l7At.mono _ _ _ | exact spec_l7Before.mono _ _ _ | exact LeO.none _ | refine LeO.ite ?_ ?_ | refine LeO.bind ?_ (fun _ => ?_)
    · intro y0 y1 y2 y3 y4 y5
      unfold spec_l7Traces.l1
      repeat' first
      | (with_reducible first | exact ih0 _ _ _ _ | exact ih1 _ _ _ _ _ _ | exact spec_l7At.mono _ _ _ | exact spec_l7Before.mono _ _ _ | exact LeO.refl _ | exact LeO.none _ | refine LeO.ite ?_ ?_ | refine LeO.bind ?_ (fun _ => ?_))
      | exact ih0 _ _ _ _ | exact ih1 _ _ _ _ _ _ | exact spec_l7At.mono _ _ _ | exact spec_l7Before.mono _ _ _ | exact LeO.none _ | refine LeO.ite ?_ ?_ | refine LeO.bind ?_ (fun _ => ?_)
theorem spec_l7Traces.mono : ∀ a0 a1 k, LeO (spec_l7Traces.f k a0 a1) (spec_l7Traces.f (k + 1) a0 a1) := by
  intro a0 a1 k
  obtain ⟨ih0, ih1⟩ := spec_l7Traces.mono_l k
  unfold spec_l7Traces.f
  repeat' first
      | (with_reducible first | exact ih0 _ _ _ _ | exact ih1 _ _ _ _ _ _ | exact spec_l7At.mono _ _ _ | exact spec_l7Before.mono _ _ _ | exact LeO.refl _ | exact LeO.none _ | refine LeO.ite ?_ ?_ | refine LeO.bind ?_ (fun _ => ?_))
      | exact ih0 _ _ _ _ | exact ih1 _ _ _ _ _ _ | exact spec_l7At.mono _ _ _ | exact spec_l7Before.mono _ _ _ | exact LeO.none _ | refine LeO.ite ?_ ?_ | refine LeO.bind ?_ (fun _ => ?_)
def spec_l7Traces.T10 : Bool × List (List Nat × List Nat) := (true, [([], []), ([], []), ([], []), ([1, 2], [1, 2]), ([0, 3], [0, 3]), ([], []), ([5], [5]), ([4, 6, 4], [4, 6]), ([], []), ([], []), ([8, 9], [8, 9]), ([7, 10, 7], [7, 10]), ([11, 11, 0, 1, 2, 3, 4, 5, 6, 7, 8, 9, 10, 11], [1, 8, 11])])
def spec_l7Traces.B10 : List Nat := [0, 0, 0, 6, 15, 0, 32, 127, 0, 0, 768, 2047, 4095]
theorem spec_l7Traces.tab10 : rtab .any (opsOf Try.f85 10) = spec_l7Traces.T10 := by kernel_rfl
theorem spec_l7Traces.bits10 : waitsOk spec_l7Traces.T10.2 spec_l7Traces.B10 = true := by kernel_rfl
theorem spec_l7Traces.calls (k : Nat) (A0 : Option Addr) (c0 : Nat) (l0 : List (List Int)) (A1 : Option Addr) (c1 : Nat) (l1 : List Int) (r : List (List Int)) (w : World) (hr0 : Kd.C (Kd.slice 3 (Kd.int .i64)) w A0 l0.length l0) (hc0 : l0.length ≤ c0) (hr1 : Kd.C (Kd.int .i64) w A1 l1.length l1) (hc1 : l1.length ≤ c1) (h : spec_l7Traces.f k l0 l1 = some r) :
    Calls Try.prog 85 #[.slice A0 l0.length c0, .slice A1 l1.length c1] w fun e w' => ∃ v0_ : Value, e = .returned (v0_) ∧ Kd.N (Kd.slice 3 (Kd.int .i64)) 22 w' w.heap.size (fun k_ => (w.heap.size ≤ k_)) v0_ r ∧ Below w.heap.size w w' := by
  have HR0 := aM hr0
  have HC0 := aM hc0
  clear hr0 hc0
  have HR1 := aM hr1
  have HC1 := aM hc1
  clear hr1 hc1
  have HB := aM (Below.refl w.heap.size w)
  have H : (spec_l7Traces.l0 k l0 l1 (([] : List (List Int))) 0) = some r := h
  clear h
  obtain ⟨y140, hy140⟩ := yE (([] : List (List Int)) : List (List Int))
  replace H : (spec_l7Traces.l0 k l0 l1 y140 0) = some r := yI hy140 H
  have Ny140 := aM hy140
  clear hy140
  have H' := aM H
  clear H
  go_enter Try.func85, Try.ntmps85
  go_wp2_with (first | ((with_reducible refine gate_dst (N := 9) rfl ?_); refine Kd.N_lit (Kd.slice 3 (Kd.int .i64)) _ 22 ?hg (N' := 9) ?hd (xs := ([] : List (List Int))) (inner := []) (ok := (fun k_ => (w.heap.size ≤ k_))) (okp := (fun k_ => (w.heap.size ≤ k_))) ?hr ?hp (fun _ hk => hk) ((show ∀ k_, w.heap.size ≤ k_ → (fun k_ => (w.heap.size ≤ k_)) k_ from fun k_ hk => (Nat.le_trans (below_size (xH HB.out)) hk)) _ (Nat.le_refl _)) (Below.refl _ _) (Nat.le_refl _) (by simp) ?_; (case hd => rfl); (case hg => rfl); (case hr => first | (go_simp; done) | (go_simp; rfl)); (case hp => exact (Reps.none _ _)); intro v141 w3 ho4 hb hg_ hnew_; clear hg_ hnew_; (first | rw [← Ny140.out] at ho4 | (simp only [Int.reduceToNat] at ho4; rw [← Ny140.out] at ho4)); have HO142 := aM (Kd.N_lower ho4 (below_size (xH HB.out))); replace HB := yS0 HB hb; clear hb ho4))
  go_loopg [5, 6] k (fun kq v5 v6 w' => ∃ (x5_1 : List (List Int)) (x6_1 : Int), v6 = .int .i64 x6_1 ∧ Aside0 (spec_l7Traces.l0 kq l0 l1 x5_1 x6_1 = some r) ∧ Aside0 (kq ≤ k) ∧ Aside0 (Kd.N (Kd.slice 3 (Kd.int .i64)) 22 w' w.heap.size (fun k_ => (w.heap.size ≤ k_)) v5 x5_1) ∧ Aside0 (Below w.heap.size w w'))
  case atStart => exact ⟨(y140), (0), yZ, H', ⟨Nat.le_refl _⟩, ⟨xN HO142.out⟩, ⟨xH HB.out⟩⟩
  case round =>
    clear H'
    try clear c1
    try clear p2
    obtain ⟨x5_1, x6_1, rfl, HA, HK1, HO_5, HB⟩ := hrel
    cases gk with
    | zero => exact absurd HA.out (by simp [spec_l7Traces.l0])
    | succ k1 =>
      have H := HA.out
      clear HA
      simp only [spec_l7Traces.l0] at H
      by_cases c5 : x6_1 < (l0.length : Int)
      · rw [if_pos c5] at H
        have c5b0 := decide_eq_true c5
        clear c5
        by_cases c6 : 0 ≤ x6_1
        · rw [if_pos c6] at H
          have c6b0 := decide_eq_true c6
          clear c6
          replace H := oB.mp H
          obtain ⟨t144, A70, H⟩ := H
          have A7 := aM A70
          clear A70
          have H' := aM H
          clear H
          have p143 : 0 ≤ (x6_1 : Int) := yA
          have q143 : x6_1 < (l0.length : Int) := yA
          obtain ⟨ad143, A143_0, c143_0, e143, hx143_0, hl143_0, hi143_0⟩ := at_L1 HR0.out x6_1 p143 q143
          cases e143
          replace hx143_0 := yc HB hx143_0
          have HR143_0 := aM hi143_0
          have HC143_0 := aM hl143_0
          clear hi143_0 hl143_0
          replace p143 := eq_true p143
          replace q143 := eq_true q143
          go_wp2_with (first | (refine yL 21 Try.func105 #[.slice A143_0 (rd_L1 l0 x6_1).length c143_0, .slice A1 l1.length c1] ?_; (with_reducible refine (spec_l7At.calls k1 _ _ (rd_L1 l0 x6_1) _ _ l1 t144 _ (xC (Kd.C_below HR143_0.out HB.out)) HC143_0.out (xC (Kd.C_below HR1.out HB.out)) HC1.out A7.out).mono ?_); rintro e w8 ⟨v145, rfl, ho0, hb⟩; refine ⟨_, rfl, ?_⟩; replace HO_5 := aM (Kd.N_elder' (xN HO_5.out) (Kd.R_base ho0) hb); have HO146 := aM (Kd.R_lower (Kd.R_newM (M := fun k_ => (w.heap.size ≤ k_)) ho0 (below_size (xH HB.out)) (fun k_ h_ => h_)) (below_size (xH HB.out))); replace HB := yS0 HB hb; (try clear hb; try clear ho0); obtain ⟨Ao9, co9, eo9⟩ := Kd.N_slice HO_5.out; subst eo9))
          go_loopg [8] k1 (fun kq v8 w' => ∃ (x8_2 : Int), v8 = .int .i64 x8_2 ∧ Aside0 (spec_l7Traces.l1 kq l0 l1 x5_1 x6_1 t144 x8_2 = some r) ∧ Aside0 (kq ≤ k1) ∧ Aside0 (Kd.N (Kd.slice 3 (Kd.int .i64)) 22 w' w.heap.size (fun k_ => (w.heap.size ≤ k_) ∧ some k_ ≠ (v145 : Value).ownBlock) (.slice Ao9 x5_1.length co9) x5_1) ∧ Aside0 (Kd.R (Kd.int .i64) 3 w' w.heap.size (fun k_ => (w.heap.size ≤ k_)) v145 t144) ∧ Aside0 (Below w.heap.size w w'))
          case atStart => exact ⟨((x5_1.length : Int)), yZ, H', ⟨Nat.le_refl _⟩, ⟨xN HO_5.out⟩, ⟨zR (rM HO146.out (fun _ hk => hk.1))⟩, ⟨xH HB.out⟩⟩
          case round =>
            clear H'
            try clear c1
            try clear p1
            try clear q1
            try clear hx1
            try clear p2
            try clear c5
            try clear c5b0
            try clear c6
            try clear c6b0
            try clear c8
            try clear hx143_0
            try clear p143
            try clear p2
            try clear q143
            obtain ⟨x8_2, rfl, HA, HK2, HO_5, HO_7, HB⟩ := hrel
            cases gk with
            | zero => exact absurd HA.out (by simp [spec_l7Traces.l1])
            | succ k2 =>
              have H := HA.out
              clear HA
              simp only [spec_l7Traces.l1] at H
              by_cases c10 : x8_2 > 0
              · rw [if_pos c10] at H
                have c10b0 : decide (0 < x8_2) = true := decide_eq_true c10
                clear c10
                obtain ⟨ji11, hji11⟩ := yJ ((wrap64 (x8_2 - 1)))
                (first | rw [hji11] at H | simp only [hji11] at H)
                have hji11w : (IntKind.i64.wrap (x8_2 - 1)) = ji11 := (i64_w _).trans hji11
                by_cases c12 : 0 ≤ (ji11)
                · rw [if_pos c12] at H
                  have c12b0 := decide_eq_true c12
                  clear c12
                  by_cases c13 : (ji11) < (x5_1.length : Int)
                  · rw [if_pos c13] at H
                    have c13b0 := decide_eq_true c13
                    clear c13
                    replace H := oB.mp H
                    obtain ⟨t148, A140, H⟩ := H
                    have A14 := aM A140
                    clear A140
                    by_cases c15 : t148 = true
                    · subst c15
                      rw [if_pos rfl] at H
                      have H' := aM H
                      clear H
                      have p147 : 0 ≤ ((ji11) : Int) := yA
                      have q147 : (ji11) < (x5_1.length : Int) := yA
                      obtain ⟨ad147, A147_0, c147_0, e147, hx147_0, hl147_0, hi147_0⟩ := at_L1 (Kd.N_reads' HO_5.out).2.2 (ji11) p147 q147
                      cases e147
                      obtain ⟨ce147, hce147, hMe147, hcc147⟩ := Kd.N_get HO_5.out [] (ji11) p147 (by first | exact q147 | exact yA | (have e_ := (Kd.N_reads' HO_5.out).1; omega))
                      obtain ⟨ua147_0, uc147_0, rfl, ul147_0, ge147_0⟩ := Kd.FK_slice_open hMe147
                      have hv147_0 := hcc147 0 _ rfl
                      rw [Nat.add_zero, show ((Kd.slice 3 (Kd.int .i64))).sz = 1 from rfl, Nat.mul_one] at hv147_0
                      replace hv147_0 := Option.some.inj (hv147_0.symm.trans hx147_0)
                      injection hv147_0 with hva_ hvn_ hvc_
                      rw [hva_] at ge147_0
                      rw [hvc_] at ul147_0
                      have HL147_0 := aM (show Kd.V (Kd.int .i64) 3 _ w.heap.size _ _ (rd_L1 x5_1 (ji11)) from Kd.V_mk ul147_0 ge147_0)
                      clear hva_ hvn_ hvc_ ge147_0 ul147_0
                      clear hcc147 hce147
                      have HR147_0 := aM hi147_0
                      have HC147_0 := aM hl147_0
                      clear hi147_0 hl147_0
                      replace p147 := eq_true p147
                      replace q147 := eq_true q147
                      obtain ⟨Ao16, co16, eo16⟩ := Kd.R_slice HO_7.out
                      subst eo16
                      go_wp2_with (first | (go_at_call 104; (with_reducible refine (spec_l7Before.calls k2 _ _ t144 _ _ (rd_L1 x5_1 (ji11)) true _ (xC (Kd.R_reads' HO_7.out).2.2) ((Kd.R_reads' HO_7.out).2.1) ?side3 HC147_0.out A14.out).mono ?_); (case side3 => repeat (first | exact (by repeat (first | (with_reducible exact HR147_0.out) | (with_reducible refine Kd.C_alloc ?_ _) | (with_reducible refine Kd.C_drewN ?_ _) | (with_reducible refine Kd.C_drew ?_) | exact HR147_0.out)) | (with_reducible refine Kd.C_alloc ?_ _) | (with_reducible refine Kd.C_drewN ?_ _) | (with_reducible refine Kd.C_drew ?_))); rintro e w' ⟨rfl, ⟨nd, rfl⟩⟩))
                      go_roundg k2
                      case measure => have := HK1.out; have := HK2.out; omega
                      case rel => exact ⟨(ji11), (by first | rfl | (simp; done) | (simp only [← hji11] <;> (first | rfl | simp)) | (simp [*]; done)), H', ⟨by have := HK1.out; have := HK2.out; omega⟩, ⟨xN HO_5.out⟩, ⟨xR HO_7.out⟩, ⟨xH HB.out⟩⟩
                    · replace c15 := Bool.eq_false_iff.mpr c15
                      subst c15
                      rw [if_neg (show ¬ (false = true) by decide)] at H
                      by_cases c17 : x8_2 = 0
                      · rw [if_pos c17] at H
                        have c17b0 : (x8_2 == 0) = true := beq_iff_eq.mpr c17
                        have c17b1 : (x8_2 != 0) = false := bne_eq_false_iff_eq.mpr c17
                        clear c17
                        obtain ⟨y149, hy149⟩ := yE (([] : List (List Int)) : List (List Int))
                        replace H : (if 0 ≤ x8_2 then (if x8_2 ≤ (x5_1.length : Int) then ((some (x5_1.take (x8_2 : Int).toNat : List (List Int))).bind fun y152 => (if y149.length + y152.length < 5864062014805 then ((some (y149 ++ y152 : List (List Int))).bind fun y157 => ((some (([t144] : List (List Int)) : List (List Int))).bind fun y160 => (if y157.length + y160.length < 5864062014805 then ((some (y157 ++ y160 : List (List Int))).bind fun y163 => ((some (x5_1.drop (x8_2 : Int).toNat : List (List Int))).bind fun y166 => (if y163.length + y166.length < 5864062014805 then (spec_l7Traces.l0 k2 l0 l1 (y163 ++ y166) (wrap64 (x6_1 + 1))) else (none)))) else (none)))) else (none))) else (none)) else (none)) = some r := yI hy149 H
                        have Ny149 := aM hy149
                        clear hy149
                        by_cases c18 : 0 ≤ x8_2
                        · rw [if_pos c18] at H
                          have c18b0 := eq_true c18
                          have c18b1 : decide (0 ≤ x8_2) = true := decide_eq_true c18
                          clear c18
                          by_cases c19 : x8_2 ≤ (x5_1.length : Int)
                          · rw [if_pos c19] at H
                            have c19b0 := eq_true c19
                            have c19b1 : decide (x8_2 ≤ (x5_1.length : Int)) = true := decide_eq_true c19
                            clear c19
                            obtain ⟨y152, hy152⟩ := yE (x5_1.take (x8_2 : Int).toNat : List (List Int))
                            replace H : (if y149.length + y152.length < 5864062014805 then ((some (y149 ++ y152 : List (List Int))).bind fun y157 => ((some (([t144] : List (List Int)) : List (List Int))).bind fun y160 => (if y157.length + y160.length < 5864062014805 then ((some (y157 ++ y160 : List (List Int))).bind fun y163 => ((some (x5_1.drop (x8_2 : Int).toNat : List (List Int))).bind fun y166 => (if y163.length + y166.length < 5864062014805 then (spec_l7Traces.l0 k2 l0 l1 (y163 ++ y166) (wrap64 (x6_1 + 1))) else (none)))) else (none)))) else (none)) = some r := yI hy152 H
                            have Ny152 := aM hy152
                            clear hy152
                            by_cases c20 : y149.length + y152.length < 5864062014805
                            · rw [if_pos c20] at H
                              have LMc20 := aM c20
                              clear c20
                              obtain ⟨y157, hy157⟩ := yE (y149 ++ y152 : List (List Int))
                              replace H : ((some (([t144] : List (List Int)) : List (List Int))).bind fun y160 => (if y157.length + y160.length < 5864062014805 then ((some (y157 ++ y160 : List (List Int))).bind fun y163 => ((some (x5_1.drop (x8_2 : Int).toNat : List (List Int))).bind fun y166 => (if y163.length + y166.length < 5864062014805 then (spec_l7Traces.l0 k2 l0 l1 (y163 ++ y166) (wrap64 (x6_1 + 1))) else (none)))) else (none))) = some r := yI hy157 H
                              have Ny157 := aM hy157
                              clear hy157
                              obtain ⟨y160, hy160⟩ := yE (([t144] : List (List Int)) : List (List Int))
                              replace H : (if y157.length + y160.length < 5864062014805 then ((some (y157 ++ y160 : List (List Int))).bind fun y163 => ((some (x5_1.drop (x8_2 : Int).toNat : List (List Int))).bind fun y166 => (if y163.length + y166.length < 5864062014805 then (spec_l7Traces.l0 k2 l0 l1 (y163 ++ y166) (wrap64 (x6_1 + 1))) else (none)))) else (none)) = some r := yI hy160 H
                              have Ny160 := aM hy160
                              clear hy160
                              by_cases c21 : y157.length + y160.length < 5864062014805
                              · rw [if_pos c21] at H
                                have LMc21 := aM c21
                                clear c21
                                obtain ⟨y163, hy163⟩ := yE (y157 ++ y160 : List (List Int))
                                replace H : ((some (x5_1.drop (x8_2 : Int).toNat : List (List Int))).bind fun y166 => (if y163.length + y166.length < 5864062014805 then (spec_l7Traces.l0 k2 l0 l1 (y163 ++ y166) (wrap64 (x6_1 + 1))) else (none))) = some r := yI hy163 H
                                have Ny163 := aM hy163
                                clear hy163
                                have c22b0 := eq_true (yA : 0 ≤ x8_2)
                                have c23b0 := eq_true (yA : x8_2 ≤ (x5_1.length : Int))
                                obtain ⟨y166, hy166⟩ := yE (x5_1.drop (x8_2 : Int).toNat : List (List Int))
                                replace H : (if y163.length + y166.length < 5864062014805 then (spec_l7Traces.l0 k2 l0 l1 (y163 ++ y166) (wrap64 (x6_1 + 1))) else (none)) = some r := yI hy166 H
                                have Ny166 := aM hy166
                                clear hy166
                                by_cases c24 : y163.length + y166.length < 5864062014805
                                · rw [if_pos c24] at H
                                  have LMc24 := aM c24
                                  clear c24
                                  obtain ⟨y171, hy171⟩ := yE (y163 ++ y166 : List (List Int))
                                  replace H : (spec_l7Traces.l0 k2 l0 l1 y171 (wrap64 (x6_1 + 1))) = some r := yI hy171 H
                                  have Ny171 := aM hy171
                                  clear hy171
                                  have H' := aM H
                                  clear H
                                  have p147 : 0 ≤ ((ji11) : Int) := yA
                                  have q147 : (ji11) < (x5_1.length : Int) := yA
                                  obtain ⟨ad147, A147_0, c147_0, e147, hx147_0, hl147_0, hi147_0⟩ := at_L1 (Kd.N_reads' HO_5.out).2.2 (ji11) p147 q147
                                  cases e147
                                  obtain ⟨ce147, hce147, hMe147, hcc147⟩ := Kd.N_get HO_5.out [] (ji11) p147 (by first | exact q147 | exact yA | (have e_ := (Kd.N_reads' HO_5.out).1; omega))
                                  obtain ⟨ua147_0, uc147_0, rfl, ul147_0, ge147_0⟩ := Kd.FK_slice_open hMe147
                                  have hv147_0 := hcc147 0 _ rfl
                                  rw [Nat.add_zero, show ((Kd.slice 3 (Kd.int .i64))).sz = 1 from rfl, Nat.mul_one] at hv147_0
                                  replace hv147_0 := Option.some.inj (hv147_0.symm.trans hx147_0)
                                  injection hv147_0 with hva_ hvn_ hvc_
                                  rw [hva_] at ge147_0
                                  rw [hvc_] at ul147_0
                                  have HL147_0 := aM (show Kd.V (Kd.int .i64) 3 _ w.heap.size _ _ (rd_L1 x5_1 (ji11)) from Kd.V_mk ul147_0 ge147_0)
                                  clear hva_ hvn_ hvc_ ge147_0 ul147_0
                                  clear hcc147 hce147
                                  have HR147_0 := aM hi147_0
                                  have HC147_0 := aM hl147_0
                                  clear hi147_0 hl147_0
                                  replace p147 := eq_true p147
                                  replace q147 := eq_true q147
                                  obtain ⟨Ao25, co25, eo25⟩ := Kd.R_slice HO_7.out
                                  subst eo25
                                  try go_wp2_with (first | (go_at_call 104; (with_reducible refine (spec_l7Before.calls k2 _ _ t144 _ _ (rd_L1 x5_1 (ji11)) false _ (xC (Kd.R_reads' HO_7.out).2.2) ((Kd.R_reads' HO_7.out).2.1) ?side3 HC147_0.out A14.out).mono ?_); (case side3 => repeat (first | exact (by repeat (first | (with_reducible exact HR147_0.out) | (with_reducible refine Kd.C_alloc ?_ _) | (with_reducible refine Kd.C_drewN ?_ _) | (with_reducible refine Kd.C_drew ?_) | exact HR147_0.out)) | (with_reducible refine Kd.C_alloc ?_ _) | (with_reducible refine Kd.C_drewN ?_ _) | (with_reducible refine Kd.C_drew ?_))); rintro e w' ⟨rfl, ⟨nd, rfl⟩⟩))
                                  (try (rw [drewN_self wr]; generalize hq_ : World.drewN wr _ = wr; have n0_ : Aside0 (Kd.V (Kd.int .i64) 3 wr w.heap.size (fun k_ => ((((w.heap.size ≤ k_)) ∧ some k_ ≠ (.slice Ao25 t144.length co25 : Value).ownBlock) ∧ some k_ ≠ (.slice (some ad147) x5_1.length co9 : Value).ownBlock)) (.slice A147_0 (rd_L1 x5_1 (ji11)).length c147_0) (rd_L1 x5_1 (ji11))) := ⟨by rw [← hq_]; exact (xV HL147_0.out)⟩; have n1_ : Aside0 (Kd.N (Kd.slice 3 (Kd.int .i64)) 22 wr w.heap.size (fun k_ => (((w.heap.size ≤ k_)) ∧ some k_ ≠ (.slice Ao25 t144.length co25 : Value).ownBlock)) (.slice (some ad147) x5_1.length co9) x5_1) := ⟨by rw [← hq_]; exact (xN HO_5.out)⟩; have n2_ : Aside0 (Kd.R (Kd.int .i64) 3 wr w.heap.size (fun k_ => ((w.heap.size ≤ k_))) (.slice Ao25 t144.length co25) t144) := ⟨by rw [← hq_]; exact (xR HO_7.out)⟩; have n3_ : Aside0 (Below w.heap.size w wr) := ⟨by rw [← hq_]; exact (xH HB.out)⟩; have n4_ : Aside0 (Kd.C (Kd.int .i64) wr A147_0 (rd_L1 x5_1 (ji11)).length (rd_L1 x5_1 (ji11))) := ⟨by rw [← hq_]; exact (by repeat (first | (with_reducible exact HR147_0.out) | (with_reducible refine Kd.C_alloc ?_ _) | (with_reducible refine Kd.C_drewN ?_ _) | (with_reducible refine Kd.C_drew ?_) | exact HR147_0.out))⟩; clear HL147_0 HO_5 HO_7 HB HR147_0 hq_; have HL147_0 := n0_; have HO_5 := n1_; have HO_7 := n2_; have HB := n3_; have HR147_0 := n4_; clear n0_ n1_ n2_ n3_ n4_))
                                  replace HO_5 := aM (Kd.N_drew HO_5.out)
                                  replace HO_7 := aM (rD HO_7.out)
                                  replace HL147_0 := aM (Kd.V_drew HL147_0.out)
                                  replace HR147_0 := aM (Kd.C_drew HR147_0.out)
                                  replace HB := aM (eD HB.out)
                                  have q27 : (x8_2 : Int) ≤ ((x5_1.length : Int) : Int) := yA
                                  obtain ⟨i027, hi027, _, hsz27, _⟩ := info_parts info22
                                  have hroom27 : x5_1.length ≤ co9 := (Kd.N_reads' HO_5.out).2.1
                                  have hC27 : Kd.F (Kd.slice 3 (Kd.int .i64)) _ _ (some ad147) x5_1.length x5_1 := (Kd.V_at (base := w.heap.size) (Kd.N_V HO_5.out)).2.2
                                  have hcut27 := cut_to (P := Try.prog) 29 22 .i64 Try.underlying29 hi027 (some ad147) x5_1.length co9 x8_2 (yA) q27 hroom27
                                  have hr27 := Kd.F_take (m := (x8_2 : Int).toNat) hC27 (by omega)
                                  have hy27 : y152.length = (x8_2 : Int).toNat := (by rw [Ny152.out, List.length_take]; omega)
                                  rw [← Ny152.out] at hr27
                                  rw [← hy27] at hcut27
                                  have HO156 := aM (show Kd.V (Kd.slice 3 (Kd.int .i64)) 22 _ w.heap.size _ (.slice (some ad147) y152.length co9) y152 from Kd.V_mk (by omega) hr27)
                                  have HC156 := aM (show y152.length ≤ co9 from by omega)
                                  clear hr27 hC27 hroom27 hi027 hsz27
                                  have KY27 := aM hy27
                                  clear hy27
                                  replace q27 := eq_true q27
                                  have q28 : (x8_2 : Int) ≤ ((x5_1.length : Int) : Int) := yA
                                  obtain ⟨i028, hi028, _, hsz28, _⟩ := info_parts info22
                                  have hroom28 : x5_1.length ≤ co9 := (Kd.N_reads' HO_5.out).2.1
                                  have hC28 : Kd.F (Kd.slice 3 (Kd.int .i64)) _ _ (some ad147) x5_1.length x5_1 := (Kd.V_at (base := w.heap.size) (Kd.N_V HO_5.out)).2.2
                                  have q028 : (0 : Int) ≤ (x8_2 : Int) := yA
                                  have hcut28 := cut_from (P := Try.prog) 29 22 .i64 Try.underlying29 hi028 1 hsz28 (some ad147) x5_1.length co9 x8_2 q028 q28
                                  have hr28 := Kd.F_cut (m := (x8_2 : Int).toNat) (c := co9) hC28 (by omega) hroom28
                                  obtain ⟨A28, hA28⟩ : ∃ A1, A1 = (if co9 = (x8_2 : Int).toNat then (some ad147) else ((some ad147) : Option Addr).map (·.add ((x8_2 : Int).toNat * 1))) := ⟨_, rfl⟩
                                  obtain ⟨c28, hc28⟩ : ∃ c1, c1 = co9 - (x8_2 : Int).toNat := ⟨_, rfl⟩
                                  have hy28 : y166.length = x5_1.length - (x8_2 : Int).toNat := (by rw [Ny166.out, List.length_drop] <;> omega)
                                  rw [show (x5_1).drop (x8_2 : Int).toNat = y166 from Ny166.out.symm] at hr28
                                  replace hr28 : Kd.F (Kd.slice 3 (Kd.int .i64)) _ _ A28 y166.length y166 := (by rw [hA28]; exact hr28)
                                  rw [← hy28, ← hA28, ← hc28] at hcut28
                                  have HO170 := aM (show Kd.V (Kd.slice 3 (Kd.int .i64)) 22 _ w.heap.size _ (.slice A28 y166.length c28) y166 from Kd.V_mk (by rw [hy28, hc28]; exact Nat.sub_le_sub_right hroom28 _) hr28)
                                  have HC170 := aM (show y166.length ≤ c28 from by rw [hy28, hc28]; exact Nat.sub_le_sub_right hroom28 _)
                                  clear hr28 hC28 hroom28 hi028 hsz28 hc28
                                  have KY28 := aM hy28
                                  have KA28 := aM hA28
                                  clear hy28 hA28
                                  replace q28 := eq_true q28
                                  refine start_ (n := 13) (S := fun w' => True) (ds := []) (bm 13 0) (by kernel_rfl) rfl rfl trivial (fun hHeld => ?_); refine with_tabW spec_l7Traces.tab10 spec_l7Traces.bits10 (fun HT_ HW_ => ?_)
                                  generalize wr.drew = w26 at HO_5 HO_7 HL147_0 HR147_0 HB HO156 HO170 hHeld ⊢
                                  refine yP 1 49 (bm 13 2) HT_ ?_
                                  refine yP 2 50 (bm 13 6) HT_ ?_
                                  refine yP 3 51 (bm 13 14) HT_ ?_
                                  refine yP 5 53 (bm 13 46) HT_ ?_
                                  refine yP 8 56 (bm 13 302) HT_ ?_
                                  refine yP 9 57 (bm 13 814) HT_ ?_
                                  refine yP 10 58 (bm 13 1838) HT_ ?_
                                  refine join_ (σ := Value × Value × Value) 3 (bm 13 1919) (fun s_ => [(48, s_.1), (52, s_.2.1), (54, s_.2.2)]) (fun s_ w' => (Kd.V (Kd.int .i64) 3 w' w.heap.size (fun k_ => (w.heap.size ≤ k_) ∧ some k_ ≠ (s_.2.1 : Value).ownBlock ∧ some k_ ≠ (s_.2.2 : Value).ownBlock ∧ some k_ ≠ (.slice (some ad147) x5_1.length co9 : Value).ownBlock) (.slice A147_0 (rd_L1 x5_1 (ji11)).length c147_0) (rd_L1 x5_1 (ji11))) ∧ (Kd.V (Kd.slice 3 (Kd.int .i64)) 22 w' w.heap.size (fun k_ => (w.heap.size ≤ k_) ∧ some k_ ≠ (s_.2.1 : Value).ownBlock ∧ some k_ ≠ (s_.2.2 : Value).ownBlock) (.slice (some ad147) y152.length co9) y152) ∧ (Kd.N (Kd.slice 3 (Kd.int .i64)) 22 w' w.heap.size (fun k_ => (w.heap.size ≤ k_) ∧ some k_ ≠ (s_.2.2 : Value).ownBlock) s_.2.1 y157) ∧ (Kd.N (Kd.slice 3 (Kd.int .i64)) 22 w' w.heap.size (fun k_ => (w.heap.size ≤ k_) ∧ some k_ ≠ (s_.2.1 : Value).ownBlock ∧ some k_ ≠ (.slice (some ad147) x5_1.length co9 : Value).ownBlock) s_.2.2 y160) ∧ (Kd.V (Kd.slice 3 (Kd.int .i64)) 22 w' w.heap.size (fun k_ => (w.heap.size ≤ k_) ∧ some k_ ≠ (s_.2.1 : Value).ownBlock ∧ some k_ ≠ (s_.2.2 : Value).ownBlock) (.slice A28 y166.length c28) y166) ∧ (Kd.N (Kd.slice 3 (Kd.int .i64)) 22 w' w.heap.size (fun k_ => (w.heap.size ≤ k_) ∧ some k_ ≠ (s_.2.1 : Value).ownBlock ∧ some k_ ≠ (s_.2.2 : Value).ownBlock) (.slice (some ad147) x5_1.length co9) x5_1) ∧ (Below w.heap.size w w')) ?_ ?_
                                  rotate_left
                                  · intro hCont
                                    refine two_ (i := 0) (j := 6) (Ni := some 48) (Nj := some 54) (bm 13 1839) (bm 13 1902) rfl rfl rfl rfl (two_of HT_.out (by kernel_rfl)) (by decide) (by decide) (fun K hK => ?_) (fun K hK => ?_)
                                    · skip
                                      refine Kd.N_lit_step (Kd.slice 3 (Kd.int .i64)) _ 22 ?hg (N' := 48) ?hd (xs := ([] : List (List Int))) (inner := []) (ok := (fun k_ => (w.heap.size ≤ k_) ∧ some k_ ≠ (.slice (some ad147) x5_1.length co9 : Value).ownBlock ∧ some k_ ≠ (.slice Ao25 t144.length co25 : Value).ownBlock)) (okp := (fun k_ => (w.heap.size ≤ k_) ∧ some k_ ≠ (.slice (some ad147) x5_1.length co9 : Value).ownBlock ∧ some k_ ≠ (.slice Ao25 t144.length co25 : Value).ownBlock)) ?hr ?hp (fun _ hk => hk) ((show ∀ k_, w26.heap.size ≤ k_ → (fun k_ => (w.heap.size ≤ k_) ∧ some k_ ≠ (.slice (some ad147) x5_1.length co9 : Value).ownBlock ∧ some k_ ≠ (.slice Ao25 t144.length co25 : Value).ownBlock) k_ from fun k_ hk => ⟨(Nat.le_trans (below_size (xH HB.out)) hk), Kd.fresh' (Kd.N_lt (xN HO_5.out)) k_ hk, Kd.fresh' (Kd.R_lt (xR HO_7.out)) k_ hk⟩) _ (Nat.le_refl _)) (Below.refl _ _) (Nat.le_refl _) (by simp) ?_; (case hd => rfl); (case hg => rfl); (case hr => first | (go_simp; done) | (go_simp; rfl)); (case hp => exact (Reps.none _ _))
                                      intro v150 w29 ho30 hb hg_ hnew_
                                      clear hg_ hnew_
                                      (first | rw [← Ny149.out] at ho30 | (simp only [Int.reduceToNat] at ho30; rw [← Ny149.out] at ho30))
                                      replace HO_5 := aM (Kd.N_elder' (xN HO_5.out) (by first | exact Kd.N_base ho30 | exact Kd.S_base ho30 | exact Kd.R_base ho30) hb)
                                      replace HO_7 := aM (Kd.R_below (xR HO_7.out) hb)
                                      replace HL147_0 := aM (Kd.V_elder' (xV HL147_0.out) (by first | exact Kd.N_base ho30 | exact Kd.S_base ho30 | exact Kd.R_base ho30) hb)
                                      replace HO156 := aM (Kd.V_elder' (xV HO156.out) (by first | exact Kd.N_base ho30 | exact Kd.S_base ho30 | exact Kd.R_base ho30) hb)
                                      replace HO170 := aM (Kd.V_elder' (xV HO170.out) (by first | exact Kd.N_base ho30 | exact Kd.S_base ho30 | exact Kd.R_base ho30) hb)
                                      have HO151 := aM (Kd.N_lower ho30 (below_size (xH HB.out)))
                                      replace HR147_0 := aM (Kd.C_below (by repeat (first | (with_reducible exact HR147_0.out) | (with_reducible refine Kd.C_alloc ?_ _) | (with_reducible refine Kd.C_drewN ?_ _) | (with_reducible refine Kd.C_drew ?_) | exact HR147_0.out)) hb)
                                      replace HB := yS0 HB hb
                                      clear hb ho30
                                      refine hK.out _ _ trivial (fun hHeld => ?_)
                                      clear hK K
                                      refine norm_ (a' := ?_) ?_ ?_
                                      rotate_left
                                      · show Act.put _ (some 48) _ = _
                                        simp only [Act.put, sA, sZ, sU, i64_w, i32_w]
                                        rfl
                                      refine two_ (i := 4) (j := 6) (Ni := some 52) (Nj := some 54) (bm 13 1855) (bm 13 1903) rfl rfl rfl rfl (two_of HT_.out (by kernel_rfl)) (by decide) (by decide) (fun K hK => ?_) (fun K hK => ?_)
                                      · skip
                                        refine Kd.N_append_rows_step (Kd.slice 3 (Kd.int .i64)) (w0 := w) w.heap.size (by rfl) (.tmp 48) (.tmp 51) 29 22 (.slice none 0 0) 24 rfl Try.underlying29 info22 rfl (by decide) (by omega) v150 y149 y152 _ _ _ (fun k_ => (w.heap.size ≤ k_) ∧ some k_ ≠ (.slice Ao25 t144.length co25 : Value).ownBlock) (fun k_ => ((fun k_ => (w.heap.size ≤ k_) ∧ some k_ ≠ (.slice Ao25 t144.length co25 : Value).ownBlock)) k_ ∧ some k_ ≠ (v150 : Value).ownBlock) rfl rfl ?aO ?aR (fun _ hk => hk) ?aF ?aB ?aS ?aL ?_
                                        (case aR => exact (by skip; exact Kd.V_F (base := w.heap.size) (e := 3) (Kd.V_mono (e := 3) (base := w.heap.size) (ok' := (fun k_ => ((fun k_ => (w.heap.size ≤ k_) ∧ some k_ ≠ (.slice Ao25 t144.length co25 : Value).ownBlock)) k_ ∧ some k_ ≠ (v150 : Value).ownBlock)) (HO156.out) (fun k_ hk => ⟨⟨hk.1.1, hk.1.2⟩, hk.2⟩))))
                                        (case aB => exact (xH HB.out))
                                        (case aF => exact (fun k_ hk => ⟨(Nat.le_trans (below_size (xH HB.out)) hk), Kd.fresh' (Kd.R_lt (xR HO_7.out)) k_ hk⟩))
                                        (case aO => exact (zN (Kd.N_mono HO151.out (fun _ hk => ⟨hk.1, hk.2.2⟩))))
                                        (case aS => exact (below_size (xH HB.out)))
                                        (case aL => have := LMc20.out; omega)
                                        intro v158 w31 ho hb hg hat
                                        rw [← Ny157.out] at ho
                                        replace HO_5 := aM (Kd.N_afterv (ok := (fun k_ => (w.heap.size ≤ k_) ∧ some k_ ≠ (.slice Ao25 t144.length co25 : Value).ownBlock)) (xN HO_5.out) hg hat)
                                        replace HO_7 := aM (Kd.R_over' (xR HO_7.out) (Kd.N_typed (xN HO151.out)) (by decide) hg)
                                        replace HL147_0 := aM (Kd.V_afterv (ok := (fun k_ => (w.heap.size ≤ k_) ∧ some k_ ≠ (.slice (some ad147) x5_1.length co9 : Value).ownBlock ∧ some k_ ≠ (.slice Ao25 t144.length co25 : Value).ownBlock)) (by (with_reducible repeat (first | apply Kd.V_alloc | apply Kd.V_drewN | apply Kd.V_drew)); exact Kd.V_mono HL147_0.out (fun _ hk => ⟨⟨hk.1.1.1, ⟨hk.1.2, hk.1.1.2⟩⟩, hk.2⟩)) hg hat)
                                        replace HO156 := aM (Kd.V_afterv (ok := (fun k_ => (w.heap.size ≤ k_) ∧ some k_ ≠ (.slice Ao25 t144.length co25 : Value).ownBlock)) (xV HO156.out) hg hat)
                                        replace HO170 := aM (Kd.V_afterv (ok := (fun k_ => (w.heap.size ≤ k_) ∧ some k_ ≠ (.slice Ao25 t144.length co25 : Value).ownBlock)) (xV HO170.out) hg hat)
                                        replace HB := aM (hb)
                                        have HO159 := aM (ho)
                                        clear HO151
                                        clear ho hb hg hat
                                        refine hK.out _ _ trivial (fun hHeld => ?_)
                                        clear hK K
                                        refine norm_ (a' := ?_) ?_ ?_
                                        rotate_left
                                        · show Act.put _ (some 52) _ = _
                                          simp only [Act.put, sA, sZ, sU, i64_w, i32_w]
                                          rfl
                                        refine yO 6 54 (bm 13 1919) HT_ (fun K hK => ?_)
                                        refine Kd.N_lit_step (Kd.slice 3 (Kd.int .i64)) _ 22 ?hg (N' := 54) ?hd (xs := ([t144] : List (List Int))) (inner := [.slice Ao25 t144.length co25]) (ok := (fun k_ => (w.heap.size ≤ k_) ∧ some k_ ≠ (.slice (some ad147) x5_1.length co9 : Value).ownBlock ∧ some k_ ≠ (v158 : Value).ownBlock)) (okp := (fun k_ => (w.heap.size ≤ k_) ∧ some k_ ≠ (.slice (some ad147) x5_1.length co9 : Value).ownBlock ∧ some k_ ≠ (v158 : Value).ownBlock)) ?hr ?hp (fun _ hk => hk) ((show ∀ k_, w31.heap.size ≤ k_ → (fun k_ => (w.heap.size ≤ k_) ∧ some k_ ≠ (.slice (some ad147) x5_1.length co9 : Value).ownBlock ∧ some k_ ≠ (v158 : Value).ownBlock) k_ from fun k_ hk => ⟨(Nat.le_trans (below_size (xH HB.out)) hk), Kd.fresh' (Kd.N_lt (xN HO_5.out)) k_ hk, Kd.fresh' (Kd.N_lt (xN HO159.out)) k_ hk⟩) _ (Nat.le_refl _)) (Below.refl _ _) (Nat.le_refl _) (by simp) ?_; (case hd => rfl); (case hg => rfl); (case hr => first | (go_simp; done) | (go_simp; rfl)); (case hp => exact (Reps.one (show Kd.FK (Kd.slice 3 (Kd.int .i64)) _ _ t144 [.slice Ao25 t144.length co25] from (Kd.FK_slice_mk (Kd.R_reads' (rM (ok' := (fun k_ => (w.heap.size ≤ k_) ∧ some k_ ≠ (.slice (some ad147) x5_1.length co9 : Value).ownBlock ∧ some k_ ≠ (v158 : Value).ownBlock)) (Kd.R_apart' (Kd.R_apart' (HO_7.out) (Kd.N_typed HO_5.out) (by decide)) (Kd.N_typed HO159.out) (by decide)) (fun k_ hk => ⟨hk.1.1, ⟨hk.1.2, hk.2⟩⟩))).2.1 (Kd.R_F (rM (ok' := (fun k_ => (w.heap.size ≤ k_) ∧ some k_ ≠ (.slice (some ad147) x5_1.length co9 : Value).ownBlock ∧ some k_ ≠ (v158 : Value).ownBlock)) (Kd.R_apart' (Kd.R_apart' (HO_7.out) (Kd.N_typed HO_5.out) (by decide)) (Kd.N_typed HO159.out) (by decide)) (fun k_ hk => ⟨hk.1.1, ⟨hk.1.2, hk.2⟩⟩))))) (Reps.none _ _)))
                                        intro v161 w32 ho33 hb hg_ hnew_
                                        clear hg_ hnew_
                                        (first | rw [← Ny160.out] at ho33 | (simp only [Int.reduceToNat] at ho33; rw [← Ny160.out] at ho33))
                                        replace HO_5 := aM (Kd.N_elder' (xN HO_5.out) (by first | exact Kd.N_base ho33 | exact Kd.S_base ho33 | exact Kd.R_base ho33) hb)
                                        replace HL147_0 := aM (Kd.V_elder' (xV HL147_0.out) (by first | exact Kd.N_base ho33 | exact Kd.S_base ho33 | exact Kd.R_base ho33) hb)
                                        replace HO156 := aM (Kd.V_elder' (xV HO156.out) (by first | exact Kd.N_base ho33 | exact Kd.S_base ho33 | exact Kd.R_base ho33) hb)
                                        replace HO170 := aM (Kd.V_elder' (xV HO170.out) (by first | exact Kd.N_base ho33 | exact Kd.S_base ho33 | exact Kd.R_base ho33) hb)
                                        replace HO159 := aM (Kd.N_elder' (xN HO159.out) (by first | exact Kd.N_base ho33 | exact Kd.S_base ho33 | exact Kd.R_base ho33) hb)
                                        have HO162 := aM (Kd.N_lower ho33 (below_size (xH HB.out)))
                                        replace HB := yS0 HB hb
                                        clear HO_7
                                        clear hb ho33
                                        refine hK.out _ _ trivial (fun hHeld => ?_)
                                        clear hK K
                                        refine norm_ (a' := ?_) ?_ ?_
                                        rotate_left
                                        · show Act.put _ (some 54) _ = _
                                          simp only [Act.put, sA, sZ, sU, i64_w, i32_w]
                                          rfl
                                        exact norm_ (by simp only [putAll, Act.put, sA, sZ, sU]) (hCont (v150, v158, v161) _ ⟨(by (with_reducible repeat (first | apply Kd.V_alloc | apply Kd.V_drewN | apply Kd.V_drew)); exact Kd.V_mono HL147_0.out (fun _ hk => ⟨hk.1.1.1, ⟨hk.1.2, ⟨hk.2, hk.1.1.2.1⟩⟩⟩)), (by (with_reducible repeat (first | apply Kd.V_alloc | apply Kd.V_drewN | apply Kd.V_drew)); exact Kd.V_mono HO156.out (fun _ hk => ⟨hk.1.1.1, ⟨hk.1.2, hk.2⟩⟩)), (zN (Kd.N_mono HO159.out (fun _ hk => ⟨hk.1.1, hk.2⟩))), (zN (Kd.N_mono HO162.out (fun _ hk => ⟨hk.1, ⟨hk.2.2, hk.2.1⟩⟩))), (by (with_reducible repeat (first | apply Kd.V_alloc | apply Kd.V_drewN | apply Kd.V_drew)); exact Kd.V_mono HO170.out (fun _ hk => ⟨hk.1.1.1, ⟨hk.1.2, hk.2⟩⟩)), (zN (Kd.N_mono HO_5.out (fun _ hk => ⟨hk.1.1.1, ⟨hk.1.2, hk.2⟩⟩))), (xH HB.out)⟩)
                                      · skip
                                        refine Kd.N_lit_step (Kd.slice 3 (Kd.int .i64)) _ 22 ?hg (N' := 54) ?hd (xs := ([t144] : List (List Int))) (inner := [.slice Ao25 t144.length co25]) (ok := (fun k_ => (w.heap.size ≤ k_) ∧ some k_ ≠ (.slice (some ad147) x5_1.length co9 : Value).ownBlock ∧ some k_ ≠ (v150 : Value).ownBlock)) (okp := (fun k_ => (w.heap.size ≤ k_) ∧ some k_ ≠ (.slice (some ad147) x5_1.length co9 : Value).ownBlock ∧ some k_ ≠ (v150 : Value).ownBlock)) ?hr ?hp (fun _ hk => hk) ((show ∀ k_, w29.heap.size ≤ k_ → (fun k_ => (w.heap.size ≤ k_) ∧ some k_ ≠ (.slice (some ad147) x5_1.length co9 : Value).ownBlock ∧ some k_ ≠ (v150 : Value).ownBlock) k_ from fun k_ hk => ⟨(Nat.le_trans (below_size (xH HB.out)) hk), Kd.fresh' (Kd.N_lt (xN HO_5.out)) k_ hk, Kd.fresh' (Kd.N_lt (xN HO151.out)) k_ hk⟩) _ (Nat.le_refl _)) (Below.refl _ _) (Nat.le_refl _) (by simp) ?_; (case hd => rfl); (case hg => rfl); (case hr => first | (go_simp; done) | (go_simp; rfl)); (case hp => exact (Reps.one (show Kd.FK (Kd.slice 3 (Kd.int .i64)) _ _ t144 [.slice Ao25 t144.length co25] from (Kd.FK_slice_mk (Kd.R_reads' (rM (ok' := (fun k_ => (w.heap.size ≤ k_) ∧ some k_ ≠ (.slice (some ad147) x5_1.length co9 : Value).ownBlock ∧ some k_ ≠ (v150 : Value).ownBlock)) (Kd.R_apart' (Kd.R_apart' (HO_7.out) (Kd.N_typed HO_5.out) (by decide)) (Kd.N_typed HO151.out) (by decide)) (fun k_ hk => ⟨hk.1.1, ⟨hk.1.2, hk.2⟩⟩))).2.1 (Kd.R_F (rM (ok' := (fun k_ => (w.heap.size ≤ k_) ∧ some k_ ≠ (.slice (some ad147) x5_1.length co9 : Value).ownBlock ∧ some k_ ≠ (v150 : Value).ownBlock)) (Kd.R_apart' (Kd.R_apart' (HO_7.out) (Kd.N_typed HO_5.out) (by decide)) (Kd.N_typed HO151.out) (by decide)) (fun k_ hk => ⟨hk.1.1, ⟨hk.1.2, hk.2⟩⟩))))) (Reps.none _ _)))
                                        intro v161 w31 ho32 hb hg_ hnew_
                                        clear hg_ hnew_
                                        (first | rw [← Ny160.out] at ho32 | (simp only [Int.reduceToNat] at ho32; rw [← Ny160.out] at ho32))
                                        replace HO_5 := aM (Kd.N_elder' (xN HO_5.out) (by first | exact Kd.N_base ho32 | exact Kd.S_base ho32 | exact Kd.R_base ho32) hb)
                                        replace HL147_0 := aM (Kd.V_elder' (xV HL147_0.out) (by first | exact Kd.N_base ho32 | exact Kd.S_base ho32 | exact Kd.R_base ho32) hb)
                                        replace HO156 := aM (Kd.V_elder' (xV HO156.out) (by first | exact Kd.N_base ho32 | exact Kd.S_base ho32 | exact Kd.R_base ho32) hb)
                                        replace HO170 := aM (Kd.V_elder' (xV HO170.out) (by first | exact Kd.N_base ho32 | exact Kd.S_base ho32 | exact Kd.R_base ho32) hb)
                                        replace HO151 := aM (Kd.N_elder' (xN HO151.out) (by first | exact Kd.N_base ho32 | exact Kd.S_base ho32 | exact Kd.R_base ho32) hb)
                                        have HO162 := aM (Kd.N_lower ho32 (below_size (xH HB.out)))
                                        replace HR147_0 := aM (Kd.C_below (by repeat (first | (with_reducible exact HR147_0.out) | (with_reducible refine Kd.C_alloc ?_ _) | (with_reducible refine Kd.C_drewN ?_ _) | (with_reducible refine Kd.C_drew ?_) | exact HR147_0.out)) hb)
                                        replace HB := yS0 HB hb
                                        clear HO_7
                                        clear hb ho32
                                        refine hK.out _ _ trivial (fun hHeld => ?_)
                                        clear hK K
                                        refine norm_ (a' := ?_) ?_ ?_
                                        rotate_left
                                        · show Act.put _ (some 54) _ = _
                                          simp only [Act.put, sA, sZ, sU, i64_w, i32_w]
                                          rfl
                                        refine yO 4 52 (bm 13 1919) HT_ (fun K hK => ?_)
                                        refine Kd.N_append_rows_step (Kd.slice 3 (Kd.int .i64)) (w0 := w) w.heap.size (by rfl) (.tmp 48) (.tmp 51) 29 22 (.slice none 0 0) 24 rfl Try.underlying29 info22 rfl (by decide) (by omega) v150 y149 y152 _ _ _ (fun k_ => (w.heap.size ≤ k_) ∧ some k_ ≠ (v161 : Value).ownBlock) (fun k_ => ((fun k_ => (w.heap.size ≤ k_) ∧ some k_ ≠ (v161 : Value).ownBlock)) k_ ∧ some k_ ≠ (v150 : Value).ownBlock) rfl rfl ?aO ?aR (fun _ hk => hk) ?aF ?aB ?aS ?aL ?_
                                        (case aR => exact (by skip; exact Kd.V_F (base := w.heap.size) (e := 3) (Kd.V_mono (e := 3) (base := w.heap.size) (ok' := (fun k_ => ((fun k_ => (w.heap.size ≤ k_) ∧ some k_ ≠ (v161 : Value).ownBlock)) k_ ∧ some k_ ≠ (v150 : Value).ownBlock)) (HO156.out) (fun k_ hk => ⟨⟨hk.1.1.1, hk.2⟩, hk.1.2⟩))))
                                        (case aB => exact (xH HB.out))
                                        (case aF => exact (fun k_ hk => ⟨(Nat.le_trans (below_size (xH HB.out)) hk), Kd.fresh' (Kd.N_lt (xN HO162.out)) k_ hk⟩))
                                        (case aO => exact (zN (Kd.N_mono HO151.out (fun _ hk => ⟨hk.1.1, hk.2⟩))))
                                        (case aS => exact (below_size (xH HB.out)))
                                        (case aL => have := LMc20.out; omega)
                                        intro v158 w33 ho hb hg hat
                                        rw [← Ny157.out] at ho
                                        replace HO_5 := aM (Kd.N_afterv (ok := (fun k_ => (w.heap.size ≤ k_) ∧ some k_ ≠ (v161 : Value).ownBlock)) (zN (Kd.N_mono HO_5.out (fun _ hk => ⟨⟨hk.1.1.1, hk.2⟩, hk.1.2⟩))) hg hat)
                                        replace HL147_0 := aM (Kd.V_afterv (ok := (fun k_ => (w.heap.size ≤ k_) ∧ some k_ ≠ (.slice (some ad147) x5_1.length co9 : Value).ownBlock ∧ some k_ ≠ (v161 : Value).ownBlock)) (by (with_reducible repeat (first | apply Kd.V_alloc | apply Kd.V_drewN | apply Kd.V_drew)); exact Kd.V_mono HL147_0.out (fun _ hk => ⟨⟨hk.1.1.1.1, ⟨hk.1.1.2, hk.2⟩⟩, hk.1.2⟩)) hg hat)
                                        replace HO156 := aM (Kd.V_afterv (ok := (fun k_ => (w.heap.size ≤ k_) ∧ some k_ ≠ (v161 : Value).ownBlock)) (by (with_reducible repeat (first | apply Kd.V_alloc | apply Kd.V_drewN | apply Kd.V_drew)); exact Kd.V_mono HO156.out (fun _ hk => ⟨⟨hk.1.1.1, hk.2⟩, hk.1.2⟩)) hg hat)
                                        replace HO170 := aM (Kd.V_afterv (ok := (fun k_ => (w.heap.size ≤ k_) ∧ some k_ ≠ (v161 : Value).ownBlock)) (by (with_reducible repeat (first | apply Kd.V_alloc | apply Kd.V_drewN | apply Kd.V_drew)); exact Kd.V_mono HO170.out (fun _ hk => ⟨⟨hk.1.1.1, hk.2⟩, hk.1.2⟩)) hg hat)
                                        replace HO162 := aM (Kd.N_afterv (ok := (fun k_ => (w.heap.size ≤ k_) ∧ some k_ ≠ (.slice (some ad147) x5_1.length co9 : Value).ownBlock)) (zN (Kd.N_mono HO162.out (fun _ hk => ⟨⟨hk.1, hk.2.1⟩, hk.2.2⟩))) hg hat)
                                        replace HB := aM (hb)
                                        have HO159 := aM (ho)
                                        clear HO151
                                        clear ho hb hg hat
                                        refine hK.out _ _ trivial (fun hHeld => ?_)
                                        clear hK K
                                        refine norm_ (a' := ?_) ?_ ?_
                                        rotate_left
                                        · show Act.put _ (some 52) _ = _
                                          simp only [Act.put, sA, sZ, sU, i64_w, i32_w]
                                          rfl
                                        exact norm_ (by simp only [putAll, Act.put, sA, sZ, sU]) (hCont (v150, v158, v161) _ ⟨(by (with_reducible repeat (first | apply Kd.V_alloc | apply Kd.V_drewN | apply Kd.V_drew)); exact Kd.V_mono HL147_0.out (fun _ hk => ⟨hk.1.1, ⟨hk.2, ⟨hk.1.2.2, hk.1.2.1⟩⟩⟩)), (by (with_reducible repeat (first | apply Kd.V_alloc | apply Kd.V_drewN | apply Kd.V_drew)); exact Kd.V_mono HO156.out (fun _ hk => ⟨hk.1.1, ⟨hk.2, hk.1.2⟩⟩)), (xN HO159.out), (zN (Kd.N_mono HO162.out (fun _ hk => ⟨hk.1.1, ⟨hk.2, hk.1.2⟩⟩))), (by (with_reducible repeat (first | apply Kd.V_alloc | apply Kd.V_drewN | apply Kd.V_drew)); exact Kd.V_mono HO170.out (fun _ hk => ⟨hk.1.1, ⟨hk.2, hk.1.2⟩⟩)), (zN (Kd.N_mono HO_5.out (fun _ hk => ⟨hk.1.1, ⟨hk.2, hk.1.2⟩⟩))), (xH HB.out)⟩)
                                    · skip
                                      refine Kd.N_lit_step (Kd.slice 3 (Kd.int .i64)) _ 22 ?hg (N' := 54) ?hd (xs := ([t144] : List (List Int))) (inner := [.slice Ao25 t144.length co25]) (ok := (fun k_ => (w.heap.size ≤ k_) ∧ some k_ ≠ (.slice (some ad147) x5_1.length co9 : Value).ownBlock)) (okp := (fun k_ => (w.heap.size ≤ k_) ∧ some k_ ≠ (.slice (some ad147) x5_1.length co9 : Value).ownBlock)) ?hr ?hp (fun _ hk => hk) ((show ∀ k_, w26.heap.size ≤ k_ → (fun k_ => (w.heap.size ≤ k_) ∧ some k_ ≠ (.slice (some ad147) x5_1.length co9 : Value).ownBlock) k_ from fun k_ hk => ⟨(Nat.le_trans (below_size (xH HB.out)) hk), Kd.fresh' (Kd.N_lt (xN HO_5.out)) k_ hk⟩) _ (Nat.le_refl _)) (Below.refl _ _) (Nat.le_refl _) (by simp) ?_; (case hd => rfl); (case hg => rfl); (case hr => first | (go_simp; done) | (go_simp; rfl)); (case hp => exact (Reps.one (show Kd.FK (Kd.slice 3 (Kd.int .i64)) _ _ t144 [.slice Ao25 t144.length co25] from (Kd.FK_slice_mk (Kd.R_reads' (rM (ok' := (fun k_ => (w.heap.size ≤ k_) ∧ some k_ ≠ (.slice (some ad147) x5_1.length co9 : Value).ownBlock)) (Kd.R_apart' (HO_7.out) (Kd.N_typed HO_5.out) (by decide)) (fun k_ hk => ⟨hk.1, hk.2⟩))).2.1 (Kd.R_F (rM (ok' := (fun k_ => (w.heap.size ≤ k_) ∧ some k_ ≠ (.slice (some ad147) x5_1.length co9 : Value).ownBlock)) (Kd.R_apart' (HO_7.out) (Kd.N_typed HO_5.out) (by decide)) (fun k_ hk => ⟨hk.1, hk.2⟩))))) (Reps.none _ _)))
                                      intro v161 w29 ho30 hb hg_ hnew_
                                      clear hg_ hnew_
                                      (first | rw [← Ny160.out] at ho30 | (simp only [Int.reduceToNat] at ho30; rw [← Ny160.out] at ho30))
                                      replace HO_5 := aM (Kd.N_elder' (xN HO_5.out) (by first | exact Kd.N_base ho30 | exact Kd.S_base ho30 | exact Kd.R_base ho30) hb)
                                      replace HL147_0 := aM (Kd.V_elder' (xV HL147_0.out) (by first | exact Kd.N_base ho30 | exact Kd.S_base ho30 | exact Kd.R_base ho30) hb)
                                      replace HO156 := aM (Kd.V_elder' (xV HO156.out) (by first | exact Kd.N_base ho30 | exact Kd.S_base ho30 | exact Kd.R_base ho30) hb)
                                      replace HO170 := aM (Kd.V_elder' (xV HO170.out) (by first | exact Kd.N_base ho30 | exact Kd.S_base ho30 | exact Kd.R_base ho30) hb)
                                      have HO162 := aM (Kd.N_lower ho30 (below_size (xH HB.out)))
                                      replace HR147_0 := aM (Kd.C_below (by repeat (first | (with_reducible exact HR147_0.out) | (with_reducible refine Kd.C_alloc ?_ _) | (with_reducible refine Kd.C_drewN ?_ _) | (with_reducible refine Kd.C_drew ?_) | exact HR147_0.out)) hb)
                                      replace HB := yS0 HB hb
                                      clear HO_7
                                      clear hb ho30
                                      refine hK.out _ _ trivial (fun hHeld => ?_)
                                      clear hK K
                                      refine norm_ (a' := ?_) ?_ ?_
                                      rotate_left
                                      · show Act.put _ (some 54) _ = _
                                        simp only [Act.put, sA, sZ, sU, i64_w, i32_w]
                                        rfl
                                      refine yO 0 48 (bm 13 1903) HT_ (fun K hK => ?_)
                                      refine Kd.N_lit_step (Kd.slice 3 (Kd.int .i64)) _ 22 ?hg (N' := 48) ?hd (xs := ([] : List (List Int))) (inner := []) (ok := (fun k_ => (w.heap.size ≤ k_) ∧ some k_ ≠ (.slice (some ad147) x5_1.length co9 : Value).ownBlock ∧ some k_ ≠ (v161 : Value).ownBlock)) (okp := (fun k_ => (w.heap.size ≤ k_) ∧ some k_ ≠ (.slice (some ad147) x5_1.length co9 : Value).ownBlock ∧ some k_ ≠ (v161 : Value).ownBlock)) ?hr ?hp (fun _ hk => hk) ((show ∀ k_, w29.heap.size ≤ k_ → (fun k_ => (w.heap.size ≤ k_) ∧ some k_ ≠ (.slice (some ad147) x5_1.length co9 : Value).ownBlock ∧ some k_ ≠ (v161 : Value).ownBlock) k_ from fun k_ hk => ⟨(Nat.le_trans (below_size (xH HB.out)) hk), Kd.fresh' (Kd.N_lt (xN HO_5.out)) k_ hk, Kd.fresh' (Kd.N_lt (xN HO162.out)) k_ hk⟩) _ (Nat.le_refl _)) (Below.refl _ _) (Nat.le_refl _) (by simp) ?_; (case hd => rfl); (case hg => rfl); (case hr => first | (go_simp; done) | (go_simp; rfl)); (case hp => exact (Reps.none _ _))
                                      intro v150 w31 ho32 hb hg_ hnew_
                                      clear hg_ hnew_
                                      (first | rw [← Ny149.out] at ho32 | (simp only [Int.reduceToNat] at ho32; rw [← Ny149.out] at ho32))
                                      replace HO_5 := aM (Kd.N_elder' (xN HO_5.out) (by first | exact Kd.N_base ho32 | exact Kd.S_base ho32 | exact Kd.R_base ho32) hb)
                                      replace HL147_0 := aM (Kd.V_elder' (xV HL147_0.out) (by first | exact Kd.N_base ho32 | exact Kd.S_base ho32 | exact Kd.R_base ho32) hb)
                                      replace HO156 := aM (Kd.V_elder' (xV HO156.out) (by first | exact Kd.N_base ho32 | exact Kd.S_base ho32 | exact Kd.R_base ho32) hb)
                                      replace HO170 := aM (Kd.V_elder' (xV HO170.out) (by first | exact Kd.N_base ho32 | exact Kd.S_base ho32 | exact Kd.R_base ho32) hb)
                                      replace HO162 := aM (Kd.N_elder' (xN HO162.out) (by first | exact Kd.N_base ho32 | exact Kd.S_base ho32 | exact Kd.R_base ho32) hb)
                                      have HO151 := aM (Kd.N_lower ho32 (below_size (xH HB.out)))
                                      replace HR147_0 := aM (Kd.C_below (by repeat (first | (with_reducible exact HR147_0.out) | (with_reducible refine Kd.C_alloc ?_ _) | (with_reducible refine Kd.C_drewN ?_ _) | (with_reducible refine Kd.C_drew ?_) | exact HR147_0.out)) hb)
                                      replace HB := yS0 HB hb
                                      clear hb ho32
                                      refine hK.out _ _ trivial (fun hHeld => ?_)
                                      clear hK K
                                      refine norm_ (a' := ?_) ?_ ?_
                                      rotate_left
                                      · show Act.put _ (some 48) _ = _
                                        simp only [Act.put, sA, sZ, sU, i64_w, i32_w]
                                        rfl
                                      refine yO 4 52 (bm 13 1919) HT_ (fun K hK => ?_)
                                      refine Kd.N_append_rows_step (Kd.slice 3 (Kd.int .i64)) (w0 := w) w.heap.size (by rfl) (.tmp 48) (.tmp 51) 29 22 (.slice none 0 0) 24 rfl Try.underlying29 info22 rfl (by decide) (by omega) v150 y149 y152 _ _ _ (fun k_ => (w.heap.size ≤ k_) ∧ some k_ ≠ (v161 : Value).ownBlock) (fun k_ => ((fun k_ => (w.heap.size ≤ k_) ∧ some k_ ≠ (v161 : Value).ownBlock)) k_ ∧ some k_ ≠ (v150 : Value).ownBlock) rfl rfl ?aO ?aR (fun _ hk => hk) ?aF ?aB ?aS ?aL ?_
                                      (case aR => exact (by skip; exact Kd.V_F (base := w.heap.size) (e := 3) (Kd.V_mono (e := 3) (base := w.heap.size) (ok' := (fun k_ => ((fun k_ => (w.heap.size ≤ k_) ∧ some k_ ≠ (v161 : Value).ownBlock)) k_ ∧ some k_ ≠ (v150 : Value).ownBlock)) (HO156.out) (fun k_ hk => ⟨⟨hk.1.1.1, hk.1.2⟩, hk.2⟩))))
                                      (case aB => exact (xH HB.out))
                                      (case aF => exact (fun k_ hk => ⟨(Nat.le_trans (below_size (xH HB.out)) hk), Kd.fresh' (Kd.N_lt (xN HO162.out)) k_ hk⟩))
                                      (case aO => exact (zN (Kd.N_mono HO151.out (fun _ hk => ⟨hk.1, hk.2.2⟩))))
                                      (case aS => exact (below_size (xH HB.out)))
                                      (case aL => have := LMc20.out; omega)
                                      intro v158 w33 ho hb hg hat
                                      rw [← Ny157.out] at ho
                                      replace HO_5 := aM (Kd.N_afterv (ok := (fun k_ => (w.heap.size ≤ k_) ∧ some k_ ≠ (v161 : Value).ownBlock)) (zN (Kd.N_mono HO_5.out (fun _ hk => ⟨⟨hk.1.1.1, hk.1.2⟩, hk.2⟩))) hg hat)
                                      replace HL147_0 := aM (Kd.V_afterv (ok := (fun k_ => (w.heap.size ≤ k_) ∧ some k_ ≠ (.slice (some ad147) x5_1.length co9 : Value).ownBlock ∧ some k_ ≠ (v161 : Value).ownBlock)) (by (with_reducible repeat (first | apply Kd.V_alloc | apply Kd.V_drewN | apply Kd.V_drew)); exact Kd.V_mono HL147_0.out (fun _ hk => ⟨⟨hk.1.1.1.1, ⟨hk.1.1.2, hk.1.2⟩⟩, hk.2⟩)) hg hat)
                                      replace HO156 := aM (Kd.V_afterv (ok := (fun k_ => (w.heap.size ≤ k_) ∧ some k_ ≠ (v161 : Value).ownBlock)) (by (with_reducible repeat (first | apply Kd.V_alloc | apply Kd.V_drewN | apply Kd.V_drew)); exact Kd.V_mono HO156.out (fun _ hk => ⟨⟨hk.1.1.1, hk.1.2⟩, hk.2⟩)) hg hat)
                                      replace HO170 := aM (Kd.V_afterv (ok := (fun k_ => (w.heap.size ≤ k_) ∧ some k_ ≠ (v161 : Value).ownBlock)) (by (with_reducible repeat (first | apply Kd.V_alloc | apply Kd.V_drewN | apply Kd.V_drew)); exact Kd.V_mono HO170.out (fun _ hk => ⟨⟨hk.1.1.1, hk.1.2⟩, hk.2⟩)) hg hat)
                                      replace HO162 := aM (Kd.N_afterv (ok := (fun k_ => (w.heap.size ≤ k_) ∧ some k_ ≠ (.slice (some ad147) x5_1.length co9 : Value).ownBlock)) (xN HO162.out) hg hat)
                                      replace HB := aM (hb)
                                      have HO159 := aM (ho)
                                      clear HO151
                                      clear ho hb hg hat
                                      refine hK.out _ _ trivial (fun hHeld => ?_)
                                      clear hK K
                                      refine norm_ (a' := ?_) ?_ ?_
                                      rotate_left
                                      · show Act.put _ (some 52) _ = _
                                        simp only [Act.put, sA, sZ, sU, i64_w, i32_w]
                                        rfl
                                      exact norm_ (by simp only [putAll, Act.put, sA, sZ, sU]) (hCont (v150, v158, v161) _ ⟨(by (with_reducible repeat (first | apply Kd.V_alloc | apply Kd.V_drewN | apply Kd.V_drew)); exact Kd.V_mono HL147_0.out (fun _ hk => ⟨hk.1.1, ⟨hk.2, ⟨hk.1.2.2, hk.1.2.1⟩⟩⟩)), (by (with_reducible repeat (first | apply Kd.V_alloc | apply Kd.V_drewN | apply Kd.V_drew)); exact Kd.V_mono HO156.out (fun _ hk => ⟨hk.1.1, ⟨hk.2, hk.1.2⟩⟩)), (xN HO159.out), (zN (Kd.N_mono HO162.out (fun _ hk => ⟨hk.1.1, ⟨hk.2, hk.1.2⟩⟩))), (by (with_reducible repeat (first | apply Kd.V_alloc | apply Kd.V_drewN | apply Kd.V_drew)); exact Kd.V_mono HO170.out (fun _ hk => ⟨hk.1.1, ⟨hk.2, hk.1.2⟩⟩)), (zN (Kd.N_mono HO_5.out (fun _ hk => ⟨hk.1.1, ⟨hk.2, hk.1.2⟩⟩))), (xH HB.out)⟩)
                                  rintro ⟨v150, v158, v161⟩ w34 ⟨h0_, h1_, h2_, h3_, h4_, h5_, h6_⟩
                                  have n0_ : Aside0 (Kd.V (Kd.int .i64) 3 w34 w.heap.size (fun k_ => (w.heap.size ≤ k_) ∧ some k_ ≠ (v158 : Value).ownBlock ∧ some k_ ≠ (v161 : Value).ownBlock ∧ some k_ ≠ (.slice (some ad147) x5_1.length co9 : Value).ownBlock) (.slice A147_0 (rd_L1 x5_1 (ji11)).length c147_0) (rd_L1 x5_1 (ji11))) := ⟨h0_⟩
                                  have n1_ : Aside0 (Kd.V (Kd.slice 3 (Kd.int .i64)) 22 w34 w.heap.size (fun k_ => (w.heap.size ≤ k_) ∧ some k_ ≠ (v158 : Value).ownBlock ∧ some k_ ≠ (v161 : Value).ownBlock) (.slice (some ad147) y152.length co9) y152) := ⟨h1_⟩
                                  have n2_ : Aside0 (Kd.N (Kd.slice 3 (Kd.int .i64)) 22 w34 w.heap.size (fun k_ => (w.heap.size ≤ k_) ∧ some k_ ≠ (v161 : Value).ownBlock) v158 y157) := ⟨h2_⟩
                                  have n3_ : Aside0 (Kd.N (Kd.slice 3 (Kd.int .i64)) 22 w34 w.heap.size (fun k_ => (w.heap.size ≤ k_) ∧ some k_ ≠ (v158 : Value).ownBlock ∧ some k_ ≠ (.slice (some ad147) x5_1.length co9 : Value).ownBlock) v161 y160) := ⟨h3_⟩
                                  have n4_ : Aside0 (Kd.V (Kd.slice 3 (Kd.int .i64)) 22 w34 w.heap.size (fun k_ => (w.heap.size ≤ k_) ∧ some k_ ≠ (v158 : Value).ownBlock ∧ some k_ ≠ (v161 : Value).ownBlock) (.slice A28 y166.length c28) y166) := ⟨h4_⟩
                                  have n5_ : Aside0 (Kd.N (Kd.slice 3 (Kd.int .i64)) 22 w34 w.heap.size (fun k_ => (w.heap.size ≤ k_) ∧ some k_ ≠ (v158 : Value).ownBlock ∧ some k_ ≠ (v161 : Value).ownBlock) (.slice (some ad147) x5_1.length co9) x5_1) := ⟨h5_⟩
                                  have n6_ : Aside0 (Below w.heap.size w w34) := ⟨h6_⟩
                                  clear HO_5
                                  clear HO_7
                                  clear HL147_0
                                  clear HR147_0
                                  clear HB
                                  clear h0_ h1_ h2_ h3_ h4_ h5_ h6_
                                  have HL147_0 := n0_
                                  have HO156 := n1_
                                  have HO159 := n2_
                                  have HO162 := n3_
                                  have HO170 := n4_
                                  have HO_5 := n5_
                                  have HB := n6_
                                  clear n0_ n1_ n2_ n3_ n4_ n5_ n6_
                                  have hHeld := trivial
                                  obtain ⟨Ao36, co36, eo36⟩ := Kd.N_slice HO162.out
                                  (first | subst eo36 | (injection eo36 with f1_ f2_ f3_; have f4_ := f1_.symm; have f5_ := f3_.symm; clear f1_ f2_ f3_; subst f4_; subst f5_))
                                  refine norm_ (a' := ?_) ?_ ?_
                                  rotate_left
                                  · simp only [putAll, Act.put, sA, sZ, sU]
                                    rfl
                                  refine yO 7 55 (bm 13 2047) HT_ (fun K hK => ?_)
                                  refine Kd.N_append_rows_step (Kd.slice 3 (Kd.int .i64)) (w0 := w) w.heap.size (by rfl) (.tmp 52) (.tmp 54) 29 22 (.slice none 0 0) 24 rfl Try.underlying29 info22 rfl (by decide) (by omega) v158 y157 y160 _ _ _ (fun k_ => (w.heap.size ≤ k_)) (fun k_ => ((fun k_ => (w.heap.size ≤ k_))) k_ ∧ some k_ ≠ (v158 : Value).ownBlock) rfl rfl ?aO ?aR (fun _ hk => hk) ?aF ?aB ?aS ?aL ?_
                                  (case aR => exact (by skip; exact Kd.N_F (Kd.N_mono (ok' := (fun k_ => ((fun k_ => (w.heap.size ≤ k_))) k_ ∧ some k_ ≠ (v158 : Value).ownBlock)) (HO162.out) (fun k_ hk => ⟨hk.1, hk.2.1⟩))))
                                  (case aB => exact (xH HB.out))
                                  (case aF => exact (fun k_ hk => (Nat.le_trans (below_size (xH HB.out)) hk)))
                                  (case aO => exact (zN (Kd.N_mono HO159.out (fun _ hk => hk.1))))
                                  (case aS => exact (below_size (xH HB.out)))
                                  (case aL => have := LMc21.out; omega)
                                  intro v164 w35 ho hb hg hat
                                  rw [← Ny163.out] at ho
                                  replace HO_5 := aM (Kd.N_afterv (ok := (fun k_ => (w.heap.size ≤ k_) ∧ some k_ ≠ (.slice Ao36 y160.length co36 : Value).ownBlock)) (zN (Kd.N_mono HO_5.out (fun _ hk => ⟨⟨hk.1, hk.2.2⟩, hk.2.1⟩))) hg hat)
                                  replace HL147_0 := aM (Kd.V_afterv (ok := (fun k_ => (w.heap.size ≤ k_) ∧ some k_ ≠ (.slice (some ad147) x5_1.length co9 : Value).ownBlock ∧ some k_ ≠ (.slice Ao36 y160.length co36 : Value).ownBlock)) (by (with_reducible repeat (first | apply Kd.V_alloc | apply Kd.V_drewN | apply Kd.V_drew)); exact Kd.V_mono HL147_0.out (fun _ hk => ⟨⟨hk.1, ⟨hk.2.2.2, hk.2.2.1⟩⟩, hk.2.1⟩)) hg hat)
                                  replace HO156 := aM (Kd.V_afterv (ok := (fun k_ => (w.heap.size ≤ k_) ∧ some k_ ≠ (.slice Ao36 y160.length co36 : Value).ownBlock)) (by (with_reducible repeat (first | apply Kd.V_alloc | apply Kd.V_drewN | apply Kd.V_drew)); exact Kd.V_mono HO156.out (fun _ hk => ⟨⟨hk.1, hk.2.2⟩, hk.2.1⟩)) hg hat)
                                  replace HO170 := aM (Kd.V_afterv (ok := (fun k_ => (w.heap.size ≤ k_) ∧ some k_ ≠ (.slice Ao36 y160.length co36 : Value).ownBlock)) (by (with_reducible repeat (first | apply Kd.V_alloc | apply Kd.V_drewN | apply Kd.V_drew)); exact Kd.V_mono HO170.out (fun _ hk => ⟨⟨hk.1, hk.2.2⟩, hk.2.1⟩)) hg hat)
                                  replace HO162 := aM (Kd.N_afterv (ok := (fun k_ => (w.heap.size ≤ k_) ∧ some k_ ≠ (.slice (some ad147) x5_1.length co9 : Value).ownBlock)) (zN (Kd.N_mono HO162.out (fun _ hk => ⟨⟨hk.1, hk.2.2⟩, hk.2.1⟩))) hg hat)
                                  replace HB := aM (hb)
                                  have HO165 := aM (ho)
                                  clear HO159
                                  clear ho hb hg hat
                                  refine hK.out _ _ trivial (fun hHeld => ?_)
                                  clear hK K
                                  refine norm_ (a' := ?_) ?_ ?_
                                  rotate_left
                                  · show Act.put _ (some 55) _ = _
                                    simp only [Act.put, sA, sZ, sU, i64_w, i32_w]
                                    rfl
                                  refine yO 11 59 (bm 13 4095) HT_ (fun K hK => ?_)
                                  refine Kd.N_append_rows_step (Kd.slice 3 (Kd.int .i64)) (w0 := w) w.heap.size (by rfl) (.tmp 55) (.tmp 58) 29 22 (.slice none 0 0) 24 rfl Try.underlying29 info22 rfl (by decide) (by omega) v164 y163 y166 _ _ _ (fun k_ => (w.heap.size ≤ k_)) (fun k_ => ((fun k_ => (w.heap.size ≤ k_))) k_ ∧ some k_ ≠ (v164 : Value).ownBlock) rfl rfl ?aO ?aR (fun _ hk => hk) ?aF ?aB ?aS ?aL ?_
                                  (case aR => exact (by skip; exact Kd.V_F (base := w.heap.size) (e := 3) (Kd.V_mono (e := 3) (base := w.heap.size) (ok' := (fun k_ => ((fun k_ => (w.heap.size ≤ k_))) k_ ∧ some k_ ≠ (v164 : Value).ownBlock)) (HO170.out) (fun k_ hk => ⟨hk.1.1, hk.2⟩))))
                                  (case aB => exact (xH HB.out))
                                  (case aF => exact (fun k_ hk => (Nat.le_trans (below_size (xH HB.out)) hk)))
                                  (case aO => exact (xN HO165.out))
                                  (case aS => exact (below_size (xH HB.out)))
                                  (case aL => have := LMc24.out; omega)
                                  intro v172 w37 ho hb hg hat
                                  rw [← Ny171.out] at ho
                                  replace HO_5 := aM (Kd.N_afterv (ok := (fun k_ => (w.heap.size ≤ k_) ∧ some k_ ≠ (.slice Ao36 y160.length co36 : Value).ownBlock)) (xN HO_5.out) hg hat)
                                  replace HL147_0 := aM (Kd.V_afterv (ok := (fun k_ => (w.heap.size ≤ k_) ∧ some k_ ≠ (.slice (some ad147) x5_1.length co9 : Value).ownBlock ∧ some k_ ≠ (.slice Ao36 y160.length co36 : Value).ownBlock)) (xV HL147_0.out) hg hat)
                                  replace HO156 := aM (Kd.V_afterv (ok := (fun k_ => (w.heap.size ≤ k_) ∧ some k_ ≠ (.slice Ao36 y160.length co36 : Value).ownBlock)) (xV HO156.out) hg hat)
                                  replace HO170 := aM (Kd.V_afterv (ok := (fun k_ => (w.heap.size ≤ k_) ∧ some k_ ≠ (.slice Ao36 y160.length co36 : Value).ownBlock)) (xV HO170.out) hg hat)
                                  replace HO162 := aM (Kd.N_afterv (ok := (fun k_ => (w.heap.size ≤ k_) ∧ some k_ ≠ (.slice (some ad147) x5_1.length co9 : Value).ownBlock)) (xN HO162.out) hg hat)
                                  replace HB := aM (hb)
                                  have HO173 := aM (ho)
                                  clear HO165
                                  clear ho hb hg hat
                                  refine hK.out _ _ trivial (fun hHeld => ?_)
                                  clear hK K
                                  refine norm_ (a' := ?_) ?_ ?_
                                  rotate_left
                                  · show Act.put _ (some 59) _ = _
                                    simp only [Act.put, sA, sZ, sU, i64_w, i32_w]
                                    rfl
                                  refine yP 12 5 (bm 13 8191) HT_ ?_
                                  refine done_ (done_of HT_.out (by kernel_rfl)) ?_
                                  try go_wp2
                                  go_roundg k2
                                  case measure => have := HK1.out; have := HK2.out; omega
                                  case rel => exact ⟨(y171), (wrap64 (x6_1 + 1)), yZ, H', ⟨by have := HK1.out; have := HK2.out; omega⟩, ⟨xN HO173.out⟩, ⟨xH HB.out⟩⟩
                                · rw [if_neg c24] at H
                                  exact absurd H (by simp)
                              · rw [if_neg c21] at H
                                exact absurd H (by simp)
                            · rw [if_neg c20] at H
                              exact absurd H (by simp)
                          · rw [if_neg c19] at H
                            exact absurd H (by simp)
                        · rw [if_neg c18] at H
                          exact absurd H (by simp)
                      · rw [if_neg c17] at H
                        have c17b0 : (x8_2 == 0) = false := beq_eq_false_iff_ne.mpr c17
                        have c17b1 : (x8_2 != 0) = true := bne_iff_ne.mpr c17
                        replace H := oB.mp H
                        obtain ⟨t175, A380, H⟩ := H
                        have A38 := aM A380
                        clear A380
                        by_cases c39 : t175 = true
                        · subst c39
                          rw [if_pos rfl] at H
                          obtain ⟨y176, hy176⟩ := yE (([] : List (List Int)) : List (List Int))
                          replace H : (if 0 ≤ x8_2 then (if x8_2 ≤ (x5_1.length : Int) then ((some (x5_1.take (x8_2 : Int).toNat : List (List Int))).bind fun y179 => (if y176.length + y179.length < 5864062014805 then ((some (y176 ++ y179 : List (List Int))).bind fun y184 => ((some (([t144] : List (List Int)) : List (List Int))).bind fun y187 => (if y184.length + y187.length < 5864062014805 then ((some (y184 ++ y187 : List (List Int))).bind fun y190 => ((some (x5_1.drop (x8_2 : Int).toNat : List (List Int))).bind fun y193 => (if y190.length + y193.length < 5864062014805 then (spec_l7Traces.l0 k2 l0 l1 (y190 ++ y193) (wrap64 (x6_1 + 1))) else (none)))) else (none)))) else (none))) else (none)) else (none)) = some r := yI hy176 H
                          have Ny176 := aM hy176
                          clear hy176
                          by_cases c40 : 0 ≤ x8_2
                          · rw [if_pos c40] at H
                            have c40b0 := eq_true c40
                            have c40b1 : decide (0 ≤ x8_2) = true := decide_eq_true c40
                            clear c40
                            by_cases c41 : x8_2 ≤ (x5_1.length : Int)
                            · rw [if_pos c41] at H
                              have c41b0 := eq_true c41
                              have c41b1 : decide (x8_2 ≤ (x5_1.length : Int)) = true := decide_eq_true c41
                              clear c41
                              obtain ⟨y179, hy179⟩ := yE (x5_1.take (x8_2 : Int).toNat : List (List Int))
                              replace H : (if y176.length + y179.length < 5864062014805 then ((some (y176 ++ y179 : List (List Int))).bind fun y184 => ((some (([t144] : List (List Int)) : List (List Int))).bind fun y187 => (if y184.length + y187.length < 5864062014805 then ((some (y184 ++ y187 : List (List Int))).bind fun y190 => ((some (x5_1.drop (x8_2 : Int).toNat : List (List Int))).bind fun y193 => (if y190.length + y193.length < 5864062014805 then (spec_l7Traces.l0 k2 l0 l1 (y190 ++ y193) (wrap64 (x6_1 + 1))) else (none)))) else (none)))) else (none)) = some r := yI hy179 H
                              have Ny179 := aM hy179
                              clear hy179
                              by_cases c42 : y176.length + y179.length < 5864062014805
                              · rw [if_pos c42] at H
                                have LMc42 := aM c42
                                clear c42
                                obtain ⟨y184, hy184⟩ := yE (y176 ++ y179 : List (List Int))
                                replace H : ((some (([t144] : List (List Int)) : List (List Int))).bind fun y187 => (if y184.length + y187.length < 5864062014805 then ((some (y184 ++ y187 : List (List Int))).bind fun y190 => ((some (x5_1.drop (x8_2 : Int).toNat : List (List Int))).bind fun y193 => (if y190.length + y193.length < 5864062014805 then (spec_l7Traces.l0 k2 l0 l1 (y190 ++ y193) (wrap64 (x6_1 + 1))) else (none)))) else (none))) = some r := yI hy184 H
                                have Ny184 := aM hy184
                                clear hy184
                                obtain ⟨y187, hy187⟩ := yE (([t144] : List (List Int)) : List (List Int))
                                replace H : (if y184.length + y187.length < 5864062014805 then ((some (y184 ++ y187 : List (List Int))).bind fun y190 => ((some (x5_1.drop (x8_2 : Int).toNat : List (List Int))).bind fun y193 => (if y190.length + y193.length < 5864062014805 then (spec_l7Traces.l0 k2 l0 l1 (y190 ++ y193) (wrap64 (x6_1 + 1))) else (none)))) else (none)) = some r := yI hy187 H
                                have Ny187 := aM hy187
                                clear hy187
                                by_cases c43 : y184.length + y187.length < 5864062014805
                                · rw [if_pos c43] at H
                                  have LMc43 := aM c43
                                  clear c43
                                  obtain ⟨y190, hy190⟩ := yE (y184 ++ y187 : List (List Int))
                                  replace H : ((some (x5_1.drop (x8_2 : Int).toNat : List (List Int))).bind fun y193 => (if y190.length + y193.length < 5864062014805 then (spec_l7Traces.l0 k2 l0 l1 (y190 ++ y193) (wrap64 (x6_1 + 1))) else (none))) = some r := yI hy190 H
                                  have Ny190 := aM hy190
                                  clear hy190
                                  have c44b0 := eq_true (yA : 0 ≤ x8_2)
                                  have c45b0 := eq_true (yA : x8_2 ≤ (x5_1.length : Int))
                                  obtain ⟨y193, hy193⟩ := yE (x5_1.drop (x8_2 : Int).toNat : List (List Int))
                                  replace H : (if y190.length + y193.length < 5864062014805 then (spec_l7Traces.l0 k2 l0 l1 (y190 ++ y193) (wrap64 (x6_1 + 1))) else (none)) = some r := yI hy193 H
                                  have Ny193 := aM hy193
                                  clear hy193
                                  by_cases c46 : y190.length + y193.length < 5864062014805
                                  · rw [if_pos c46] at H
                                    have LMc46 := aM c46
                                    clear c46
                                    obtain ⟨y198, hy198⟩ := yE (y190 ++ y193 : List (List Int))
                                    replace H : (spec_l7Traces.l0 k2 l0 l1 y198 (wrap64 (x6_1 + 1))) = some r := yI hy198 H
                                    have Ny198 := aM hy198
                                    clear hy198
                                    have H' := aM H
                                    clear H
                                    have p147 : 0 ≤ ((ji11) : Int) := yA
                                    have q147 : (ji11) < (x5_1.length : Int) := yA
                                    obtain ⟨ad147, A147_0, c147_0, e147, hx147_0, hl147_0, hi147_0⟩ := at_L1 (Kd.N_reads' HO_5.out).2.2 (ji11) p147 q147
                                    cases e147
                                    obtain ⟨ce147, hce147, hMe147, hcc147⟩ := Kd.N_get HO_5.out [] (ji11) p147 (by first | exact q147 | exact yA | (have e_ := (Kd.N_reads' HO_5.out).1; omega))
                                    obtain ⟨ua147_0, uc147_0, rfl, ul147_0, ge147_0⟩ := Kd.FK_slice_open hMe147
                                    have hv147_0 := hcc147 0 _ rfl
                                    rw [Nat.add_zero, show ((Kd.slice 3 (Kd.int .i64))).sz = 1 from rfl, Nat.mul_one] at hv147_0
                                    replace hv147_0 := Option.some.inj (hv147_0.symm.trans hx147_0)
                                    injection hv147_0 with hva_ hvn_ hvc_
                                    rw [hva_] at ge147_0
                                    rw [hvc_] at ul147_0
                                    have HL147_0 := aM (show Kd.V (Kd.int .i64) 3 _ w.heap.size _ _ (rd_L1 x5_1 (ji11)) from Kd.V_mk ul147_0 ge147_0)
                                    clear hva_ hvn_ hvc_ ge147_0 ul147_0
                                    clear hcc147 hce147
                                    have HR147_0 := aM hi147_0
                                    have HC147_0 := aM hl147_0
                                    clear hi147_0 hl147_0
                                    replace p147 := eq_true p147
                                    replace q147 := eq_true q147
                                    obtain ⟨Ao47, co47, eo47⟩ := Kd.R_slice HO_7.out
                                    subst eo47
                                    try go_wp2_with (first | (go_at_call 104; (with_reducible refine (spec_l7Before.calls k2 _ _ t144 _ _ (rd_L1 x5_1 (ji11)) false _ (xC (Kd.R_reads' HO_7.out).2.2) ((Kd.R_reads' HO_7.out).2.1) ?side3 HC147_0.out A14.out).mono ?_); (case side3 => repeat (first | exact (by repeat (first | (with_reducible exact HR147_0.out) | (with_reducible refine Kd.C_alloc ?_ _) | (with_reducible refine Kd.C_drewN ?_ _) | (with_reducible refine Kd.C_drew ?_) | exact HR147_0.out)) | (with_reducible refine Kd.C_alloc ?_ _) | (with_reducible refine Kd.C_drewN ?_ _) | (with_reducible refine Kd.C_drew ?_))); rintro e w' ⟨rfl, ⟨nd, rfl⟩⟩; have p174 : 0 ≤ ((ji11) : Int) := yA; have q174 : (ji11) < (x5_1.length : Int) := yA; obtain ⟨ad174, A174_0, c174_0, e174, hx174_0, hl174_0, hi174_0⟩ := at_L1 (Kd.N_reads' HO_5.out).2.2 (ji11) p174 q174; obtain rfl : ad147 = ad174 := (by injection e174); obtain ⟨ce174, hce174, hMe174, hcc174⟩ := Kd.N_get HO_5.out [] (ji11) p174 (by first | exact q174 | exact yA | (have e_ := (Kd.N_reads' HO_5.out).1; omega)); obtain ⟨ua174_0, uc174_0, rfl, ul174_0, ge174_0⟩ := Kd.FK_slice_open hMe174; have hv174_0 := hcc174 0 _ rfl; rw [Nat.add_zero, show ((Kd.slice 3 (Kd.int .i64))).sz = 1 from rfl, Nat.mul_one] at hv174_0; replace hv174_0 := Option.some.inj (hv174_0.symm.trans hx174_0); injection hv174_0 with hva_ hvn_ hvc_; rw [hva_] at ge174_0; rw [hvc_] at ul174_0; have HL174_0 := aM (show Kd.V (Kd.int .i64) 3 _ w.heap.size _ _ (rd_L1 x5_1 (ji11)) from Kd.V_mk ul174_0 ge174_0); clear hva_ hvn_ hvc_ ge174_0 ul174_0; clear hcc174 hce174; have HR174_0 := aM hi174_0; have HC174_0 := aM hl174_0; clear hi174_0 hl174_0; replace p174 := eq_true p174; replace q174 := eq_true q174; have ea_ := Option.some.inj (hx147_0.symm.trans hx174_0); injection ea_ with ea_ en_ ec_; subst ea_; subst ec_; clear en_) | (go_at_call 104; (with_reducible refine (spec_l7Before.calls k2 _ _ (rd_L1 x5_1 (ji11)) _ _ t144 true _ ?side1 HC174_0.out (xC (Kd.R_reads' HO_7.out).2.2) ((Kd.R_reads' HO_7.out).2.1) A38.out).mono ?_); (case side1 => repeat (first | exact (by repeat (first | (with_reducible exact HR174_0.out) | (with_reducible refine Kd.C_alloc ?_ _) | (with_reducible refine Kd.C_drewN ?_ _) | (with_reducible refine Kd.C_drew ?_) | exact HR174_0.out)) | (with_reducible refine Kd.C_alloc ?_ _) | (with_reducible refine Kd.C_drewN ?_ _) | (with_reducible refine Kd.C_drew ?_))); rintro e w' ⟨rfl, ⟨nd, rfl⟩⟩))
                                    (try (rw [drewN_self wr]; generalize hq_ : World.drewN wr _ = wr; have n0_ : Aside0 (Kd.V (Kd.int .i64) 3 wr w.heap.size (fun k_ => ((((w.heap.size ≤ k_)) ∧ some k_ ≠ (.slice Ao47 t144.length co47 : Value).ownBlock) ∧ some k_ ≠ (.slice (some ad147) x5_1.length co9 : Value).ownBlock)) (.slice A147_0 (rd_L1 x5_1 (ji11)).length c147_0) (rd_L1 x5_1 (ji11))) := ⟨by rw [← hq_]; exact (xV HL147_0.out)⟩; have n1_ : Aside0 (Kd.V (Kd.int .i64) 3 wr w.heap.size (fun k_ => ((((w.heap.size ≤ k_)) ∧ some k_ ≠ (.slice Ao47 t144.length co47 : Value).ownBlock) ∧ some k_ ≠ (.slice (some ad147) x5_1.length co9 : Value).ownBlock)) (.slice A147_0 (rd_L1 x5_1 (ji11)).length c147_0) (rd_L1 x5_1 (ji11))) := ⟨by rw [← hq_]; exact (xV HL174_0.out)⟩; have n2_ : Aside0 (Kd.N (Kd.slice 3 (Kd.int .i64)) 22 wr w.heap.size (fun k_ => (((w.heap.size ≤ k_)) ∧ some k_ ≠ (.slice Ao47 t144.length co47 : Value).ownBlock)) (.slice (some ad147) x5_1.length co9) x5_1) := ⟨by rw [← hq_]; exact (xN HO_5.out)⟩; have n3_ : Aside0 (Kd.R (Kd.int .i64) 3 wr w.heap.size (fun k_ => ((w.heap.size ≤ k_))) (.slice Ao47 t144.length co47) t144) := ⟨by rw [← hq_]; exact (xR HO_7.out)⟩; have n4_ : Aside0 (Below w.heap.size w wr) := ⟨by rw [← hq_]; exact (xH HB.out)⟩; have n5_ : Aside0 (Kd.C (Kd.int .i64) wr A147_0 (rd_L1 x5_1 (ji11)).length (rd_L1 x5_1 (ji11))) := ⟨by rw [← hq_]; exact (by repeat (first | (with_reducible exact HR147_0.out) | (with_reducible refine Kd.C_alloc ?_ _) | (with_reducible refine Kd.C_drewN ?_ _) | (with_reducible refine Kd.C_drew ?_) | exact HR147_0.out))⟩; have n6_ : Aside0 (Kd.C (Kd.int .i64) wr A147_0 (rd_L1 x5_1 (ji11)).length (rd_L1 x5_1 (ji11))) := ⟨by rw [← hq_]; exact (by repeat (first | (with_reducible exact HR174_0.out) | (with_reducible refine Kd.C_alloc ?_ _) | (with_reducible refine Kd.C_drewN ?_ _) | (with_reducible refine Kd.C_drew ?_) | exact HR174_0.out))⟩; clear HL147_0 HL174_0 HO_5 HO_7 HB HR147_0 HR174_0 hq_; have HL147_0 := n0_; have HL174_0 := n1_; have HO_5 := n2_; have HO_7 := n3_; have HB := n4_; have HR147_0 := n5_; have HR174_0 := n6_; clear n0_ n1_ n2_ n3_ n4_ n5_ n6_))
                                    replace HO_5 := aM (Kd.N_drew HO_5.out)
                                    replace HO_7 := aM (rD HO_7.out)
                                    replace HL147_0 := aM (Kd.V_drew HL147_0.out)
                                    replace HL174_0 := aM (Kd.V_drew HL174_0.out)
                                    replace HR147_0 := aM (Kd.C_drew HR147_0.out)
                                    replace HR174_0 := aM (Kd.C_drew HR174_0.out)
                                    replace HB := aM (eD HB.out)
                                    have q49 : (x8_2 : Int) ≤ ((x5_1.length : Int) : Int) := yA
                                    obtain ⟨i049, hi049, _, hsz49, _⟩ := info_parts info22
                                    have hroom49 : x5_1.length ≤ co9 := (Kd.N_reads' HO_5.out).2.1
                                    have hC49 : Kd.F (Kd.slice 3 (Kd.int .i64)) _ _ (some ad147) x5_1.length x5_1 := (Kd.V_at (base := w.heap.size) (Kd.N_V HO_5.out)).2.2
                                    have hcut49 := cut_to (P := Try.prog) 29 22 .i64 Try.underlying29 hi049 (some ad147) x5_1.length co9 x8_2 (yA) q49 hroom49
                                    have hr49 := Kd.F_take (m := (x8_2 : Int).toNat) hC49 (by omega)
                                    have hy49 : y179.length = (x8_2 : Int).toNat := (by rw [Ny179.out, List.length_take]; omega)
                                    rw [← Ny179.out] at hr49
                                    rw [← hy49] at hcut49
                                    have HO183 := aM (show Kd.V (Kd.slice 3 (Kd.int .i64)) 22 _ w.heap.size _ (.slice (some ad147) y179.length co9) y179 from Kd.V_mk (by omega) hr49)
                                    have HC183 := aM (show y179.length ≤ co9 from by omega)
                                    clear hr49 hC49 hroom49 hi049 hsz49
                                    have KY49 := aM hy49
                                    clear hy49
                                    replace q49 := eq_true q49
                                    have q50 : (x8_2 : Int) ≤ ((x5_1.length : Int) : Int) := yA
                                    obtain ⟨i050, hi050, _, hsz50, _⟩ := info_parts info22
                                    have hroom50 : x5_1.length ≤ co9 := (Kd.N_reads' HO_5.out).2.1
                                    have hC50 : Kd.F (Kd.slice 3 (Kd.int .i64)) _ _ (some ad147) x5_1.length x5_1 := (Kd.V_at (base := w.heap.size) (Kd.N_V HO_5.out)).2.2
                                    have q050 : (0 : Int) ≤ (x8_2 : Int) := yA
                                    have hcut50 := cut_from (P := Try.prog) 29 22 .i64 Try.underlying29 hi050 1 hsz50 (some ad147) x5_1.length co9 x8_2 q050 q50
                                    have hr50 := Kd.F_cut (m := (x8_2 : Int).toNat) (c := co9) hC50 (by omega) hroom50
                                    obtain ⟨A50, hA50⟩ : ∃ A1, A1 = (if co9 = (x8_2 : Int).toNat then (some ad147) else ((some ad147) : Option Addr).map (·.add ((x8_2 : Int).toNat * 1))) := ⟨_, rfl⟩
                                    obtain ⟨c50, hc50⟩ : ∃ c1, c1 = co9 - (x8_2 : Int).toNat := ⟨_, rfl⟩
                                    have hy50 : y193.length = x5_1.length - (x8_2 : Int).toNat := (by rw [Ny193.out, List.length_drop] <;> omega)
                                    rw [show (x5_1).drop (x8_2 : Int).toNat = y193 from Ny193.out.symm] at hr50
                                    replace hr50 : Kd.F (Kd.slice 3 (Kd.int .i64)) _ _ A50 y193.length y193 := (by rw [hA50]; exact hr50)
                                    rw [← hy50, ← hA50, ← hc50] at hcut50
                                    have HO197 := aM (show Kd.V (Kd.slice 3 (Kd.int .i64)) 22 _ w.heap.size _ (.slice A50 y193.length c50) y193 from Kd.V_mk (by rw [hy50, hc50]; exact Nat.sub_le_sub_right hroom50 _) hr50)
                                    have HC197 := aM (show y193.length ≤ c50 from by rw [hy50, hc50]; exact Nat.sub_le_sub_right hroom50 _)
                                    clear hr50 hC50 hroom50 hi050 hsz50 hc50
                                    have KY50 := aM hy50
                                    have KA50 := aM hA50
                                    clear hy50 hA50
                                    replace q50 := eq_true q50
                                    refine start_ (n := 13) (S := fun w' => True) (ds := []) (bm 13 0) (by kernel_rfl) rfl rfl trivial (fun hHeld => ?_); refine with_tabW spec_l7Traces.tab10 spec_l7Traces.bits10 (fun HT_ HW_ => ?_)
                                    generalize wr.drew = w48 at HO_5 HO_7 HL147_0 HL174_0 HR147_0 HR174_0 HB HO183 HO197 hHeld ⊢
                                    refine yP 1 49 (bm 13 2) HT_ ?_
                                    refine yP 2 50 (bm 13 6) HT_ ?_
                                    refine yP 3 51 (bm 13 14) HT_ ?_
                                    refine yP 5 53 (bm 13 46) HT_ ?_
                                    refine yP 8 56 (bm 13 302) HT_ ?_
                                    refine yP 9 57 (bm 13 814) HT_ ?_
                                    refine yP 10 58 (bm 13 1838) HT_ ?_
                                    refine join_ (σ := Value × Value × Value) 3 (bm 13 1919) (fun s_ => [(48, s_.1), (52, s_.2.1), (54, s_.2.2)]) (fun s_ w' => (Kd.V (Kd.int .i64) 3 w' w.heap.size (fun k_ => (w.heap.size ≤ k_) ∧ some k_ ≠ (s_.2.1 : Value).ownBlock ∧ some k_ ≠ (s_.2.2 : Value).ownBlock ∧ some k_ ≠ (.slice (some ad147) x5_1.length co9 : Value).ownBlock) (.slice A147_0 (rd_L1 x5_1 (ji11)).length c147_0) (rd_L1 x5_1 (ji11))) ∧ (Kd.V (Kd.int .i64) 3 w' w.heap.size (fun k_ => (w.heap.size ≤ k_) ∧ some k_ ≠ (s_.2.1 : Value).ownBlock ∧ some k_ ≠ (s_.2.2 : Value).ownBlock ∧ some k_ ≠ (.slice (some ad147) x5_1.length co9 : Value).ownBlock) (.slice A147_0 (rd_L1 x5_1 (ji11)).length c147_0) (rd_L1 x5_1 (ji11))) ∧ (Kd.V (Kd.slice 3 (Kd.int .i64)) 22 w' w.heap.size (fun k_ => (w.heap.size ≤ k_) ∧ some k_ ≠ (s_.2.1 : Value).ownBlock ∧ some k_ ≠ (s_.2.2 : Value).ownBlock) (.slice (some ad147) y179.length co9) y179) ∧ (Kd.N (Kd.slice 3 (Kd.int .i64)) 22 w' w.heap.size (fun k_ => (w.heap.size ≤ k_) ∧ some k_ ≠ (s_.2.2 : Value).ownBlock) s_.2.1 y184) ∧ (Kd.N (Kd.slice 3 (Kd.int .i64)) 22 w' w.heap.size (fun k_ => (w.heap.size ≤ k_) ∧ some k_ ≠ (s_.2.1 : Value).ownBlock ∧ some k_ ≠ (.slice (some ad147) x5_1.length co9 : Value).ownBlock) s_.2.2 y187) ∧ (Kd.V (Kd.slice 3 (Kd.int .i64)) 22 w' w.heap.size (fun k_ => (w.heap.size ≤ k_) ∧ some k_ ≠ (s_.2.1 : Value).ownBlock ∧ some k_ ≠ (s_.2.2 : Value).ownBlock) (.slice A50 y193.length c50) y193) ∧ (Kd.N (Kd.slice 3 (Kd.int .i64)) 22 w' w.heap.size (fun k_ => (w.heap.size ≤ k_) ∧ some k_ ≠ (s_.2.1 : Value).ownBlock ∧ some k_ ≠ (s_.2.2 : Value).ownBlock) (.slice (some ad147) x5_1.length co9) x5_1) ∧ (Below w.heap.size w w')) ?_ ?_
                                    rotate_left
                                    · intro hCont
                                      refine two_ (i := 0) (j := 6) (Ni := some 48) (Nj := some 54) (bm 13 1839) (bm 13 1902) rfl rfl rfl rfl (two_of HT_.out (by kernel_rfl)) (by decide) (by decide) (fun K hK => ?_) (fun K hK => ?_)
                                      · skip
                                        refine Kd.N_lit_step (Kd.slice 3 (Kd.int .i64)) _ 22 ?hg (N' := 48) ?hd (xs := ([] : List (List Int))) (inner := []) (ok := (fun k_ => (w.heap.size ≤ k_) ∧ some k_ ≠ (.slice (some ad147) x5_1.length co9 : Value).ownBlock ∧ some k_ ≠ (.slice Ao47 t144.length co47 : Value).ownBlock)) (okp := (fun k_ => (w.heap.size ≤ k_) ∧ some k_ ≠ (.slice (some ad147) x5_1.length co9 : Value).ownBlock ∧ some k_ ≠ (.slice Ao47 t144.length co47 : Value).ownBlock)) ?hr ?hp (fun _ hk => hk) ((show ∀ k_, w48.heap.size ≤ k_ → (fun k_ => (w.heap.size ≤ k_) ∧ some k_ ≠ (.slice (some ad147) x5_1.length co9 : Value).ownBlock ∧ some k_ ≠ (.slice Ao47 t144.length co47 : Value).ownBlock) k_ from fun k_ hk => ⟨(Nat.le_trans (below_size (xH HB.out)) hk), Kd.fresh' (Kd.N_lt (xN HO_5.out)) k_ hk, Kd.fresh' (Kd.R_lt (xR HO_7.out)) k_ hk⟩) _ (Nat.le_refl _)) (Below.refl _ _) (Nat.le_refl _) (by simp) ?_; (case hd => rfl); (case hg => rfl); (case hr => first | (go_simp; done) | (go_simp; rfl)); (case hp => exact (Reps.none _ _))
                                        intro v177 w51 ho52 hb hg_ hnew_
                                        clear hg_ hnew_
                                        (first | rw [← Ny176.out] at ho52 | (simp only [Int.reduceToNat] at ho52; rw [← Ny176.out] at ho52))
                                        replace HO_5 := aM (Kd.N_elder' (xN HO_5.out) (by first | exact Kd.N_base ho52 | exact Kd.S_base ho52 | exact Kd.R_base ho52) hb)
                                        replace HO_7 := aM (Kd.R_below (xR HO_7.out) hb)
                                        replace HL147_0 := aM (Kd.V_elder' (xV HL147_0.out) (by first | exact Kd.N_base ho52 | exact Kd.S_base ho52 | exact Kd.R_base ho52) hb)
                                        replace HL174_0 := aM (Kd.V_elder' (xV HL174_0.out) (by first | exact Kd.N_base ho52 | exact Kd.S_base ho52 | exact Kd.R_base ho52) hb)
                                        replace HO183 := aM (Kd.V_elder' (xV HO183.out) (by first | exact Kd.N_base ho52 | exact Kd.S_base ho52 | exact Kd.R_base ho52) hb)
                                        replace HO197 := aM (Kd.V_elder' (xV HO197.out) (by first | exact Kd.N_base ho52 | exact Kd.S_base ho52 | exact Kd.R_base ho52) hb)
                                        have HO178 := aM (Kd.N_lower ho52 (below_size (xH HB.out)))
                                        replace HR147_0 := aM (Kd.C_below (by repeat (first | (with_reducible exact HR147_0.out) | (with_reducible refine Kd.C_alloc ?_ _) | (with_reducible refine Kd.C_drewN ?_ _) | (with_reducible refine Kd.C_drew ?_) | exact HR147_0.out)) hb)
                                        replace HR174_0 := aM (Kd.C_below (by repeat (first | (with_reducible exact HR174_0.out) | (with_reducible refine Kd.C_alloc ?_ _) | (with_reducible refine Kd.C_drewN ?_ _) | (with_reducible refine Kd.C_drew ?_) | exact HR174_0.out)) hb)
                                        replace HB := yS0 HB hb
                                        clear hb ho52
                                        refine hK.out _ _ trivial (fun hHeld => ?_)
                                        clear hK K
                                        refine norm_ (a' := ?_) ?_ ?_
                                        rotate_left
                                        · show Act.put _ (some 48) _ = _
                                          simp only [Act.put, sA, sZ, sU, i64_w, i32_w]
                                          rfl
                                        refine two_ (i := 4) (j := 6) (Ni := some 52) (Nj := some 54) (bm 13 1855) (bm 13 1903) rfl rfl rfl rfl (two_of HT_.out (by kernel_rfl)) (by decide) (by decide) (fun K hK => ?_) (fun K hK => ?_)
                                        · skip
                                          refine Kd.N_append_rows_step (Kd.slice 3 (Kd.int .i64)) (w0 := w) w.heap.size (by rfl) (.tmp 48) (.tmp 51) 29 22 (.slice none 0 0) 24 rfl Try.underlying29 info22 rfl (by decide) (by omega) v177 y176 y179 _ _ _ (fun k_ => (w.heap.size ≤ k_) ∧ some k_ ≠ (.slice Ao47 t144.length co47 : Value).ownBlock) (fun k_ => ((fun k_ => (w.heap.size ≤ k_) ∧ some k_ ≠ (.slice Ao47 t144.length co47 : Value).ownBlock)) k_ ∧ some k_ ≠ (v177 : Value).ownBlock) rfl rfl ?aO ?aR (fun _ hk => hk) ?aF ?aB ?aS ?aL ?_
                                          (case aR => exact (by skip; exact Kd.V_F (base := w.heap.size) (e := 3) (Kd.V_mono (e := 3) (base := w.heap.size) (ok' := (fun k_ => ((fun k_ => (w.heap.size ≤ k_) ∧ some k_ ≠ (.slice Ao47 t144.length co47 : Value).ownBlock)) k_ ∧ some k_ ≠ (v177 : Value).ownBlock)) (HO183.out) (fun k_ hk => ⟨⟨hk.1.1, hk.1.2⟩, hk.2⟩))))
                                          (case aB => exact (xH HB.out))
                                          (case aF => exact (fun k_ hk => ⟨(Nat.le_trans (below_size (xH HB.out)) hk), Kd.fresh' (Kd.R_lt (xR HO_7.out)) k_ hk⟩))
                                          (case aO => exact (zN (Kd.N_mono HO178.out (fun _ hk => ⟨hk.1, hk.2.2⟩))))
                                          (case aS => exact (below_size (xH HB.out)))
                                          (case aL => have := LMc42.out; omega)
                                          intro v185 w53 ho hb hg hat
                                          rw [← Ny184.out] at ho
                                          replace HO_5 := aM (Kd.N_afterv (ok := (fun k_ => (w.heap.size ≤ k_) ∧ some k_ ≠ (.slice Ao47 t144.length co47 : Value).ownBlock)) (xN HO_5.out) hg hat)
                                          replace HO_7 := aM (Kd.R_over' (xR HO_7.out) (Kd.N_typed (xN HO178.out)) (by decide) hg)
                                          replace HL147_0 := aM (Kd.V_afterv (ok := (fun k_ => (w.heap.size ≤ k_) ∧ some k_ ≠ (.slice (some ad147) x5_1.length co9 : Value).ownBlock ∧ some k_ ≠ (.slice Ao47 t144.length co47 : Value).ownBlock)) (by (with_reducible repeat (first | apply Kd.V_alloc | apply Kd.V_drewN | apply Kd.V_drew)); exact Kd.V_mono HL147_0.out (fun _ hk => ⟨⟨hk.1.1.1, ⟨hk.1.2, hk.1.1.2⟩⟩, hk.2⟩)) hg hat)
                                          replace HL174_0 := aM (Kd.V_afterv (ok := (fun k_ => (w.heap.size ≤ k_) ∧ some k_ ≠ (.slice (some ad147) x5_1.length co9 : Value).ownBlock ∧ some k_ ≠ (.slice Ao47 t144.length co47 : Value).ownBlock)) (by (with_reducible repeat (first | apply Kd.V_alloc | apply Kd.V_drewN | apply Kd.V_drew)); exact Kd.V_mono HL174_0.out (fun _ hk => ⟨⟨hk.1.1.1, ⟨hk.1.2, hk.1.1.2⟩⟩, hk.2⟩)) hg hat)
                                          replace HO183 := aM (Kd.V_afterv (ok := (fun k_ => (w.heap.size ≤ k_) ∧ some k_ ≠ (.slice Ao47 t144.length co47 : Value).ownBlock)) (xV HO183.out) hg hat)
                                          replace HO197 := aM (Kd.V_afterv (ok := (fun k_ => (w.heap.size ≤ k_) ∧ some k_ ≠ (.slice Ao47 t144.length co47 : Value).ownBlock)) (xV HO197.out) hg hat)
                                          replace HB := aM (hb)
                                          have HO186 := aM (ho)
                                          clear HO178
                                          clear ho hb hg hat
                                          refine hK.out _ _ trivial (fun hHeld => ?_)
                                          clear hK K
                                          refine norm_ (a' := ?_) ?_ ?_
                                          rotate_left
                                          · show Act.put _ (some 52) _ = _
                                            simp only [Act.put, sA, sZ, sU, i64_w, i32_w]
                                            rfl
                                          refine yO 6 54 (bm 13 1919) HT_ (fun K hK => ?_)
                                          refine Kd.N_lit_step (Kd.slice 3 (Kd.int .i64)) _ 22 ?hg (N' := 54) ?hd (xs := ([t144] : List (List Int))) (inner := [.slice Ao47 t144.length co47]) (ok := (fun k_ => (w.heap.size ≤ k_) ∧ some k_ ≠ (.slice (some ad147) x5_1.length co9 : Value).ownBlock ∧ some k_ ≠ (v185 : Value).ownBlock)) (okp := (fun k_ => (w.heap.size ≤ k_) ∧ some k_ ≠ (.slice (some ad147) x5_1.length co9 : Value).ownBlock ∧ some k_ ≠ (v185 : Value).ownBlock)) ?hr ?hp (fun _ hk => hk) ((show ∀ k_, w53.heap.size ≤ k_ → (fun k_ => (w.heap.size ≤ k_) ∧ some k_ ≠ (.slice (some ad147) x5_1.length co9 : Value).ownBlock ∧ some k_ ≠ (v185 : Value).ownBlock) k_ from fun k_ hk => ⟨(Nat.le_trans (below_size (xH HB.out)) hk), Kd.fresh' (Kd.N_lt (xN HO_5.out)) k_ hk, Kd.fresh' (Kd.N_lt (xN HO186.out)) k_ hk⟩) _ (Nat.le_refl _)) (Below.refl _ _) (Nat.le_refl _) (by simp) ?_; (case hd => rfl); (case hg => rfl); (case hr => first | (go_simp; done) | (go_simp; rfl)); (case hp => exact (Reps.one (show Kd.FK (Kd.slice 3 (Kd.int .i64)) _ _ t144 [.slice Ao47 t144.length co47] from (Kd.FK_slice_mk (Kd.R_reads' (rM (ok' := (fun k_ => (w.heap.size ≤ k_) ∧ some k_ ≠ (.slice (some ad147) x5_1.length co9 : Value).ownBlock ∧ some k_ ≠ (v185 : Value).ownBlock)) (Kd.R_apart' (Kd.R_apart' (HO_7.out) (Kd.N_typed HO_5.out) (by decide)) (Kd.N_typed HO186.out) (by decide)) (fun k_ hk => ⟨hk.1.1, ⟨hk.1.2, hk.2⟩⟩))).2.1 (Kd.R_F (rM (ok' := (fun k_ => (w.heap.size ≤ k_) ∧ some k_ ≠ (.slice (some ad147) x5_1.length co9 : Value).ownBlock ∧ some k_ ≠ (v185 : Value).ownBlock)) (Kd.R_apart' (Kd.R_apart' (HO_7.out) (Kd.N_typed HO_5.out) (by decide)) (Kd.N_typed HO186.out) (by decide)) (fun k_ hk => ⟨hk.1.1, ⟨hk.1.2, hk.2⟩⟩))))) (Reps.none _ _)))
                                          intro v188 w54 ho55 hb hg_ hnew_
                                          clear hg_ hnew_
                                          (first | rw [← Ny187.out] at ho55 | (simp only [Int.reduceToNat] at ho55; rw [← Ny187.out] at ho55))
                                          replace HO_5 := aM (Kd.N_elder' (xN HO_5.out) (by first | exact Kd.N_base ho55 | exact Kd.S_base ho55 | exact Kd.R_base ho55) hb)
                                          replace HL147_0 := aM (Kd.V_elder' (xV HL147_0.out) (by first | exact Kd.N_base ho55 | exact Kd.S_base ho55 | exact Kd.R_base ho55) hb)
                                          replace HL174_0 := aM (Kd.V_elder' (xV HL174_0.out) (by first | exact Kd.N_base ho55 | exact Kd.S_base ho55 | exact Kd.R_base ho55) hb)
                                          replace HO183 := aM (Kd.V_elder' (xV HO183.out) (by first | exact Kd.N_base ho55 | exact Kd.S_base ho55 | exact Kd.R_base ho55) hb)
                                          replace HO197 := aM (Kd.V_elder' (xV HO197.out) (by first | exact Kd.N_base ho55 | exact Kd.S_base ho55 | exact Kd.R_base ho55) hb)
                                          replace HO186 := aM (Kd.N_elder' (xN HO186.out) (by first | exact Kd.N_base ho55 | exact Kd.S_base ho55 | exact Kd.R_base ho55) hb)
                                          have HO189 := aM (Kd.N_lower ho55 (below_size (xH HB.out)))
                                          replace HB := yS0 HB hb
                                          clear HO_7
                                          clear hb ho55
                                          refine hK.out _ _ trivial (fun hHeld => ?_)
                                          clear hK K
                                          refine norm_ (a' := ?_) ?_ ?_
                                          rotate_left
                                          · show Act.put _ (some 54) _ = _
                                            simp only [Act.put, sA, sZ, sU, i64_w, i32_w]
                                            rfl
                                          exact norm_ (by simp only [putAll, Act.put, sA, sZ, sU]) (hCont (v177, v185, v188) _ ⟨(by (with_reducible repeat (first | apply Kd.V_alloc | apply Kd.V_drewN | apply Kd.V_drew)); exact Kd.V_mono HL147_0.out (fun _ hk => ⟨hk.1.1.1, ⟨hk.1.2, ⟨hk.2, hk.1.1.2.1⟩⟩⟩)), (by (with_reducible repeat (first | apply Kd.V_alloc | apply Kd.V_drewN | apply Kd.V_drew)); exact Kd.V_mono HL174_0.out (fun _ hk => ⟨hk.1.1.1, ⟨hk.1.2, ⟨hk.2, hk.1.1.2.1⟩⟩⟩)), (by (with_reducible repeat (first | apply Kd.V_alloc | apply Kd.V_drewN | apply Kd.V_drew)); exact Kd.V_mono HO183.out (fun _ hk => ⟨hk.1.1.1, ⟨hk.1.2, hk.2⟩⟩)), (zN (Kd.N_mono HO186.out (fun _ hk => ⟨hk.1.1, hk.2⟩))), (zN (Kd.N_mono HO189.out (fun _ hk => ⟨hk.1, ⟨hk.2.2, hk.2.1⟩⟩))), (by (with_reducible repeat (first | apply Kd.V_alloc | apply Kd.V_drewN | apply Kd.V_drew)); exact Kd.V_mono HO197.out (fun _ hk => ⟨hk.1.1.1, ⟨hk.1.2, hk.2⟩⟩)), (zN (Kd.N_mono HO_5.out (fun _ hk => ⟨hk.1.1.1, ⟨hk.1.2, hk.2⟩⟩))), (xH HB.out)⟩)
                                        · skip
                                          refine Kd.N_lit_step (Kd.slice 3 (Kd.int .i64)) _ 22 ?hg (N' := 54) ?hd (xs := ([t144] : List (List Int))) (inner := [.slice Ao47 t144.length co47]) (ok := (fun k_ => (w.heap.size ≤ k_) ∧ some k_ ≠ (.slice (some ad147) x5_1.length co9 : Value).ownBlock ∧ some k_ ≠ (v177 : Value).ownBlock)) (okp := (fun k_ => (w.heap.size ≤ k_) ∧ some k_ ≠ (.slice (some ad147) x5_1.length co9 : Value).ownBlock ∧ some k_ ≠ (v177 : Value).ownBlock)) ?hr ?hp (fun _ hk => hk) ((show ∀ k_, w51.heap.size ≤ k_ → (fun k_ => (w.heap.size ≤ k_) ∧ some k_ ≠ (.slice (some ad147) x5_1.length co9 : Value).ownBlock ∧ some k_ ≠ (v177 : Value).ownBlock) k_ from fun k_ hk => ⟨(Nat.le_trans (below_size (xH HB.out)) hk), Kd.fresh' (Kd.N_lt (xN HO_5.out)) k_ hk, Kd.fresh' (Kd.N_lt (xN HO178.out)) k_ hk⟩) _ (Nat.le_refl _)) (Below.refl _ _) (Nat.le_refl _) (by simp) ?_; (case hd => rfl); (case hg => rfl); (case hr => first | (go_simp; done) | (go_simp; rfl)); (case hp => exact (Reps.one (show Kd.FK (Kd.slice 3 (Kd.int .i64)) _ _ t144 [.slice Ao47 t144.length co47] from (Kd.FK_slice_mk (Kd.R_reads' (rM (ok' := (fun k_ => (w.heap.size ≤ k_) ∧ some k_ ≠ (.slice (some ad147) x5_1.length co9 : Value).ownBlock ∧ some k_ ≠ (v177 : Value).ownBlock)) (Kd.R_apart' (Kd.R_apart' (HO_7.out) (Kd.N_typed HO_5.out) (by decide)) (Kd.N_typed HO178.out) (by decide)) (fun k_ hk => ⟨hk.1.1, ⟨hk.1.2, hk.2⟩⟩))).2.1 (Kd.R_F (rM (ok' := (fun k_ => (w.heap.size ≤ k_) ∧ some k_ ≠ (.slice (some ad147) x5_1.length co9 : Value).ownBlock ∧ some k_ ≠ (v177 : Value).ownBlock)) (Kd.R_apart' (Kd.R_apart' (HO_7.out) (Kd.N_typed HO_5.out) (by decide)) (Kd.N_typed HO178.out) (by decide)) (fun k_ hk => ⟨hk.1.1, ⟨hk.1.2, hk.2⟩⟩))))) (Reps.none _ _)))
                                          intro v188 w53 ho54 hb hg_ hnew_
                                          clear hg_ hnew_
                                          (first | rw [← Ny187.out] at ho54 | (simp only [Int.reduceToNat] at ho54; rw [← Ny187.out] at ho54))
                                          replace HO_5 := aM (Kd.N_elder' (xN HO_5.out) (by first | exact Kd.N_base ho54 | exact Kd.S_base ho54 | exact Kd.R_base ho54) hb)
                                          replace HL147_0 := aM (Kd.V_elder' (xV HL147_0.out) (by first | exact Kd.N_base ho54 | exact Kd.S_base ho54 | exact Kd.R_base ho54) hb)
                                          replace HL174_0 := aM (Kd.V_elder' (xV HL174_0.out) (by first | exact Kd.N_base ho54 | exact Kd.S_base ho54 | exact Kd.R_base ho54) hb)
                                          replace HO183 := aM (Kd.V_elder' (xV HO183.out) (by first | exact Kd.N_base ho54 | exact Kd.S_base ho54 | exact Kd.R_base ho54) hb)
                                          replace HO197 := aM (Kd.V_elder' (xV HO197.out) (by first | exact Kd.N_base ho54 | exact Kd.S_base ho54 | exact Kd.R_base ho54) hb)
                                          replace HO178 := aM (Kd.N_elder' (xN HO178.out) (by first | exact Kd.N_base ho54 | exact Kd.S_base ho54 | exact Kd.R_base ho54) hb)
                                          have HO189 := aM (Kd.N_lower ho54 (below_size (xH HB.out)))
                                          replace HR147_0 := aM (Kd.C_below (by repeat (first | (with_reducible exact HR147_0.out) | (with_reducible refine Kd.C_alloc ?_ _) | (with_reducible refine Kd.C_drewN ?_ _) | (with_reducible refine Kd.C_drew ?_) | exact HR147_0.out)) hb)
                                          replace HR174_0 := aM (Kd.C_below (by repeat (first | (with_reducible exact HR174_0.out) | (with_reducible refine Kd.C_alloc ?_ _) | (with_reducible refine Kd.C_drewN ?_ _) | (with_reducible refine Kd.C_drew ?_) | exact HR174_0.out)) hb)
                                          replace HB := yS0 HB hb
                                          clear HO_7
                                          clear hb ho54
                                          refine hK.out _ _ trivial (fun hHeld => ?_)
                                          clear hK K
                                          refine norm_ (a' := ?_) ?_ ?_
                                          rotate_left
                                          · show Act.put _ (some 54) _ = _
                                            simp only [Act.put, sA, sZ, sU, i64_w, i32_w]
                                            rfl
                                          refine yO 4 52 (bm 13 1919) HT_ (fun K hK => ?_)
                                          refine Kd.N_append_rows_step (Kd.slice 3 (Kd.int .i64)) (w0 := w) w.heap.size (by rfl) (.tmp 48) (.tmp 51) 29 22 (.slice none 0 0) 24 rfl Try.underlying29 info22 rfl (by decide) (by omega) v177 y176 y179 _ _ _ (fun k_ => (w.heap.size ≤ k_) ∧ some k_ ≠ (v188 : Value).ownBlock) (fun k_ => ((fun k_ => (w.heap.size ≤ k_) ∧ some k_ ≠ (v188 : Value).ownBlock)) k_ ∧ some k_ ≠ (v177 : Value).ownBlock) rfl rfl ?aO ?aR (fun _ hk => hk) ?aF ?aB ?aS ?aL ?_
                                          (case aR => exact (by skip; exact Kd.V_F (base := w.heap.size) (e := 3) (Kd.V_mono (e := 3) (base := w.heap.size) (ok' := (fun k_ => ((fun k_ => (w.heap.size ≤ k_) ∧ some k_ ≠ (v188 : Value).ownBlock)) k_ ∧ some k_ ≠ (v177 : Value).ownBlock)) (HO183.out) (fun k_ hk => ⟨⟨hk.1.1.1, hk.2⟩, hk.1.2⟩))))
                                          (case aB => exact (xH HB.out))
                                          (case aF => exact (fun k_ hk => ⟨(Nat.le_trans (below_size (xH HB.out)) hk), Kd.fresh' (Kd.N_lt (xN HO189.out)) k_ hk⟩))
                                          (case aO => exact (zN (Kd.N_mono HO178.out (fun _ hk => ⟨hk.1.1, hk.2⟩))))
                                          (case aS => exact (below_size (xH HB.out)))
                                          (case aL => have := LMc42.out; omega)
                                          intro v185 w55 ho hb hg hat
                                          rw [← Ny184.out] at ho
                                          replace HO_5 := aM (Kd.N_afterv (ok := (fun k_ => (w.heap.size ≤ k_) ∧ some k_ ≠ (v188 : Value).ownBlock)) (zN (Kd.N_mono HO_5.out (fun _ hk => ⟨⟨hk.1.1.1, hk.2⟩, hk.1.2⟩))) hg hat)
                                          replace HL147_0 := aM (Kd.V_afterv (ok := (fun k_ => (w.heap.size ≤ k_) ∧ some k_ ≠ (.slice (some ad147) x5_1.length co9 : Value).ownBlock ∧ some k_ ≠ (v188 : Value).ownBlock)) (by (with_reducible repeat (first | apply Kd.V_alloc | apply Kd.V_drewN | apply Kd.V_drew)); exact Kd.V_mono HL147_0.out (fun _ hk => ⟨⟨hk.1.1.1.1, ⟨hk.1.1.2, hk.2⟩⟩, hk.1.2⟩)) hg hat)
                                          replace HL174_0 := aM (Kd.V_afterv (ok := (fun k_ => (w.heap.size ≤ k_) ∧ some k_ ≠ (.slice (some ad147) x5_1.length co9 : Value).ownBlock ∧ some k_ ≠ (v188 : Value).ownBlock)) (by (with_reducible repeat (first | apply Kd.V_alloc | apply Kd.V_drewN | apply Kd.V_drew)); exact Kd.V_mono HL174_0.out (fun _ hk => ⟨⟨hk.1.1.1.1, ⟨hk.1.1.2, hk.2⟩⟩, hk.1.2⟩)) hg hat)
                                          replace HO183 := aM (Kd.V_afterv (ok := (fun k_ => (w.heap.size ≤ k_) ∧ some k_ ≠ (v188 : Value).ownBlock)) (by (with_reducible repeat (first | apply Kd.V_alloc | apply Kd.V_drewN | apply Kd.V_drew)); exact Kd.V_mono HO183.out (fun _ hk => ⟨⟨hk.1.1.1, hk.2⟩, hk.1.2⟩)) hg hat)
                                          replace HO197 := aM (Kd.V_afterv (ok := (fun k_ => (w.heap.size ≤ k_) ∧ some k_ ≠ (v188 : Value).ownBlock)) (by (with_reducible repeat (first | apply Kd.V_alloc | apply Kd.V_drewN | apply Kd.V_drew)); exact Kd.V_mono HO197.out (fun _ hk => ⟨⟨hk.1.1.1, hk.2⟩, hk.1.2⟩)) hg hat)
                                          replace HO189 := aM (Kd.N_afterv (ok := (fun k_ => (w.heap.size ≤ k_) ∧ some k_ ≠ (.slice (some ad147) x5_1.length co9 : Value).ownBlock)) (zN (Kd.N_mono HO189.out (fun _ hk => ⟨⟨hk.1, hk.2.1⟩, hk.2.2⟩))) hg hat)
                                          replace HB := aM (hb)
                                          have HO186 := aM (ho)
                                          clear HO178
                                          clear ho hb hg hat
                                          refine hK.out _ _ trivial (fun hHeld => ?_)
                                          clear hK K
                                          refine norm_ (a' := ?_) ?_ ?_
                                          rotate_left
                                          · show Act.put _ (some 52) _ = _
                                            simp only [Act.put, sA, sZ, sU, i64_w, i32_w]
                                            rfl
                                          exact norm_ (by simp only [putAll, Act.put, sA, sZ, sU]) (hCont (v177, v185, v188) _ ⟨(by (with_reducible repeat (first | apply Kd.V_alloc | apply Kd.V_drewN | apply Kd.V_drew)); exact Kd.V_mono HL147_0.out (fun _ hk => ⟨hk.1.1, ⟨hk.2, ⟨hk.1.2.2, hk.1.2.1⟩⟩⟩)), (by (with_reducible repeat (first | apply Kd.V_alloc | apply Kd.V_drewN | apply Kd.V_drew)); exact Kd.V_mono HL174_0.out (fun _ hk => ⟨hk.1.1, ⟨hk.2, ⟨hk.1.2.2, hk.1.2.1⟩⟩⟩)), (by (with_reducible repeat (first | apply Kd.V_alloc | apply Kd.V_drewN | apply Kd.V_drew)); exact Kd.V_mono HO183.out (fun _ hk => ⟨hk.1.1, ⟨hk.2, hk.1.2⟩⟩)), (xN HO186.out), (zN (Kd.N_mono HO189.out (fun _ hk => ⟨hk.1.1, ⟨hk.2, hk.1.2⟩⟩))), (by (with_reducible repeat (first | apply Kd.V_alloc | apply Kd.V_drewN | apply Kd.V_drew)); exact Kd.V_mono HO197.out (fun _ hk => ⟨hk.1.1, ⟨hk.2, hk.1.2⟩⟩)), (zN (Kd.N_mono HO_5.out (fun _ hk => ⟨hk.1.1, ⟨hk.2, hk.1.2⟩⟩))), (xH HB.out)⟩)
                                      · skip
                                        refine Kd.N_lit_step (Kd.slice 3 (Kd.int .i64)) _ 22 ?hg (N' := 54) ?hd (xs := ([t144] : List (List Int))) (inner := [.slice Ao47 t144.length co47]) (ok := (fun k_ => (w.heap.size ≤ k_) ∧ some k_ ≠ (.slice (some ad147) x5_1.length co9 : Value).ownBlock)) (okp := (fun k_ => (w.heap.size ≤ k_) ∧ some k_ ≠ (.slice (some ad147) x5_1.length co9 : Value).ownBlock)) ?hr ?hp (fun _ hk => hk) ((show ∀ k_, w48.heap.size ≤ k_ → (fun k_ => (w.heap.size ≤ k_) ∧ some k_ ≠ (.slice (some ad147) x5_1.length co9 : Value).ownBlock) k_ from fun k_ hk => ⟨(Nat.le_trans (below_size (xH HB.out)) hk), Kd.fresh' (Kd.N_lt (xN HO_5.out)) k_ hk⟩) _ (Nat.le_refl _)) (Below.refl _ _) (Nat.le_refl _) (by simp) ?_; (case hd => rfl); (case hg => rfl); (case hr => first | (go_simp; done) | (go_simp; rfl)); (case hp => exact (Reps.one (show Kd.FK (Kd.slice 3 (Kd.int .i64)) _ _ t144 [.slice Ao47 t144.length co47] from (Kd.FK_slice_mk (Kd.R_reads' (rM (ok' := (fun k_ => (w.heap.size ≤ k_) ∧ some k_ ≠ (.slice (some ad147) x5_1.length co9 : Value).ownBlock)) (Kd.R_apart' (HO_7.out) (Kd.N_typed HO_5.out) (by decide)) (fun k_ hk => ⟨hk.1, hk.2⟩))).2.1 (Kd.R_F (rM (ok' := (fun k_ => (w.heap.size ≤ k_) ∧ some k_ ≠ (.slice (some ad147) x5_1.length co9 : Value).ownBlock)) (Kd.R_apart' (HO_7.out) (Kd.N_typed HO_5.out) (by decide)) (fun k_ hk => ⟨hk.1, hk.2⟩))))) (Reps.none _ _)))
                                        intro v188 w51 ho52 hb hg_ hnew_
                                        clear hg_ hnew_
                                        (first | rw [← Ny187.out] at ho52 | (simp only [Int.reduceToNat] at ho52; rw [← Ny187.out] at ho52))
                                        replace HO_5 := aM (Kd.N_elder' (xN HO_5.out) (by first | exact Kd.N_base ho52 | exact Kd.S_base ho52 | exact Kd.R_base ho52) hb)
                                        replace HL147_0 := aM (Kd.V_elder' (xV HL147_0.out) (by first | exact Kd.N_base ho52 | exact Kd.S_base ho52 | exact Kd.R_base ho52) hb)
                                        replace HL174_0 := aM (Kd.V_elder' (xV HL174_0.out) (by first | exact Kd.N_base ho52 | exact Kd.S_base ho52 | exact Kd.R_base ho52) hb)
                                        replace HO183 := aM (Kd.V_elder' (xV HO183.out) (by first | exact Kd.N_base ho52 | exact Kd.S_base ho52 | exact Kd.R_base ho52) hb)
                                        replace HO197 := aM (Kd.V_elder' (xV HO197.out) (by first | exact Kd.N_base ho52 | exact Kd.S_base ho52 | exact Kd.R_base ho52) hb)
                                        have HO189 := aM (Kd.N_lower ho52 (below_size (xH HB.out)))
                                        replace HR147_0 := aM (Kd.C_below (by repeat (first | (with_reducible exact HR147_0.out) | (with_reducible refine Kd.C_alloc ?_ _) | (with_reducible refine Kd.C_drewN ?_ _) | (with_reducible refine Kd.C_drew ?_) | exact HR147_0.out)) hb)
                                        replace HR174_0 := aM (Kd.C_below (by repeat (first | (with_reducible exact HR174_0.out) | (with_reducible refine Kd.C_alloc ?_ _) | (with_reducible refine Kd.C_drewN ?_ _) | (with_reducible refine Kd.C_drew ?_) | exact HR174_0.out)) hb)
                                        replace HB := yS0 HB hb
                                        clear HO_7
                                        clear hb ho52
                                        refine hK.out _ _ trivial (fun hHeld => ?_)
                                        clear hK K
                                        refine norm_ (a' := ?_) ?_ ?_
                                        rotate_left
                                        · show Act.put _ (some 54) _ = _
                                          simp only [Act.put, sA, sZ, sU, i64_w, i32_w]
                                          rfl
                                        refine yO 0 48 (bm 13 1903) HT_ (fun K hK => ?_)
                                        refine Kd.N_lit_step (Kd.slice 3 (Kd.int .i64)) _ 22 ?hg (N' := 48) ?hd (xs := ([] : List (List Int))) (inner := []) (ok := (fun k_ => (w.heap.size ≤ k_) ∧ some k_ ≠ (.slice (some ad147) x5_1.length co9 : Value).ownBlock ∧ some k_ ≠ (v188 : Value).ownBlock)) (okp := (fun k_ => (w.heap.size ≤ k_) ∧ some k_ ≠ (.slice (some ad147) x5_1.length co9 : Value).ownBlock ∧ some k_ ≠ (v188 : Value).ownBlock)) ?hr ?hp (fun _ hk => hk) ((show ∀ k_, w51.heap.size ≤ k_ → (fun k_ => (w.heap.size ≤ k_) ∧ some k_ ≠ (.slice (some ad147) x5_1.length co9 : Value).ownBlock ∧ some k_ ≠ (v188 : Value).ownBlock) k_ from fun k_ hk => ⟨(Nat.le_trans (below_size (xH HB.out)) hk), Kd.fresh' (Kd.N_lt (xN HO_5.out)) k_ hk, Kd.fresh' (Kd.N_lt (xN HO189.out)) k_ hk⟩) _ (Nat.le_refl _)) (Below.refl _ _) (Nat.le_refl _) (by simp) ?_; (case hd => rfl); (case hg => rfl); (case hr => first | (go_simp; done) | (go_simp; rfl)); (case hp => exact (Reps.none _ _))
                                        intro v177 w53 ho54 hb hg_ hnew_
                                        clear hg_ hnew_
                                        (first | rw [← Ny176.out] at ho54 | (simp only [Int.reduceToNat] at ho54; rw [← Ny176.out] at ho54))
                                        replace HO_5 := aM (Kd.N_elder' (xN HO_5.out) (by first | exact Kd.N_base ho54 | exact Kd.S_base ho54 | exact Kd.R_base ho54) hb)
                                        replace HL147_0 := aM (Kd.V_elder' (xV HL147_0.out) (by first | exact Kd.N_base ho54 | exact Kd.S_base ho54 | exact Kd.R_base ho54) hb)
                                        replace HL174_0 := aM (Kd.V_elder' (xV HL174_0.out) (by first | exact Kd.N_base ho54 | exact Kd.S_base ho54 | exact Kd.R_base ho54) hb)
                                        replace HO183 := aM (Kd.V_elder' (xV HO183.out) (by first | exact Kd.N_base ho54 | exact Kd.S_base ho54 | exact Kd.R_base ho54) hb)
                                        replace HO197 := aM (Kd.V_elder' (xV HO197.out) (by first | exact Kd.N_base ho54 | exact Kd.S_base ho54 | exact Kd.R_base ho54) hb)
                                        replace HO189 := aM (Kd.N_elder' (xN HO189.out) (by first | exact Kd.N_base ho54 | exact Kd.S_base ho54 | exact Kd.R_base ho54) hb)
                                        have HO178 := aM (Kd.N_lower ho54 (below_size (xH HB.out)))
                                        replace HR147_0 := aM (Kd.C_below (by repeat (first | (with_reducible exact HR147_0.out) | (with_reducible refine Kd.C_alloc ?_ _) | (with_reducible refine Kd.C_drewN ?_ _) | (with_reducible refine Kd.C_drew ?_) | exact HR147_0.out)) hb)
                                        replace HR174_0 := aM (Kd.C_below (by repeat (first | (with_reducible exact HR174_0.out) | (with_reducible refine Kd.C_alloc ?_ _) | (with_reducible refine Kd.C_drewN ?_ _) | (with_reducible refine Kd.C_drew ?_) | exact HR174_0.out)) hb)
                                        replace HB := yS0 HB hb
                                        clear hb ho54
                                        refine hK.out _ _ trivial (fun hHeld => ?_)
                                        clear hK K
                                        refine norm_ (a' := ?_) ?_ ?_
                                        rotate_left
                                        · show Act.put _ (some 48) _ = _
                                          simp only [Act.put, sA, sZ, sU, i64_w, i32_w]
                                          rfl
                                        refine yO 4 52 (bm 13 1919) HT_ (fun K hK => ?_)
                                        refine Kd.N_append_rows_step (Kd.slice 3 (Kd.int .i64)) (w0 := w) w.heap.size (by rfl) (.tmp 48) (.tmp 51) 29 22 (.slice none 0 0) 24 rfl Try.underlying29 info22 rfl (by decide) (by omega) v177 y176 y179 _ _ _ (fun k_ => (w.heap.size ≤ k_) ∧ some k_ ≠ (v188 : Value).ownBlock) (fun k_ => ((fun k_ => (w.heap.size ≤ k_) ∧ some k_ ≠ (v188 : Value).ownBlock)) k_ ∧ some k_ ≠ (v177 : Value).ownBlock) rfl rfl ?aO ?aR (fun _ hk => hk) ?aF ?aB ?aS ?aL ?_
                                        (case aR => exact (by skip; exact Kd.V_F (base := w.heap.size) (e := 3) (Kd.V_mono (e := 3) (base := w.heap.size) (ok' := (fun k_ => ((fun k_ => (w.heap.size ≤ k_) ∧ some k_ ≠ (v188 : Value).ownBlock)) k_ ∧ some k_ ≠ (v177 : Value).ownBlock)) (HO183.out) (fun k_ hk => ⟨⟨hk.1.1.1, hk.1.2⟩, hk.2⟩))))
                                        (case aB => exact (xH HB.out))
                                        (case aF => exact (fun k_ hk => ⟨(Nat.le_trans (below_size (xH HB.out)) hk), Kd.fresh' (Kd.N_lt (xN HO189.out)) k_ hk⟩))
                                        (case aO => exact (zN (Kd.N_mono HO178.out (fun _ hk => ⟨hk.1, hk.2.2⟩))))
                                        (case aS => exact (below_size (xH HB.out)))
                                        (case aL => have := LMc42.out; omega)
                                        intro v185 w55 ho hb hg hat
                                        rw [← Ny184.out] at ho
                                        replace HO_5 := aM (Kd.N_afterv (ok := (fun k_ => (w.heap.size ≤ k_) ∧ some k_ ≠ (v188 : Value).ownBlock)) (zN (Kd.N_mono HO_5.out (fun _ hk => ⟨⟨hk.1.1.1, hk.1.2⟩, hk.2⟩))) hg hat)
                                        replace HL147_0 := aM (Kd.V_afterv (ok := (fun k_ => (w.heap.size ≤ k_) ∧ some k_ ≠ (.slice (some ad147) x5_1.length co9 : Value).ownBlock ∧ some k_ ≠ (v188 : Value).ownBlock)) (by (with_reducible repeat (first | apply Kd.V_alloc | apply Kd.V_drewN | apply Kd.V_drew)); exact Kd.V_mono HL147_0.out (fun _ hk => ⟨⟨hk.1.1.1.1, ⟨hk.1.1.2, hk.1.2⟩⟩, hk.2⟩)) hg hat)
                                        replace HL174_0 := aM (Kd.V_afterv (ok := (fun k_ => (w.heap.size ≤ k_) ∧ some k_ ≠ (.slice (some ad147) x5_1.length co9 : Value).ownBlock ∧ some k_ ≠ (v188 : Value).ownBlock)) (by (with_reducible repeat (first | apply Kd.V_alloc | apply Kd.V_drewN | apply Kd.V_drew)); exact Kd.V_mono HL174_0.out (fun _ hk => ⟨⟨hk.1.1.1.1, ⟨hk.1.1.2, hk.1.2⟩⟩, hk.2⟩)) hg hat)
                                        replace HO183 := aM (Kd.V_afterv (ok := (fun k_ => (w.heap.size ≤ k_) ∧ some k_ ≠ (v188 : Value).ownBlock)) (by (with_reducible repeat (first | apply Kd.V_alloc | apply Kd.V_drewN | apply Kd.V_drew)); exact Kd.V_mono HO183.out (fun _ hk => ⟨⟨hk.1.1.1, hk.1.2⟩, hk.2⟩)) hg hat)
                                        replace HO197 := aM (Kd.V_afterv (ok := (fun k_ => (w.heap.size ≤ k_) ∧ some k_ ≠ (v188 : Value).ownBlock)) (by (with_reducible repeat (first | apply Kd.V_alloc | apply Kd.V_drewN | apply Kd.V_drew)); exact Kd.V_mono HO197.out (fun _ hk => ⟨⟨hk.1.1.1, hk.1.2⟩, hk.2⟩)) hg hat)
                                        replace HO189 := aM (Kd.N_afterv (ok := (fun k_ => (w.heap.size ≤ k_) ∧ some k_ ≠ (.slice (some ad147) x5_1.length co9 : Value).ownBlock)) (xN HO189.out) hg hat)
                                        replace HB := aM (hb)
                                        have HO186 := aM (ho)
                                        clear HO178
                                        clear ho hb hg hat
                                        refine hK.out _ _ trivial (fun hHeld => ?_)
                                        clear hK K
                                        refine norm_ (a' := ?_) ?_ ?_
                                        rotate_left
                                        · show Act.put _ (some 52) _ = _
                                          simp only [Act.put, sA, sZ, sU, i64_w, i32_w]
                                          rfl
                                        exact norm_ (by simp only [putAll, Act.put, sA, sZ, sU]) (hCont (v177, v185, v188) _ ⟨(by (with_reducible repeat (first | apply Kd.V_alloc | apply Kd.V_drewN | apply Kd.V_drew)); exact Kd.V_mono HL147_0.out (fun _ hk => ⟨hk.1.1, ⟨hk.2, ⟨hk.1.2.2, hk.1.2.1⟩⟩⟩)), (by (with_reducible repeat (first | apply Kd.V_alloc | apply Kd.V_drewN | apply Kd.V_drew)); exact Kd.V_mono HL174_0.out (fun _ hk => ⟨hk.1.1, ⟨hk.2, ⟨hk.1.2.2, hk.1.2.1⟩⟩⟩)), (by (with_reducible repeat (first | apply Kd.V_alloc | apply Kd.V_drewN | apply Kd.V_drew)); exact Kd.V_mono HO183.out (fun _ hk => ⟨hk.1.1, ⟨hk.2, hk.1.2⟩⟩)), (xN HO186.out), (zN (Kd.N_mono HO189.out (fun _ hk => ⟨hk.1.1, ⟨hk.2, hk.1.2⟩⟩))), (by (with_reducible repeat (first | apply Kd.V_alloc | apply Kd.V_drewN | apply Kd.V_drew)); exact Kd.V_mono HO197.out (fun _ hk => ⟨hk.1.1, ⟨hk.2, hk.1.2⟩⟩)), (zN (Kd.N_mono HO_5.out (fun _ hk => ⟨hk.1.1, ⟨hk.2, hk.1.2⟩⟩))), (xH HB.out)⟩)
                                    rintro ⟨v177, v185, v188⟩ w56 ⟨h0_, h1_, h2_, h3_, h4_, h5_, h6_, h7_⟩
                                    have n0_ : Aside0 (Kd.V (Kd.int .i64) 3 w56 w.heap.size (fun k_ => (w.heap.size ≤ k_) ∧ some k_ ≠ (v185 : Value).ownBlock ∧ some k_ ≠ (v188 : Value).ownBlock ∧ some k_ ≠ (.slice (some ad147) x5_1.length co9 : Value).ownBlock) (.slice A147_0 (rd_L1 x5_1 (ji11)).length c147_0) (rd_L1 x5_1 (ji11))) := ⟨h0_⟩
                                    have n1_ : Aside0 (Kd.V (Kd.int .i64) 3 w56 w.heap.size (fun k_ => (w.heap.size ≤ k_) ∧ some k_ ≠ (v185 : Value).ownBlock ∧ some k_ ≠ (v188 : Value).ownBlock ∧ some k_ ≠ (.slice (some ad147) x5_1.length co9 : Value).ownBlock) (.slice A147_0 (rd_L1 x5_1 (ji11)).length c147_0) (rd_L1 x5_1 (ji11))) := ⟨h1_⟩
                                    have n2_ : Aside0 (Kd.V (Kd.slice 3 (Kd.int .i64)) 22 w56 w.heap.size (fun k_ => (w.heap.size ≤ k_) ∧ some k_ ≠ (v185 : Value).ownBlock ∧ some k_ ≠ (v188 : Value).ownBlock) (.slice (some ad147) y179.length co9) y179) := ⟨h2_⟩
                                    have n3_ : Aside0 (Kd.N (Kd.slice 3 (Kd.int .i64)) 22 w56 w.heap.size (fun k_ => (w.heap.size ≤ k_) ∧ some k_ ≠ (v188 : Value).ownBlock) v185 y184) := ⟨h3_⟩
                                    have n4_ : Aside0 (Kd.N (Kd.slice 3 (Kd.int .i64)) 22 w56 w.heap.size (fun k_ => (w.heap.size ≤ k_) ∧ some k_ ≠ (v185 : Value).ownBlock ∧ some k_ ≠ (.slice (some ad147) x5_1.length co9 : Value).ownBlock) v188 y187) := ⟨h4_⟩
                                    have n5_ : Aside0 (Kd.V (Kd.slice 3 (Kd.int .i64)) 22 w56 w.heap.size (fun k_ => (w.heap.size ≤ k_) ∧ some k_ ≠ (v185 : Value).ownBlock ∧ some k_ ≠ (v188 : Value).ownBlock) (.slice A50 y193.length c50) y193) := ⟨h5_⟩
                                    have n6_ : Aside0 (Kd.N (Kd.slice 3 (Kd.int .i64)) 22 w56 w.heap.size (fun k_ => (w.heap.size ≤ k_) ∧ some k_ ≠ (v185 : Value).ownBlock ∧ some k_ ≠ (v188 : Value).ownBlock) (.slice (some ad147) x5_1.length co9) x5_1) := ⟨h6_⟩
                                    have n7_ : Aside0 (Below w.heap.size w w56) := ⟨h7_⟩
                                    clear HO_5
                                    clear HO_7
                                    clear HL147_0
                                    clear HL174_0
                                    clear HR147_0
                                    clear HR174_0
                                    clear HB
                                    clear h0_ h1_ h2_ h3_ h4_ h5_ h6_ h7_
                                    have HL147_0 := n0_
                                    have HL174_0 := n1_
                                    have HO183 := n2_
                                    have HO186 := n3_
                                    have HO189 := n4_
                                    have HO197 := n5_
                                    have HO_5 := n6_
                                    have HB := n7_
                                    clear n0_ n1_ n2_ n3_ n4_ n5_ n6_ n7_
                                    have hHeld := trivial
                                    obtain ⟨Ao58, co58, eo58⟩ := Kd.N_slice HO189.out
                                    (first | subst eo58 | (injection eo58 with f1_ f2_ f3_; have f4_ := f1_.symm; have f5_ := f3_.symm; clear f1_ f2_ f3_; subst f4_; subst f5_))
                                    refine norm_ (a' := ?_) ?_ ?_
                                    rotate_left
                                    · simp only [putAll, Act.put, sA, sZ, sU]
                                      rfl
                                    refine yO 7 55 (bm 13 2047) HT_ (fun K hK => ?_)
                                    refine Kd.N_append_rows_step (Kd.slice 3 (Kd.int .i64)) (w0 := w) w.heap.size (by rfl) (.tmp 52) (.tmp 54) 29 22 (.slice none 0 0) 24 rfl Try.underlying29 info22 rfl (by decide) (by omega) v185 y184 y187 _ _ _ (fun k_ => (w.heap.size ≤ k_)) (fun k_ => ((fun k_ => (w.heap.size ≤ k_))) k_ ∧ some k_ ≠ (v185 : Value).ownBlock) rfl rfl ?aO ?aR (fun _ hk => hk) ?aF ?aB ?aS ?aL ?_
                                    (case aR => exact (by skip; exact Kd.N_F (Kd.N_mono (ok' := (fun k_ => ((fun k_ => (w.heap.size ≤ k_))) k_ ∧ some k_ ≠ (v185 : Value).ownBlock)) (HO189.out) (fun k_ hk => ⟨hk.1, hk.2.1⟩))))
                                    (case aB => exact (xH HB.out))
                                    (case aF => exact (fun k_ hk => (Nat.le_trans (below_size (xH HB.out)) hk)))
                                    (case aO => exact (zN (Kd.N_mono HO186.out (fun _ hk => hk.1))))
                                    (case aS => exact (below_size (xH HB.out)))
                                    (case aL => have := LMc43.out; omega)
                                    intro v191 w57 ho hb hg hat
                                    rw [← Ny190.out] at ho
                                    replace HO_5 := aM (Kd.N_afterv (ok := (fun k_ => (w.heap.size ≤ k_) ∧ some k_ ≠ (.slice Ao58 y187.length co58 : Value).ownBlock)) (zN (Kd.N_mono HO_5.out (fun _ hk => ⟨⟨hk.1, hk.2.2⟩, hk.2.1⟩))) hg hat)
                                    replace HL147_0 := aM (Kd.V_afterv (ok := (fun k_ => (w.heap.size ≤ k_) ∧ some k_ ≠ (.slice (some ad147) x5_1.length co9 : Value).ownBlock ∧ some k_ ≠ (.slice Ao58 y187.length co58 : Value).ownBlock)) (by (with_reducible repeat (first | apply Kd.V_alloc | apply Kd.V_drewN | apply Kd.V_drew)); exact Kd.V_mono HL147_0.out (fun _ hk => ⟨⟨hk.1, ⟨hk.2.2.2, hk.2.2.1⟩⟩, hk.2.1⟩)) hg hat)
                                    replace HL174_0 := aM (Kd.V_afterv (ok := (fun k_ => (w.heap.size ≤ k_) ∧ some k_ ≠ (.slice (some ad147) x5_1.length co9 : Value).ownBlock ∧ some k_ ≠ (.slice Ao58 y187.length co58 : Value).ownBlock)) (by (with_reducible repeat (first | apply Kd.V_alloc | apply Kd.V_drewN | apply Kd.V_drew)); exact Kd.V_mono HL174_0.out (fun _ hk => ⟨⟨hk.1, ⟨hk.2.2.2, hk.2.2.1⟩⟩, hk.2.1⟩)) hg hat)
                                    replace HO183 := aM (Kd.V_afterv (ok := (fun k_ => (w.heap.size ≤ k_) ∧ some k_ ≠ (.slice Ao58 y187.length co58 : Value).ownBlock)) (by (with_reducible repeat (first | apply Kd.V_alloc | apply Kd.V_drewN | apply Kd.V_drew)); exact Kd.V_mono HO183.out (fun _ hk => ⟨⟨hk.1, hk.2.2⟩, hk.2.1⟩)) hg hat)
                                    replace HO197 := aM (Kd.V_afterv (ok := (fun k_ => (w.heap.size ≤ k_) ∧ some k_ ≠ (.slice Ao58 y187.length co58 : Value).ownBlock)) (by (with_reducible repeat (first | apply Kd.V_alloc | apply Kd.V_drewN | apply Kd.V_drew)); exact Kd.V_mono HO197.out (fun _ hk => ⟨⟨hk.1, hk.2.2⟩, hk.2.1⟩)) hg hat)
                                    replace HO189 := aM (Kd.N_afterv (ok := (fun k_ => (w.heap.size ≤ k_) ∧ some k_ ≠ (.slice (some ad147) x5_1.length co9 : Value).ownBlock)) (zN (Kd.N_mono HO189.out (fun _ hk => ⟨⟨hk.1, hk.2.2⟩, hk.2.1⟩))) hg hat)
                                    replace HB := aM (hb)
                                    have HO192 := aM (ho)
                                    clear HO186
                                    clear ho hb hg hat
                                    refine hK.out _ _ trivial (fun hHeld => ?_)
                                    clear hK K
                                    refine norm_ (a' := ?_) ?_ ?_
                                    rotate_left
                                    · show Act.put _ (some 55) _ = _
                                      simp only [Act.put, sA, sZ, sU, i64_w, i32_w]
                                      rfl
                                    refine yO 11 59 (bm 13 4095) HT_ (fun K hK => ?_)
                                    refine Kd.N_append_rows_step (Kd.slice 3 (Kd.int .i64)) (w0 := w) w.heap.size (by rfl) (.tmp 55) (.tmp 58) 29 22 (.slice none 0 0) 24 rfl Try.underlying29 info22 rfl (by decide) (by omega) v191 y190 y193 _ _ _ (fun k_ => (w.heap.size ≤ k_)) (fun k_ => ((fun k_ => (w.heap.size ≤ k_))) k_ ∧ some k_ ≠ (v191 : Value).ownBlock) rfl rfl ?aO ?aR (fun _ hk => hk) ?aF ?aB ?aS ?aL ?_
                                    (case aR => exact (by skip; exact Kd.V_F (base := w.heap.size) (e := 3) (Kd.V_mono (e := 3) (base := w.heap.size) (ok' := (fun k_ => ((fun k_ => (w.heap.size ≤ k_))) k_ ∧ some k_ ≠ (v191 : Value).ownBlock)) (HO197.out) (fun k_ hk => ⟨hk.1.1, hk.2⟩))))
                                    (case aB => exact (xH HB.out))
                                    (case aF => exact (fun k_ hk => (Nat.le_trans (below_size (xH HB.out)) hk)))
                                    (case aO => exact (xN HO192.out))
                                    (case aS => exact (below_size (xH HB.out)))
                                    (case aL => have := LMc46.out; omega)
                                    intro v199 w59 ho hb hg hat
                                    rw [← Ny198.out] at ho
                                    replace HO_5 := aM (Kd.N_afterv (ok := (fun k_ => (w.heap.size ≤ k_) ∧ some k_ ≠ (.slice Ao58 y187.length co58 : Value).ownBlock)) (xN HO_5.out) hg hat)
                                    replace HL147_0 := aM (Kd.V_afterv (ok := (fun k_ => (w.heap.size ≤ k_) ∧ some k_ ≠ (.slice (some ad147) x5_1.length co9 : Value).ownBlock ∧ some k_ ≠ (.slice Ao58 y187.length co58 : Value).ownBlock)) (xV HL147_0.out) hg hat)
                                    replace HL174_0 := aM (Kd.V_afterv (ok := (fun k_ => (w.heap.size ≤ k_) ∧ some k_ ≠ (.slice (some ad147) x5_1.length co9 : Value).ownBlock ∧ some k_ ≠ (.slice Ao58 y187.length co58 : Value).ownBlock)) (xV HL174_0.out) hg hat)
                                    replace HO183 := aM (Kd.V_afterv (ok := (fun k_ => (w.heap.size ≤ k_) ∧ some k_ ≠ (.slice Ao58 y187.length co58 : Value).ownBlock)) (xV HO183.out) hg hat)
                                    replace HO197 := aM (Kd.V_afterv (ok := (fun k_ => (w.heap.size ≤ k_) ∧ some k_ ≠ (.slice Ao58 y187.length co58 : Value).ownBlock)) (xV HO197.out) hg hat)
                                    replace HO189 := aM (Kd.N_afterv (ok := (fun k_ => (w.heap.size ≤ k_) ∧ some k_ ≠ (.slice (some ad147) x5_1.length co9 : Value).ownBlock)) (xN HO189.out) hg hat)
                                    replace HB := aM (hb)
                                    have HO200 := aM (ho)
                                    clear HO192
                                    clear ho hb hg hat
                                    refine hK.out _ _ trivial (fun hHeld => ?_)
                                    clear hK K
                                    refine norm_ (a' := ?_) ?_ ?_
                                    rotate_left
                                    · show Act.put _ (some 59) _ = _
                                      simp only [Act.put, sA, sZ, sU, i64_w, i32_w]
                                      rfl
                                    refine yP 12 5 (bm 13 8191) HT_ ?_
                                    refine done_ (done_of HT_.out (by kernel_rfl)) ?_
                                    try go_wp2
                                    go_roundg k2
                                    case measure => have := HK1.out; have := HK2.out; omega
                                    case rel => exact ⟨(y198), (wrap64 (x6_1 + 1)), yZ, H', ⟨by have := HK1.out; have := HK2.out; omega⟩, ⟨xN HO200.out⟩, ⟨xH HB.out⟩⟩
                                  · rw [if_neg c46] at H
                                    exact absurd H (by simp)
                                · rw [if_neg c43] at H
                                  exact absurd H (by simp)
                              · rw [if_neg c42] at H
                                exact absurd H (by simp)
                            · rw [if_neg c41] at H
                              exact absurd H (by simp)
                          · rw [if_neg c40] at H
                            exact absurd H (by simp)
                        · replace c39 := Bool.eq_false_iff.mpr c39
                          subst c39
                          rw [if_neg (show ¬ (false = true) by decide)] at H
                          have H' := aM H
                          clear H
                          have p147 : 0 ≤ ((ji11) : Int) := yA
                          have q147 : (ji11) < (x5_1.length : Int) := yA
                          obtain ⟨ad147, A147_0, c147_0, e147, hx147_0, hl147_0, hi147_0⟩ := at_L1 (Kd.N_reads' HO_5.out).2.2 (ji11) p147 q147
                          cases e147
                          obtain ⟨ce147, hce147, hMe147, hcc147⟩ := Kd.N_get HO_5.out [] (ji11) p147 (by first | exact q147 | exact yA | (have e_ := (Kd.N_reads' HO_5.out).1; omega))
                          obtain ⟨ua147_0, uc147_0, rfl, ul147_0, ge147_0⟩ := Kd.FK_slice_open hMe147
                          have hv147_0 := hcc147 0 _ rfl
                          rw [Nat.add_zero, show ((Kd.slice 3 (Kd.int .i64))).sz = 1 from rfl, Nat.mul_one] at hv147_0
                          replace hv147_0 := Option.some.inj (hv147_0.symm.trans hx147_0)
                          injection hv147_0 with hva_ hvn_ hvc_
                          rw [hva_] at ge147_0
                          rw [hvc_] at ul147_0
                          have HL147_0 := aM (show Kd.V (Kd.int .i64) 3 _ w.heap.size _ _ (rd_L1 x5_1 (ji11)) from Kd.V_mk ul147_0 ge147_0)
                          clear hva_ hvn_ hvc_ ge147_0 ul147_0
                          clear hcc147 hce147
                          have HR147_0 := aM hi147_0
                          have HC147_0 := aM hl147_0
                          clear hi147_0 hl147_0
                          replace p147 := eq_true p147
                          replace q147 := eq_true q147
                          obtain ⟨Ao60, co60, eo60⟩ := Kd.R_slice HO_7.out
                          subst eo60
                          go_wp2_with (first | (go_at_call 104; (with_reducible refine (spec_l7Before.calls k2 _ _ t144 _ _ (rd_L1 x5_1 (ji11)) false _ (xC (Kd.R_reads' HO_7.out).2.2) ((Kd.R_reads' HO_7.out).2.1) ?side3 HC147_0.out A14.out).mono ?_); (case side3 => repeat (first | exact (by repeat (first | (with_reducible exact HR147_0.out) | (with_reducible refine Kd.C_alloc ?_ _) | (with_reducible refine Kd.C_drewN ?_ _) | (with_reducible refine Kd.C_drew ?_) | exact HR147_0.out)) | (with_reducible refine Kd.C_alloc ?_ _) | (with_reducible refine Kd.C_drewN ?_ _) | (with_reducible refine Kd.C_drew ?_))); rintro e w' ⟨rfl, ⟨nd, rfl⟩⟩; have p174 : 0 ≤ ((ji11) : Int) := yA; have q174 : (ji11) < (x5_1.length : Int) := yA; obtain ⟨ad174, A174_0, c174_0, e174, hx174_0, hl174_0, hi174_0⟩ := at_L1 (Kd.N_reads' HO_5.out).2.2 (ji11) p174 q174; obtain rfl : ad147 = ad174 := (by injection e174); obtain ⟨ce174, hce174, hMe174, hcc174⟩ := Kd.N_get HO_5.out [] (ji11) p174 (by first | exact q174 | exact yA | (have e_ := (Kd.N_reads' HO_5.out).1; omega)); obtain ⟨ua174_0, uc174_0, rfl, ul174_0, ge174_0⟩ := Kd.FK_slice_open hMe174; have hv174_0 := hcc174 0 _ rfl; rw [Nat.add_zero, show ((Kd.slice 3 (Kd.int .i64))).sz = 1 from rfl, Nat.mul_one] at hv174_0; replace hv174_0 := Option.some.inj (hv174_0.symm.trans hx174_0); injection hv174_0 with hva_ hvn_ hvc_; rw [hva_] at ge174_0; rw [hvc_] at ul174_0; have HL174_0 := aM (show Kd.V (Kd.int .i64) 3 _ w.heap.size _ _ (rd_L1 x5_1 (ji11)) from Kd.V_mk ul174_0 ge174_0); clear hva_ hvn_ hvc_ ge174_0 ul174_0; clear hcc174 hce174; have HR174_0 := aM hi174_0; have HC174_0 := aM hl174_0; clear hi174_0 hl174_0; replace p174 := eq_true p174; replace q174 := eq_true q174; have ea_ := Option.some.inj (hx147_0.symm.trans hx174_0); injection ea_ with ea_ en_ ec_; subst ea_; subst ec_; clear en_) | (go_at_call 104; (with_reducible refine (spec_l7Before.calls k2 _ _ (rd_L1 x5_1 (ji11)) _ _ t144 false _ ?side1 HC174_0.out (xC (Kd.R_reads' HO_7.out).2.2) ((Kd.R_reads' HO_7.out).2.1) A38.out).mono ?_); (case side1 => repeat (first | exact (by repeat (first | (with_reducible exact HR174_0.out) | (with_reducible refine Kd.C_alloc ?_ _) | (with_reducible refine Kd.C_drewN ?_ _) | (with_reducible refine Kd.C_drew ?_) | exact HR174_0.out)) | (with_reducible refine Kd.C_alloc ?_ _) | (with_reducible refine Kd.C_drewN ?_ _) | (with_reducible refine Kd.C_drew ?_))); rintro e w' ⟨rfl, ⟨nd, rfl⟩⟩))
                          go_roundg k2
                          case measure => have := HK1.out; have := HK2.out; omega
                          case rel => exact ⟨(x5_1), (wrap64 (x6_1 + 1)), yZ, H', ⟨by have := HK1.out; have := HK2.out; omega⟩, ⟨zN (Kd.N_mono HO_5.out (fun _ hk => hk.1))⟩, ⟨xH HB.out⟩⟩
                  · rw [if_neg c13] at H
                    exact absurd H (by simp)
                · rw [if_neg c12] at H
                  exact absurd H (by simp)
              · rw [if_neg c10] at H
                have c10b0 : decide (0 < x8_2) = false := decide_eq_false c10
                clear c10
                by_cases c61 : x8_2 = 0
                · rw [if_pos c61] at H
                  have c61b0 : (x8_2 == 0) = true := beq_iff_eq.mpr c61
                  have c61b1 : (x8_2 != 0) = false := bne_eq_false_iff_eq.mpr c61
                  clear c61
                  obtain ⟨y201, hy201⟩ := yE (([] : List (List Int)) : List (List Int))
                  replace H : (if 0 ≤ x8_2 then (if x8_2 ≤ (x5_1.length : Int) then ((some (x5_1.take (x8_2 : Int).toNat : List (List Int))).bind fun y204 => (if y201.length + y204.length < 5864062014805 then ((some (y201 ++ y204 : List (List Int))).bind fun y209 => ((some (([t144] : List (List Int)) : List (List Int))).bind fun y212 => (if y209.length + y212.length < 5864062014805 then ((some (y209 ++ y212 : List (List Int))).bind fun y215 => ((some (x5_1.drop (x8_2 : Int).toNat : List (List Int))).bind fun y218 => (if y215.length + y218.length < 5864062014805 then (spec_l7Traces.l0 k2 l0 l1 (y215 ++ y218) (wrap64 (x6_1 + 1))) else (none)))) else (none)))) else (none))) else (none)) else (none)) = some r := yI hy201 H
                  have Ny201 := aM hy201
                  clear hy201
                  by_cases c62 : 0 ≤ x8_2
                  · rw [if_pos c62] at H
                    have c62b0 := eq_true c62
                    have c62b1 : decide (0 ≤ x8_2) = true := decide_eq_true c62
                    clear c62
                    by_cases c63 : x8_2 ≤ (x5_1.length : Int)
                    · rw [if_pos c63] at H
                      have c63b0 := eq_true c63
                      have c63b1 : decide (x8_2 ≤ (x5_1.length : Int)) = true := decide_eq_true c63
                      clear c63
                      obtain ⟨y204, hy204⟩ := yE (x5_1.take (x8_2 : Int).toNat : List (List Int))
                      replace H : (if y201.length + y204.length < 5864062014805 then ((some (y201 ++ y204 : List (List Int))).bind fun y209 => ((some (([t144] : List (List Int)) : List (List Int))).bind fun y212 => (if y209.length + y212.length < 5864062014805 then ((some (y209 ++ y212 : List (List Int))).bind fun y215 => ((some (x5_1.drop (x8_2 : Int).toNat : List (List Int))).bind fun y218 => (if y215.length + y218.length < 5864062014805 then (spec_l7Traces.l0 k2 l0 l1 (y215 ++ y218) (wrap64 (x6_1 + 1))) else (none)))) else (none)))) else (none)) = some r := yI hy204 H
                      have Ny204 := aM hy204
                      clear hy204
                      by_cases c64 : y201.length + y204.length < 5864062014805
                      · rw [if_pos c64] at H
                        have LMc64 := aM c64
                        clear c64
                        obtain ⟨y209, hy209⟩ := yE (y201 ++ y204 : List (List Int))
                        replace H : ((some (([t144] : List (List Int)) : List (List Int))).bind fun y212 => (if y209.length + y212.length < 5864062014805 then ((some (y209 ++ y212 : List (List Int))).bind fun y215 => ((some (x5_1.drop (x8_2 : Int).toNat : List (List Int))).bind fun y218 => (if y215.length + y218.length < 5864062014805 then (spec_l7Traces.l0 k2 l0 l1 (y215 ++ y218) (wrap64 (x6_1 + 1))) else (none)))) else (none))) = some r := yI hy209 H
                        have Ny209 := aM hy209
                        clear hy209
                        obtain ⟨y212, hy212⟩ := yE (([t144] : List (List Int)) : List (List Int))
                        replace H : (if y209.length + y212.length < 5864062014805 then ((some (y209 ++ y212 : List (List Int))).bind fun y215 => ((some (x5_1.drop (x8_2 : Int).toNat : List (List Int))).bind fun y218 => (if y215.length + y218.length < 5864062014805 then (spec_l7Traces.l0 k2 l0 l1 (y215 ++ y218) (wrap64 (x6_1 + 1))) else (none)))) else (none)) = some r := yI hy212 H
                        have Ny212 := aM hy212
                        clear hy212
                        by_cases c65 : y209.length + y212.length < 5864062014805
                        · rw [if_pos c65] at H
                          have LMc65 := aM c65
                          clear c65
                          obtain ⟨y215, hy215⟩ := yE (y209 ++ y212 : List (List Int))
                          replace H : ((some (x5_1.drop (x8_2 : Int).toNat : List (List Int))).bind fun y218 => (if y215.length + y218.length < 5864062014805 then (spec_l7Traces.l0 k2 l0 l1 (y215 ++ y218) (wrap64 (x6_1 + 1))) else (none))) = some r := yI hy215 H
                          have Ny215 := aM hy215
                          clear hy215
                          have c66b0 := eq_true (yA : 0 ≤ x8_2)
                          have c67b0 := eq_true (yA : x8_2 ≤ (x5_1.length : Int))
                          obtain ⟨y218, hy218⟩ := yE (x5_1.drop (x8_2 : Int).toNat : List (List Int))
                          replace H : (if y215.length + y218.length < 5864062014805 then (spec_l7Traces.l0 k2 l0 l1 (y215 ++ y218) (wrap64 (x6_1 + 1))) else (none)) = some r := yI hy218 H
                          have Ny218 := aM hy218
                          clear hy218
                          by_cases c68 : y215.length + y218.length < 5864062014805
                          · rw [if_pos c68] at H
                            have LMc68 := aM c68
                            clear c68
                            obtain ⟨y223, hy223⟩ := yE (y215 ++ y218 : List (List Int))
                            replace H : (spec_l7Traces.l0 k2 l0 l1 y223 (wrap64 (x6_1 + 1))) = some r := yI hy223 H
                            have Ny223 := aM hy223
                            clear hy223
                            have H' := aM H
                            clear H
                            try go_wp2
                            replace HO_5 := aM (Kd.N_drew HO_5.out)
                            replace HO_7 := aM (rD HO_7.out)
                            replace HB := aM (eD HB.out)
                            have q70 : (x8_2 : Int) ≤ ((x5_1.length : Int) : Int) := yA
                            obtain ⟨i070, hi070, _, hsz70, _⟩ := info_parts info22
                            have hroom70 : x5_1.length ≤ co9 := (Kd.N_reads' HO_5.out).2.1
                            have hC70 : Kd.F (Kd.slice 3 (Kd.int .i64)) _ _ Ao9 x5_1.length x5_1 := (Kd.V_at (base := w.heap.size) (Kd.N_V HO_5.out)).2.2
                            have hcut70 := cut_to (P := Try.prog) 29 22 .i64 Try.underlying29 hi070 Ao9 x5_1.length co9 x8_2 (yA) q70 hroom70
                            have hr70 := Kd.F_take (m := (x8_2 : Int).toNat) hC70 (by omega)
                            have hy70 : y204.length = (x8_2 : Int).toNat := (by rw [Ny204.out, List.length_take]; omega)
                            rw [← Ny204.out] at hr70
                            rw [← hy70] at hcut70
                            have HO208 := aM (show Kd.V (Kd.slice 3 (Kd.int .i64)) 22 _ w.heap.size _ (.slice Ao9 y204.length co9) y204 from Kd.V_mk (by omega) hr70)
                            have HC208 := aM (show y204.length ≤ co9 from by omega)
                            clear hr70 hC70 hroom70 hi070 hsz70
                            have KY70 := aM hy70
                            clear hy70
                            replace q70 := eq_true q70
                            have q71 : (x8_2 : Int) ≤ ((x5_1.length : Int) : Int) := yA
                            obtain ⟨i071, hi071, _, hsz71, _⟩ := info_parts info22
                            have hroom71 : x5_1.length ≤ co9 := (Kd.N_reads' HO_5.out).2.1
                            have hC71 : Kd.F (Kd.slice 3 (Kd.int .i64)) _ _ Ao9 x5_1.length x5_1 := (Kd.V_at (base := w.heap.size) (Kd.N_V HO_5.out)).2.2
                            have q071 : (0 : Int) ≤ (x8_2 : Int) := yA
                            have hcut71 := cut_from (P := Try.prog) 29 22 .i64 Try.underlying29 hi071 1 hsz71 Ao9 x5_1.length co9 x8_2 q071 q71
                            have hr71 := Kd.F_cut (m := (x8_2 : Int).toNat) (c := co9) hC71 (by omega) hroom71
                            obtain ⟨A71, hA71⟩ : ∃ A1, A1 = (if co9 = (x8_2 : Int).toNat then Ao9 else (Ao9 : Option Addr).map (·.add ((x8_2 : Int).toNat * 1))) := ⟨_, rfl⟩
                            obtain ⟨c71, hc71⟩ : ∃ c1, c1 = co9 - (x8_2 : Int).toNat := ⟨_, rfl⟩
                            have hy71 : y218.length = x5_1.length - (x8_2 : Int).toNat := (by rw [Ny218.out, List.length_drop] <;> omega)
                            rw [show (x5_1).drop (x8_2 : Int).toNat = y218 from Ny218.out.symm] at hr71
                            replace hr71 : Kd.F (Kd.slice 3 (Kd.int .i64)) _ _ A71 y218.length y218 := (by rw [hA71]; exact hr71)
                            rw [← hy71, ← hA71, ← hc71] at hcut71
                            have HO222 := aM (show Kd.V (Kd.slice 3 (Kd.int .i64)) 22 _ w.heap.size _ (.slice A71 y218.length c71) y218 from Kd.V_mk (by rw [hy71, hc71]; exact Nat.sub_le_sub_right hroom71 _) hr71)
                            have HC222 := aM (show y218.length ≤ c71 from by rw [hy71, hc71]; exact Nat.sub_le_sub_right hroom71 _)
                            clear hr71 hC71 hroom71 hi071 hsz71 hc71
                            have KY71 := aM hy71
                            have KA71 := aM hA71
                            clear hy71 hA71
                            replace q71 := eq_true q71
                            refine start_ (n := 13) (S := fun w' => True) (ds := []) (bm 13 0) (by kernel_rfl) rfl rfl trivial (fun hHeld => ?_); refine with_tabW spec_l7Traces.tab10 spec_l7Traces.bits10 (fun HT_ HW_ => ?_)
                            generalize wr.drew = w69 at HO_5 HO_7 HB HO208 HO222 hHeld ⊢
                            refine yP 1 49 (bm 13 2) HT_ ?_
                            refine yP 2 50 (bm 13 6) HT_ ?_
                            refine yP 3 51 (bm 13 14) HT_ ?_
                            refine yP 5 53 (bm 13 46) HT_ ?_
                            refine yP 8 56 (bm 13 302) HT_ ?_
                            refine yP 9 57 (bm 13 814) HT_ ?_
                            refine yP 10 58 (bm 13 1838) HT_ ?_
                            refine join_ (σ := Value × Value × Value) 3 (bm 13 1919) (fun s_ => [(48, s_.1), (52, s_.2.1), (54, s_.2.2)]) (fun s_ w' => (Kd.V (Kd.slice 3 (Kd.int .i64)) 22 w' w.heap.size (fun k_ => (w.heap.size ≤ k_) ∧ some k_ ≠ (s_.2.1 : Value).ownBlock ∧ some k_ ≠ (s_.2.2 : Value).ownBlock) (.slice Ao9 y204.length co9) y204) ∧ (Kd.N (Kd.slice 3 (Kd.int .i64)) 22 w' w.heap.size (fun k_ => (w.heap.size ≤ k_) ∧ some k_ ≠ (s_.2.2 : Value).ownBlock) s_.2.1 y209) ∧ (Kd.N (Kd.slice 3 (Kd.int .i64)) 22 w' w.heap.size (fun k_ => (w.heap.size ≤ k_) ∧ some k_ ≠ (s_.2.1 : Value).ownBlock ∧ some k_ ≠ (.slice Ao9 x5_1.length co9 : Value).ownBlock) s_.2.2 y212) ∧ (Kd.V (Kd.slice 3 (Kd.int .i64)) 22 w' w.heap.size (fun k_ => (w.heap.size ≤ k_) ∧ some k_ ≠ (s_.2.1 : Value).ownBlock ∧ some k_ ≠ (s_.2.2 : Value).ownBlock) (.slice A71 y218.length c71) y218) ∧ (Kd.N (Kd.slice 3 (Kd.int .i64)) 22 w' w.heap.size (fun k_ => (w.heap.size ≤ k_) ∧ some k_ ≠ (s_.2.1 : Value).ownBlock ∧ some k_ ≠ (s_.2.2 : Value).ownBlock) (.slice Ao9 x5_1.length co9) x5_1) ∧ (Below w.heap.size w w')) ?_ ?_
                            rotate_left
                            · intro hCont
                              refine two_ (i := 0) (j := 6) (Ni := some 48) (Nj := some 54) (bm 13 1839) (bm 13 1902) rfl rfl rfl rfl (two_of HT_.out (by kernel_rfl)) (by decide) (by decide) (fun K hK => ?_) (fun K hK => ?_)
                              · skip
                                refine Kd.N_lit_step (Kd.slice 3 (Kd.int .i64)) _ 22 ?hg (N' := 48) ?hd (xs := ([] : List (List Int))) (inner := []) (ok := (fun k_ => (w.heap.size ≤ k_) ∧ some k_ ≠ (.slice Ao9 x5_1.length co9 : Value).ownBlock ∧ some k_ ≠ (v145 : Value).ownBlock)) (okp := (fun k_ => (w.heap.size ≤ k_) ∧ some k_ ≠ (.slice Ao9 x5_1.length co9 : Value).ownBlock ∧ some k_ ≠ (v145 : Value).ownBlock)) ?hr ?hp (fun _ hk => hk) ((show ∀ k_, w69.heap.size ≤ k_ → (fun k_ => (w.heap.size ≤ k_) ∧ some k_ ≠ (.slice Ao9 x5_1.length co9 : Value).ownBlock ∧ some k_ ≠ (v145 : Value).ownBlock) k_ from fun k_ hk => ⟨(Nat.le_trans (below_size (xH HB.out)) hk), Kd.fresh' (Kd.N_lt (xN HO_5.out)) k_ hk, Kd.fresh' (Kd.R_lt (xR HO_7.out)) k_ hk⟩) _ (Nat.le_refl _)) (Below.refl _ _) (Nat.le_refl _) (by simp) ?_; (case hd => rfl); (case hg => rfl); (case hr => first | (go_simp; done) | (go_simp; rfl)); (case hp => exact (Reps.none _ _))
                                intro v202 w72 ho73 hb hg_ hnew_
                                clear hg_ hnew_
                                (first | rw [← Ny201.out] at ho73 | (simp only [Int.reduceToNat] at ho73; rw [← Ny201.out] at ho73))
                                replace HO_5 := aM (Kd.N_elder' (xN HO_5.out) (by first | exact Kd.N_base ho73 | exact Kd.S_base ho73 | exact Kd.R_base ho73) hb)
                                replace HO_7 := aM (Kd.R_below (xR HO_7.out) hb)
                                replace HO208 := aM (Kd.V_elder' (xV HO208.out) (by first | exact Kd.N_base ho73 | exact Kd.S_base ho73 | exact Kd.R_base ho73) hb)
                                replace HO222 := aM (Kd.V_elder' (xV HO222.out) (by first | exact Kd.N_base ho73 | exact Kd.S_base ho73 | exact Kd.R_base ho73) hb)
                                have HO203 := aM (Kd.N_lower ho73 (below_size (xH HB.out)))
                                replace HB := yS0 HB hb
                                clear hb ho73
                                refine hK.out _ _ trivial (fun hHeld => ?_)
                                clear hK K
                                refine norm_ (a' := ?_) ?_ ?_
                                rotate_left
                                · show Act.put _ (some 48) _ = _
                                  simp only [Act.put, sA, sZ, sU, i64_w, i32_w]
                                  rfl
                                refine two_ (i := 4) (j := 6) (Ni := some 52) (Nj := some 54) (bm 13 1855) (bm 13 1903) rfl rfl rfl rfl (two_of HT_.out (by kernel_rfl)) (by decide) (by decide) (fun K hK => ?_) (fun K hK => ?_)
                                · skip
                                  refine Kd.N_append_rows_step (Kd.slice 3 (Kd.int .i64)) (w0 := w) w.heap.size (by rfl) (.tmp 48) (.tmp 51) 29 22 (.slice none 0 0) 24 rfl Try.underlying29 info22 rfl (by decide) (by omega) v202 y201 y204 _ _ _ (fun k_ => (w.heap.size ≤ k_) ∧ some k_ ≠ (v145 : Value).ownBlock) (fun k_ => ((fun k_ => (w.heap.size ≤ k_) ∧ some k_ ≠ (v145 : Value).ownBlock)) k_ ∧ some k_ ≠ (v202 : Value).ownBlock) rfl rfl ?aO ?aR (fun _ hk => hk) ?aF ?aB ?aS ?aL ?_
                                  (case aR => exact (by skip; exact Kd.V_F (base := w.heap.size) (e := 3) (Kd.V_mono (e := 3) (base := w.heap.size) (ok' := (fun k_ => ((fun k_ => (w.heap.size ≤ k_) ∧ some k_ ≠ (v145 : Value).ownBlock)) k_ ∧ some k_ ≠ (v202 : Value).ownBlock)) (HO208.out) (fun k_ hk => ⟨⟨hk.1.1, hk.1.2⟩, hk.2⟩))))
                                  (case aB => exact (xH HB.out))
                                  (case aF => exact (fun k_ hk => ⟨(Nat.le_trans (below_size (xH HB.out)) hk), Kd.fresh' (Kd.R_lt (xR HO_7.out)) k_ hk⟩))
                                  (case aO => exact (zN (Kd.N_mono HO203.out (fun _ hk => ⟨hk.1, hk.2.2⟩))))
                                  (case aS => exact (below_size (xH HB.out)))
                                  (case aL => have := LMc64.out; omega)
                                  intro v210 w74 ho hb hg hat
                                  rw [← Ny209.out] at ho
                                  replace HO_5 := aM (Kd.N_afterv (ok := (fun k_ => (w.heap.size ≤ k_) ∧ some k_ ≠ (v145 : Value).ownBlock)) (xN HO_5.out) hg hat)
                                  replace HO_7 := aM (Kd.R_over' (xR HO_7.out) (Kd.N_typed (xN HO203.out)) (by decide) hg)
                                  replace HO208 := aM (Kd.V_afterv (ok := (fun k_ => (w.heap.size ≤ k_) ∧ some k_ ≠ (v145 : Value).ownBlock)) (xV HO208.out) hg hat)
                                  replace HO222 := aM (Kd.V_afterv (ok := (fun k_ => (w.heap.size ≤ k_) ∧ some k_ ≠ (v145 : Value).ownBlock)) (xV HO222.out) hg hat)
                                  replace HB := aM (hb)
                                  have HO211 := aM (ho)
                                  clear HO203
                                  clear ho hb hg hat
                                  obtain ⟨Ao75, co75, eo75⟩ := Kd.R_slice HO_7.out
                                  (first | subst eo75 | (injection eo75 with f1_ f2_ f3_; have f4_ := f1_.symm; have f5_ := f3_.symm; clear f1_ f2_ f3_; subst f4_; subst f5_))
                                  refine hK.out _ _ trivial (fun hHeld => ?_)
                                  clear hK K
                                  refine norm_ (a' := ?_) ?_ ?_
                                  rotate_left
                                  · show Act.put _ (some 52) _ = _
                                    simp only [Act.put, sA, sZ, sU, i64_w, i32_w]
                                    rfl
                                  refine yO 6 54 (bm 13 1919) HT_ (fun K hK => ?_)
                                  refine Kd.N_lit_step (Kd.slice 3 (Kd.int .i64)) _ 22 ?hg (N' := 54) ?hd (xs := ([t144] : List (List Int))) (inner := [.slice Ao75 t144.length co75]) (ok := (fun k_ => (w.heap.size ≤ k_) ∧ some k_ ≠ (.slice Ao9 x5_1.length co9 : Value).ownBlock ∧ some k_ ≠ (v210 : Value).ownBlock)) (okp := (fun k_ => (w.heap.size ≤ k_) ∧ some k_ ≠ (.slice Ao9 x5_1.length co9 : Value).ownBlock ∧ some k_ ≠ (v210 : Value).ownBlock)) ?hr ?hp (fun _ hk => hk) ((show ∀ k_, w74.heap.size ≤ k_ → (fun k_ => (w.heap.size ≤ k_) ∧ some k_ ≠ (.slice Ao9 x5_1.length co9 : Value).ownBlock ∧ some k_ ≠ (v210 : Value).ownBlock) k_ from fun k_ hk => ⟨(Nat.le_trans (below_size (xH HB.out)) hk), Kd.fresh' (Kd.N_lt (xN HO_5.out)) k_ hk, Kd.fresh' (Kd.N_lt (xN HO211.out)) k_ hk⟩) _ (Nat.le_refl _)) (Below.refl _ _) (Nat.le_refl _) (by simp) ?_; (case hd => rfl); (case hg => rfl); (case hr => first | (go_simp; done) | (go_simp; rfl)); (case hp => exact (Reps.one (show Kd.FK (Kd.slice 3 (Kd.int .i64)) _ _ t144 [.slice Ao75 t144.length co75] from (Kd.FK_slice_mk (Kd.R_reads' (rM (ok' := (fun k_ => (w.heap.size ≤ k_) ∧ some k_ ≠ (.slice Ao9 x5_1.length co9 : Value).ownBlock ∧ some k_ ≠ (v210 : Value).ownBlock)) (Kd.R_apart' (Kd.R_apart' (HO_7.out) (Kd.N_typed HO_5.out) (by decide)) (Kd.N_typed HO211.out) (by decide)) (fun k_ hk => ⟨hk.1.1, ⟨hk.1.2, hk.2⟩⟩))).2.1 (Kd.R_F (rM (ok' := (fun k_ => (w.heap.size ≤ k_) ∧ some k_ ≠ (.slice Ao9 x5_1.length co9 : Value).ownBlock ∧ some k_ ≠ (v210 : Value).ownBlock)) (Kd.R_apart' (Kd.R_apart' (HO_7.out) (Kd.N_typed HO_5.out) (by decide)) (Kd.N_typed HO211.out) (by decide)) (fun k_ hk => ⟨hk.1.1, ⟨hk.1.2, hk.2⟩⟩))))) (Reps.none _ _)))
                                  intro v213 w76 ho77 hb hg_ hnew_
                                  clear hg_ hnew_
                                  (first | rw [← Ny212.out] at ho77 | (simp only [Int.reduceToNat] at ho77; rw [← Ny212.out] at ho77))
                                  replace HO_5 := aM (Kd.N_elder' (xN HO_5.out) (by first | exact Kd.N_base ho77 | exact Kd.S_base ho77 | exact Kd.R_base ho77) hb)
                                  replace HO208 := aM (Kd.V_elder' (xV HO208.out) (by first | exact Kd.N_base ho77 | exact Kd.S_base ho77 | exact Kd.R_base ho77) hb)
                                  replace HO222 := aM (Kd.V_elder' (xV HO222.out) (by first | exact Kd.N_base ho77 | exact Kd.S_base ho77 | exact Kd.R_base ho77) hb)
                                  replace HO211 := aM (Kd.N_elder' (xN HO211.out) (by first | exact Kd.N_base ho77 | exact Kd.S_base ho77 | exact Kd.R_base ho77) hb)
                                  have HO214 := aM (Kd.N_lower ho77 (below_size (xH HB.out)))
                                  replace HB := yS0 HB hb
                                  clear HO_7
                                  clear hb ho77
                                  refine hK.out _ _ trivial (fun hHeld => ?_)
                                  clear hK K
                                  refine norm_ (a' := ?_) ?_ ?_
                                  rotate_left
                                  · show Act.put _ (some 54) _ = _
                                    simp only [Act.put, sA, sZ, sU, i64_w, i32_w]
                                    rfl
                                  exact norm_ (by simp only [putAll, Act.put, sA, sZ, sU]) (hCont (v202, v210, v213) _ ⟨(by (with_reducible repeat (first | apply Kd.V_alloc | apply Kd.V_drewN | apply Kd.V_drew)); exact Kd.V_mono HO208.out (fun _ hk => ⟨hk.1.1.1, ⟨hk.1.2, hk.2⟩⟩)), (zN (Kd.N_mono HO211.out (fun _ hk => ⟨hk.1.1, hk.2⟩))), (zN (Kd.N_mono HO214.out (fun _ hk => ⟨hk.1, ⟨hk.2.2, hk.2.1⟩⟩))), (by (with_reducible repeat (first | apply Kd.V_alloc | apply Kd.V_drewN | apply Kd.V_drew)); exact Kd.V_mono HO222.out (fun _ hk => ⟨hk.1.1.1, ⟨hk.1.2, hk.2⟩⟩)), (zN (Kd.N_mono HO_5.out (fun _ hk => ⟨hk.1.1.1, ⟨hk.1.2, hk.2⟩⟩))), (xH HB.out)⟩)
                                · skip
                                  obtain ⟨Ao74, co74, eo74⟩ := Kd.R_slice HO_7.out
                                  (first | subst eo74 | (injection eo74 with f1_ f2_ f3_; have f4_ := f1_.symm; have f5_ := f3_.symm; clear f1_ f2_ f3_; subst f4_; subst f5_))
                                  refine Kd.N_lit_step (Kd.slice 3 (Kd.int .i64)) _ 22 ?hg (N' := 54) ?hd (xs := ([t144] : List (List Int))) (inner := [.slice Ao74 t144.length co74]) (ok := (fun k_ => (w.heap.size ≤ k_) ∧ some k_ ≠ (.slice Ao9 x5_1.length co9 : Value).ownBlock ∧ some k_ ≠ (v202 : Value).ownBlock)) (okp := (fun k_ => (w.heap.size ≤ k_) ∧ some k_ ≠ (.slice Ao9 x5_1.length co9 : Value).ownBlock ∧ some k_ ≠ (v202 : Value).ownBlock)) ?hr ?hp (fun _ hk => hk) ((show ∀ k_, w72.heap.size ≤ k_ → (fun k_ => (w.heap.size ≤ k_) ∧ some k_ ≠ (.slice Ao9 x5_1.length co9 : Value).ownBlock ∧ some k_ ≠ (v202 : Value).ownBlock) k_ from fun k_ hk => ⟨(Nat.le_trans (below_size (xH HB.out)) hk), Kd.fresh' (Kd.N_lt (xN HO_5.out)) k_ hk, Kd.fresh' (Kd.N_lt (xN HO203.out)) k_ hk⟩) _ (Nat.le_refl _)) (Below.refl _ _) (Nat.le_refl _) (by simp) ?_; (case hd => rfl); (case hg => rfl); (case hr => first | (go_simp; done) | (go_simp; rfl)); (case hp => exact (Reps.one (show Kd.FK (Kd.slice 3 (Kd.int .i64)) _ _ t144 [.slice Ao74 t144.length co74] from (Kd.FK_slice_mk (Kd.R_reads' (rM (ok' := (fun k_ => (w.heap.size ≤ k_) ∧ some k_ ≠ (.slice Ao9 x5_1.length co9 : Value).ownBlock ∧ some k_ ≠ (v202 : Value).ownBlock)) (Kd.R_apart' (Kd.R_apart' (HO_7.out) (Kd.N_typed HO_5.out) (by decide)) (Kd.N_typed HO203.out) (by decide)) (fun k_ hk => ⟨hk.1.1, ⟨hk.1.2, hk.2⟩⟩))).2.1 (Kd.R_F (rM (ok' := (fun k_ => (w.heap.size ≤ k_) ∧ some k_ ≠ (.slice Ao9 x5_1.length co9 : Value).ownBlock ∧ some k_ ≠ (v202 : Value).ownBlock)) (Kd.R_apart' (Kd.R_apart' (HO_7.out) (Kd.N_typed HO_5.out) (by decide)) (Kd.N_typed HO203.out) (by decide)) (fun k_ hk => ⟨hk.1.1, ⟨hk.1.2, hk.2⟩⟩))))) (Reps.none _ _)))
                                  intro v213 w75 ho76 hb hg_ hnew_
                                  clear hg_ hnew_
                                  (first | rw [← Ny212.out] at ho76 | (simp only [Int.reduceToNat] at ho76; rw [← Ny212.out] at ho76))
                                  replace HO_5 := aM (Kd.N_elder' (xN HO_5.out) (by first | exact Kd.N_base ho76 | exact Kd.S_base ho76 | exact Kd.R_base ho76) hb)
                                  replace HO208 := aM (Kd.V_elder' (xV HO208.out) (by first | exact Kd.N_base ho76 | exact Kd.S_base ho76 | exact Kd.R_base ho76) hb)
                                  replace HO222 := aM (Kd.V_elder' (xV HO222.out) (by first | exact Kd.N_base ho76 | exact Kd.S_base ho76 | exact Kd.R_base ho76) hb)
                                  replace HO203 := aM (Kd.N_elder' (xN HO203.out) (by first | exact Kd.N_base ho76 | exact Kd.S_base ho76 | exact Kd.R_base ho76) hb)
                                  have HO214 := aM (Kd.N_lower ho76 (below_size (xH HB.out)))
                                  replace HB := yS0 HB hb
                                  clear HO_7
                                  clear hb ho76
                                  refine hK.out _ _ trivial (fun hHeld => ?_)
                                  clear hK K
                                  refine norm_ (a' := ?_) ?_ ?_
                                  rotate_left
                                  · show Act.put _ (some 54) _ = _
                                    simp only [Act.put, sA, sZ, sU, i64_w, i32_w]
                                    rfl
                                  refine yO 4 52 (bm 13 1919) HT_ (fun K hK => ?_)
                                  refine Kd.N_append_rows_step (Kd.slice 3 (Kd.int .i64)) (w0 := w) w.heap.size (by rfl) (.tmp 48) (.tmp 51) 29 22 (.slice none 0 0) 24 rfl Try.underlying29 info22 rfl (by decide) (by omega) v202 y201 y204 _ _ _ (fun k_ => (w.heap.size ≤ k_) ∧ some k_ ≠ (v213 : Value).ownBlock) (fun k_ => ((fun k_ => (w.heap.size ≤ k_) ∧ some k_ ≠ (v213 : Value).ownBlock)) k_ ∧ some k_ ≠ (v202 : Value).ownBlock) rfl rfl ?aO ?aR (fun _ hk => hk) ?aF ?aB ?aS ?aL ?_
                                  (case aR => exact (by skip; exact Kd.V_F (base := w.heap.size) (e := 3) (Kd.V_mono (e := 3) (base := w.heap.size) (ok' := (fun k_ => ((fun k_ => (w.heap.size ≤ k_) ∧ some k_ ≠ (v213 : Value).ownBlock)) k_ ∧ some k_ ≠ (v202 : Value).ownBlock)) (HO208.out) (fun k_ hk => ⟨⟨hk.1.1.1, hk.2⟩, hk.1.2⟩))))
                                  (case aB => exact (xH HB.out))
                                  (case aF => exact (fun k_ hk => ⟨(Nat.le_trans (below_size (xH HB.out)) hk), Kd.fresh' (Kd.N_lt (xN HO214.out)) k_ hk⟩))
                                  (case aO => exact (zN (Kd.N_mono HO203.out (fun _ hk => ⟨hk.1.1, hk.2⟩))))
                                  (case aS => exact (below_size (xH HB.out)))
                                  (case aL => have := LMc64.out; omega)
                                  intro v210 w77 ho hb hg hat
                                  rw [← Ny209.out] at ho
                                  replace HO_5 := aM (Kd.N_afterv (ok := (fun k_ => (w.heap.size ≤ k_) ∧ some k_ ≠ (v213 : Value).ownBlock)) (zN (Kd.N_mono HO_5.out (fun _ hk => ⟨⟨hk.1.1.1, hk.2⟩, hk.1.2⟩))) hg hat)
                                  replace HO208 := aM (Kd.V_afterv (ok := (fun k_ => (w.heap.size ≤ k_) ∧ some k_ ≠ (v213 : Value).ownBlock)) (by (with_reducible repeat (first | apply Kd.V_alloc | apply Kd.V_drewN | apply Kd.V_drew)); exact Kd.V_mono HO208.out (fun _ hk => ⟨⟨hk.1.1.1, hk.2⟩, hk.1.2⟩)) hg hat)
                                  replace HO222 := aM (Kd.V_afterv (ok := (fun k_ => (w.heap.size ≤ k_) ∧ some k_ ≠ (v213 : Value).ownBlock)) (by (with_reducible repeat (first | apply Kd.V_alloc | apply Kd.V_drewN | apply Kd.V_drew)); exact Kd.V_mono HO222.out (fun _ hk => ⟨⟨hk.1.1.1, hk.2⟩, hk.1.2⟩)) hg hat)
                                  replace HO214 := aM (Kd.N_afterv (ok := (fun k_ => (w.heap.size ≤ k_) ∧ some k_ ≠ (.slice Ao9 x5_1.length co9 : Value).ownBlock)) (zN (Kd.N_mono HO214.out (fun _ hk => ⟨⟨hk.1, hk.2.1⟩, hk.2.2⟩))) hg hat)
                                  replace HB := aM (hb)
                                  have HO211 := aM (ho)
                                  clear HO203
                                  clear ho hb hg hat
                                  refine hK.out _ _ trivial (fun hHeld => ?_)
                                  clear hK K
                                  refine norm_ (a' := ?_) ?_ ?_
                                  rotate_left
                                  · show Act.put _ (some 52) _ = _
                                    simp only [Act.put, sA, sZ, sU, i64_w, i32_w]
                                    rfl
                                  exact norm_ (by simp only [putAll, Act.put, sA, sZ, sU]) (hCont (v202, v210, v213) _ ⟨(by (with_reducible repeat (first | apply Kd.V_alloc | apply Kd.V_drewN | apply Kd.V_drew)); exact Kd.V_mono HO208.out (fun _ hk => ⟨hk.1.1, ⟨hk.2, hk.1.2⟩⟩)), (xN HO211.out), (zN (Kd.N_mono HO214.out (fun _ hk => ⟨hk.1.1, ⟨hk.2, hk.1.2⟩⟩))), (by (with_reducible repeat (first | apply Kd.V_alloc | apply Kd.V_drewN | apply Kd.V_drew)); exact Kd.V_mono HO222.out (fun _ hk => ⟨hk.1.1, ⟨hk.2, hk.1.2⟩⟩)), (zN (Kd.N_mono HO_5.out (fun _ hk => ⟨hk.1.1, ⟨hk.2, hk.1.2⟩⟩))), (xH HB.out)⟩)
                              · skip
                                obtain ⟨Ao72, co72, eo72⟩ := Kd.R_slice HO_7.out
                                (first | subst eo72 | (injection eo72 with f1_ f2_ f3_; have f4_ := f1_.symm; have f5_ := f3_.symm; clear f1_ f2_ f3_; subst f4_; subst f5_))
                                refine Kd.N_lit_step (Kd.slice 3 (Kd.int .i64)) _ 22 ?hg (N' := 54) ?hd (xs := ([t144] : List (List Int))) (inner := [.slice Ao72 t144.length co72]) (ok := (fun k_ => (w.heap.size ≤ k_) ∧ some k_ ≠ (.slice Ao9 x5_1.length co9 : Value).ownBlock)) (okp := (fun k_ => (w.heap.size ≤ k_) ∧ some k_ ≠ (.slice Ao9 x5_1.length co9 : Value).ownBlock)) ?hr ?hp (fun _ hk => hk) ((show ∀ k_, w69.heap.size ≤ k_ → (fun k_ => (w.heap.size ≤ k_) ∧ some k_ ≠ (.slice Ao9 x5_1.length co9 : Value).ownBlock) k_ from fun k_ hk => ⟨(Nat.le_trans (below_size (xH HB.out)) hk), Kd.fresh' (Kd.N_lt (xN HO_5.out)) k_ hk⟩) _ (Nat.le_refl _)) (Below.refl _ _) (Nat.le_refl _) (by simp) ?_; (case hd => rfl); (case hg => rfl); (case hr => first | (go_simp; done) | (go_simp; rfl)); (case hp => exact (Reps.one (show Kd.FK (Kd.slice 3 (Kd.int .i64)) _ _ t144 [.slice Ao72 t144.length co72] from (Kd.FK_slice_mk (Kd.R_reads' (rM (ok' := (fun k_ => (w.heap.size ≤ k_) ∧ some k_ ≠ (.slice Ao9 x5_1.length co9 : Value).ownBlock)) (Kd.R_apart' (HO_7.out) (Kd.N_typed HO_5.out) (by decide)) (fun k_ hk => ⟨hk.1, hk.2⟩))).2.1 (Kd.R_F (rM (ok' := (fun k_ => (w.heap.size ≤ k_) ∧ some k_ ≠ (.slice Ao9 x5_1.length co9 : Value).ownBlock)) (Kd.R_apart' (HO_7.out) (Kd.N_typed HO_5.out) (by decide)) (fun k_ hk => ⟨hk.1, hk.2⟩))))) (Reps.none _ _)))
                                intro v213 w73 ho74 hb hg_ hnew_
                                clear hg_ hnew_
                                (first | rw [← Ny212.out] at ho74 | (simp only [Int.reduceToNat] at ho74; rw [← Ny212.out] at ho74))
                                replace HO_5 := aM (Kd.N_elder' (xN HO_5.out) (by first | exact Kd.N_base ho74 | exact Kd.S_base ho74 | exact Kd.R_base ho74) hb)
                                replace HO208 := aM (Kd.V_elder' (xV HO208.out) (by first | exact Kd.N_base ho74 | exact Kd.S_base ho74 | exact Kd.R_base ho74) hb)
                                replace HO222 := aM (Kd.V_elder' (xV HO222.out) (by first | exact Kd.N_base ho74 | exact Kd.S_base ho74 | exact Kd.R_base ho74) hb)
                                have HO214 := aM (Kd.N_lower ho74 (below_size (xH HB.out)))
                                replace HB := yS0 HB hb
                                clear HO_7
                                clear hb ho74
                                refine hK.out _ _ trivial (fun hHeld => ?_)
                                clear hK K
                                refine norm_ (a' := ?_) ?_ ?_
                                rotate_left
                                · show Act.put _ (some 54) _ = _
                                  simp only [Act.put, sA, sZ, sU, i64_w, i32_w]
                                  rfl
                                refine yO 0 48 (bm 13 1903) HT_ (fun K hK => ?_)
                                refine Kd.N_lit_step (Kd.slice 3 (Kd.int .i64)) _ 22 ?hg (N' := 48) ?hd (xs := ([] : List (List Int))) (inner := []) (ok := (fun k_ => (w.heap.size ≤ k_) ∧ some k_ ≠ (.slice Ao9 x5_1.length co9 : Value).ownBlock ∧ some k_ ≠ (v213 : Value).ownBlock)) (okp := (fun k_ => (w.heap.size ≤ k_) ∧ some k_ ≠ (.slice Ao9 x5_1.length co9 : Value).ownBlock ∧ some k_ ≠ (v213 : Value).ownBlock)) ?hr ?hp (fun _ hk => hk) ((show ∀ k_, w73.heap.size ≤ k_ → (fun k_ => (w.heap.size ≤ k_) ∧ some k_ ≠ (.slice Ao9 x5_1.length co9 : Value).ownBlock ∧ some k_ ≠ (v213 : Value).ownBlock) k_ from fun k_ hk => ⟨(Nat.le_trans (below_size (xH HB.out)) hk), Kd.fresh' (Kd.N_lt (xN HO_5.out)) k_ hk, Kd.fresh' (Kd.N_lt (xN HO214.out)) k_ hk⟩) _ (Nat.le_refl _)) (Below.refl _ _) (Nat.le_refl _) (by simp) ?_; (case hd => rfl); (case hg => rfl); (case hr => first | (go_simp; done) | (go_simp; rfl)); (case hp => exact (Reps.none _ _))
                                intro v202 w75 ho76 hb hg_ hnew_
                                clear hg_ hnew_
                                (first | rw [← Ny201.out] at ho76 | (simp only [Int.reduceToNat] at ho76; rw [← Ny201.out] at ho76))
                                replace HO_5 := aM (Kd.N_elder' (xN HO_5.out) (by first | exact Kd.N_base ho76 | exact Kd.S_base ho76 | exact Kd.R_base ho76) hb)
                                replace HO208 := aM (Kd.V_elder' (xV HO208.out) (by first | exact Kd.N_base ho76 | exact Kd.S_base ho76 | exact Kd.R_base ho76) hb)
                                replace HO222 := aM (Kd.V_elder' (xV HO222.out) (by first | exact Kd.N_base ho76 | exact Kd.S_base ho76 | exact Kd.R_base ho76) hb)
                                replace HO214 := aM (Kd.N_elder' (xN HO214.out) (by first | exact Kd.N_base ho76 | exact Kd.S_base ho76 | exact Kd.R_base ho76) hb)
                                have HO203 := aM (Kd.N_lower ho76 (below_size (xH HB.out)))
                                replace HB := yS0 HB hb
                                clear hb ho76
                                refine hK.out _ _ trivial (fun hHeld => ?_)
                                clear hK K
                                refine norm_ (a' := ?_) ?_ ?_
                                rotate_left
                                · show Act.put _ (some 48) _ = _
                                  simp only [Act.put, sA, sZ, sU, i64_w, i32_w]
                                  rfl
                                refine yO 4 52 (bm 13 1919) HT_ (fun K hK => ?_)
                                refine Kd.N_append_rows_step (Kd.slice 3 (Kd.int .i64)) (w0 := w) w.heap.size (by rfl) (.tmp 48) (.tmp 51) 29 22 (.slice none 0 0) 24 rfl Try.underlying29 info22 rfl (by decide) (by omega) v202 y201 y204 _ _ _ (fun k_ => (w.heap.size ≤ k_) ∧ some k_ ≠ (v213 : Value).ownBlock) (fun k_ => ((fun k_ => (w.heap.size ≤ k_) ∧ some k_ ≠ (v213 : Value).ownBlock)) k_ ∧ some k_ ≠ (v202 : Value).ownBlock) rfl rfl ?aO ?aR (fun _ hk => hk) ?aF ?aB ?aS ?aL ?_
                                (case aR => exact (by skip; exact Kd.V_F (base := w.heap.size) (e := 3) (Kd.V_mono (e := 3) (base := w.heap.size) (ok' := (fun k_ => ((fun k_ => (w.heap.size ≤ k_) ∧ some k_ ≠ (v213 : Value).ownBlock)) k_ ∧ some k_ ≠ (v202 : Value).ownBlock)) (HO208.out) (fun k_ hk => ⟨⟨hk.1.1.1, hk.1.2⟩, hk.2⟩))))
                                (case aB => exact (xH HB.out))
                                (case aF => exact (fun k_ hk => ⟨(Nat.le_trans (below_size (xH HB.out)) hk), Kd.fresh' (Kd.N_lt (xN HO214.out)) k_ hk⟩))
                                (case aO => exact (zN (Kd.N_mono HO203.out (fun _ hk => ⟨hk.1, hk.2.2⟩))))
                                (case aS => exact (below_size (xH HB.out)))
                                (case aL => have := LMc64.out; omega)
                                intro v210 w77 ho hb hg hat
                                rw [← Ny209.out] at ho
                                replace HO_5 := aM (Kd.N_afterv (ok := (fun k_ => (w.heap.size ≤ k_) ∧ some k_ ≠ (v213 : Value).ownBlock)) (zN (Kd.N_mono HO_5.out (fun _ hk => ⟨⟨hk.1.1.1, hk.1.2⟩, hk.2⟩))) hg hat)
                                replace HO208 := aM (Kd.V_afterv (ok := (fun k_ => (w.heap.size ≤ k_) ∧ some k_ ≠ (v213 : Value).ownBlock)) (by (with_reducible repeat (first | apply Kd.V_alloc | apply Kd.V_drewN | apply Kd.V_drew)); exact Kd.V_mono HO208.out (fun _ hk => ⟨⟨hk.1.1.1, hk.1.2⟩, hk.2⟩)) hg hat)
                                replace HO222 := aM (Kd.V_afterv (ok := (fun k_ => (w.heap.size ≤ k_) ∧ some k_ ≠ (v213 : Value).ownBlock)) (by (with_reducible repeat (first | apply Kd.V_alloc | apply Kd.V_drewN | apply Kd.V_drew)); exact Kd.V_mono HO222.out (fun _ hk => ⟨⟨hk.1.1.1, hk.1.2⟩, hk.2⟩)) hg hat)
                                replace HO214 := aM (Kd.N_afterv (ok := (fun k_ => (w.heap.size ≤ k_) ∧ some k_ ≠ (.slice Ao9 x5_1.length co9 : Value).ownBlock)) (xN HO214.out) hg hat)
                                replace HB := aM (hb)
                                have HO211 := aM (ho)
                                clear HO203
                                clear ho hb hg hat
                                refine hK.out _ _ trivial (fun hHeld => ?_)
                                clear hK K
                                refine norm_ (a' := ?_) ?_ ?_
                                rotate_left
                                · show Act.put _ (some 52) _ = _
                                  simp only [Act.put, sA, sZ, sU, i64_w, i32_w]
                                  rfl
                                exact norm_ (by simp only [putAll, Act.put, sA, sZ, sU]) (hCont (v202, v210, v213) _ ⟨(by (with_reducible repeat (first | apply Kd.V_alloc | apply Kd.V_drewN | apply Kd.V_drew)); exact Kd.V_mono HO208.out (fun _ hk => ⟨hk.1.1, ⟨hk.2, hk.1.2⟩⟩)), (xN HO211.out), (zN (Kd.N_mono HO214.out (fun _ hk => ⟨hk.1.1, ⟨hk.2, hk.1.2⟩⟩))), (by (with_reducible repeat (first | apply Kd.V_alloc | apply Kd.V_drewN | apply Kd.V_drew)); exact Kd.V_mono HO222.out (fun _ hk => ⟨hk.1.1, ⟨hk.2, hk.1.2⟩⟩)), (zN (Kd.N_mono HO_5.out (fun _ hk => ⟨hk.1.1, ⟨hk.2, hk.1.2⟩⟩))), (xH HB.out)⟩)
                            rintro ⟨v202, v210, v213⟩ w78 ⟨h0_, h1_, h2_, h3_, h4_, h5_⟩
                            have n0_ : Aside0 (Kd.V (Kd.slice 3 (Kd.int .i64)) 22 w78 w.heap.size (fun k_ => (w.heap.size ≤ k_) ∧ some k_ ≠ (v210 : Value).ownBlock ∧ some k_ ≠ (v213 : Value).ownBlock) (.slice Ao9 y204.length co9) y204) := ⟨h0_⟩
                            have n1_ : Aside0 (Kd.N (Kd.slice 3 (Kd.int .i64)) 22 w78 w.heap.size (fun k_ => (w.heap.size ≤ k_) ∧ some k_ ≠ (v213 : Value).ownBlock) v210 y209) := ⟨h1_⟩
                            have n2_ : Aside0 (Kd.N (Kd.slice 3 (Kd.int .i64)) 22 w78 w.heap.size (fun k_ => (w.heap.size ≤ k_) ∧ some k_ ≠ (v210 : Value).ownBlock ∧ some k_ ≠ (.slice Ao9 x5_1.length co9 : Value).ownBlock) v213 y212) := ⟨h2_⟩
                            have n3_ : Aside0 (Kd.V (Kd.slice 3 (Kd.int .i64)) 22 w78 w.heap.size (fun k_ => (w.heap.size ≤ k_) ∧ some k_ ≠ (v210 : Value).ownBlock ∧ some k_ ≠ (v213 : Value).ownBlock) (.slice A71 y218.length c71) y218) := ⟨h3_⟩
                            have n4_ : Aside0 (Kd.N (Kd.slice 3 (Kd.int .i64)) 22 w78 w.heap.size (fun k_ => (w.heap.size ≤ k_) ∧ some k_ ≠ (v210 : Value).ownBlock ∧ some k_ ≠ (v213 : Value).ownBlock) (.slice Ao9 x5_1.length co9) x5_1) := ⟨h4_⟩
                            have n5_ : Aside0 (Below w.heap.size w w78) := ⟨h5_⟩
                            clear HO_5
                            clear HO_7
                            clear HB
                            clear h0_ h1_ h2_ h3_ h4_ h5_
                            have HO208 := n0_
                            have HO211 := n1_
                            have HO214 := n2_
                            have HO222 := n3_
                            have HO_5 := n4_
                            have HB := n5_
                            clear n0_ n1_ n2_ n3_ n4_ n5_
                            have hHeld := trivial
                            obtain ⟨Ao80, co80, eo80⟩ := Kd.N_slice HO214.out
                            (first | subst eo80 | (injection eo80 with f1_ f2_ f3_; have f4_ := f1_.symm; have f5_ := f3_.symm; clear f1_ f2_ f3_; subst f4_; subst f5_))
                            refine norm_ (a' := ?_) ?_ ?_
                            rotate_left
                            · simp only [putAll, Act.put, sA, sZ, sU]
                              rfl
                            refine yO 7 55 (bm 13 2047) HT_ (fun K hK => ?_)
                            refine Kd.N_append_rows_step (Kd.slice 3 (Kd.int .i64)) (w0 := w) w.heap.size (by rfl) (.tmp 52) (.tmp 54) 29 22 (.slice none 0 0) 24 rfl Try.underlying29 info22 rfl (by decide) (by omega) v210 y209 y212 _ _ _ (fun k_ => (w.heap.size ≤ k_)) (fun k_ => ((fun k_ => (w.heap.size ≤ k_))) k_ ∧ some k_ ≠ (v210 : Value).ownBlock) rfl rfl ?aO ?aR (fun _ hk => hk) ?aF ?aB ?aS ?aL ?_
                            (case aR => exact (by skip; exact Kd.N_F (Kd.N_mono (ok' := (fun k_ => ((fun k_ => (w.heap.size ≤ k_))) k_ ∧ some k_ ≠ (v210 : Value).ownBlock)) (HO214.out) (fun k_ hk => ⟨hk.1, hk.2.1⟩))))
                            (case aB => exact (xH HB.out))
                            (case aF => exact (fun k_ hk => (Nat.le_trans (below_size (xH HB.out)) hk)))
                            (case aO => exact (zN (Kd.N_mono HO211.out (fun _ hk => hk.1))))
                            (case aS => exact (below_size (xH HB.out)))
                            (case aL => have := LMc65.out; omega)
                            intro v216 w79 ho hb hg hat
                            rw [← Ny215.out] at ho
                            replace HO_5 := aM (Kd.N_afterv (ok := (fun k_ => (w.heap.size ≤ k_) ∧ some k_ ≠ (.slice Ao80 y212.length co80 : Value).ownBlock)) (zN (Kd.N_mono HO_5.out (fun _ hk => ⟨⟨hk.1, hk.2.2⟩, hk.2.1⟩))) hg hat)
                            replace HO208 := aM (Kd.V_afterv (ok := (fun k_ => (w.heap.size ≤ k_) ∧ some k_ ≠ (.slice Ao80 y212.length co80 : Value).ownBlock)) (by (with_reducible repeat (first | apply Kd.V_alloc | apply Kd.V_drewN | apply Kd.V_drew)); exact Kd.V_mono HO208.out (fun _ hk => ⟨⟨hk.1, hk.2.2⟩, hk.2.1⟩)) hg hat)
                            replace HO222 := aM (Kd.V_afterv (ok := (fun k_ => (w.heap.size ≤ k_) ∧ some k_ ≠ (.slice Ao80 y212.length co80 : Value).ownBlock)) (by (with_reducible repeat (first | apply Kd.V_alloc | apply Kd.V_drewN | apply Kd.V_drew)); exact Kd.V_mono HO222.out (fun _ hk => ⟨⟨hk.1, hk.2.2⟩, hk.2.1⟩)) hg hat)
                            replace HO214 := aM (Kd.N_afterv (ok := (fun k_ => (w.heap.size ≤ k_) ∧ some k_ ≠ (.slice Ao9 x5_1.length co9 : Value).ownBlock)) (zN (Kd.N_mono HO214.out (fun _ hk => ⟨⟨hk.1, hk.2.2⟩, hk.2.1⟩))) hg hat)
                            replace HB := aM (hb)
                            have HO217 := aM (ho)
                            clear HO211
                            clear ho hb hg hat
                            refine hK.out _ _ trivial (fun hHeld => ?_)
                            clear hK K
                            refine norm_ (a' := ?_) ?_ ?_
                            rotate_left
                            · show Act.put _ (some 55) _ = _
                              simp only [Act.put, sA, sZ, sU, i64_w, i32_w]
                              rfl
                            refine yO 11 59 (bm 13 4095) HT_ (fun K hK => ?_)
                            refine Kd.N_append_rows_step (Kd.slice 3 (Kd.int .i64)) (w0 := w) w.heap.size (by rfl) (.tmp 55) (.tmp 58) 29 22 (.slice none 0 0) 24 rfl Try.underlying29 info22 rfl (by decide) (by omega) v216 y215 y218 _ _ _ (fun k_ => (w.heap.size ≤ k_)) (fun k_ => ((fun k_ => (w.heap.size ≤ k_))) k_ ∧ some k_ ≠ (v216 : Value).ownBlock) rfl rfl ?aO ?aR (fun _ hk => hk) ?aF ?aB ?aS ?aL ?_
                            (case aR => exact (by skip; exact Kd.V_F (base := w.heap.size) (e := 3) (Kd.V_mono (e := 3) (base := w.heap.size) (ok' := (fun k_ => ((fun k_ => (w.heap.size ≤ k_))) k_ ∧ some k_ ≠ (v216 : Value).ownBlock)) (HO222.out) (fun k_ hk => ⟨hk.1.1, hk.2⟩))))
                            (case aB => exact (xH HB.out))
                            (case aF => exact (fun k_ hk => (Nat.le_trans (below_size (xH HB.out)) hk)))
                            (case aO => exact (xN HO217.out))
                            (case aS => exact (below_size (xH HB.out)))
                            (case aL => have := LMc68.out; omega)
                            intro v224 w81 ho hb hg hat
                            rw [← Ny223.out] at ho
                            replace HO_5 := aM (Kd.N_afterv (ok := (fun k_ => (w.heap.size ≤ k_) ∧ some k_ ≠ (.slice Ao80 y212.length co80 : Value).ownBlock)) (xN HO_5.out) hg hat)
                            replace HO208 := aM (Kd.V_afterv (ok := (fun k_ => (w.heap.size ≤ k_) ∧ some k_ ≠ (.slice Ao80 y212.length co80 : Value).ownBlock)) (xV HO208.out) hg hat)
                            replace HO222 := aM (Kd.V_afterv (ok := (fun k_ => (w.heap.size ≤ k_) ∧ some k_ ≠ (.slice Ao80 y212.length co80 : Value).ownBlock)) (xV HO222.out) hg hat)
                            replace HO214 := aM (Kd.N_afterv (ok := (fun k_ => (w.heap.size ≤ k_) ∧ some k_ ≠ (.slice Ao9 x5_1.length co9 : Value).ownBlock)) (xN HO214.out) hg hat)
                            replace HB := aM (hb)
                            have HO225 := aM (ho)
                            clear HO217
                            clear ho hb hg hat
                            refine hK.out _ _ trivial (fun hHeld => ?_)
                            clear hK K
                            refine norm_ (a' := ?_) ?_ ?_
                            rotate_left
                            · show Act.put _ (some 59) _ = _
                              simp only [Act.put, sA, sZ, sU, i64_w, i32_w]
                              rfl
                            refine yP 12 5 (bm 13 8191) HT_ ?_
                            refine done_ (done_of HT_.out (by kernel_rfl)) ?_
                            try go_wp2
                            go_roundg k2
                            case measure => have := HK1.out; have := HK2.out; omega
                            case rel => exact ⟨(y223), (wrap64 (x6_1 + 1)), yZ, H', ⟨by have := HK1.out; have := HK2.out; omega⟩, ⟨xN HO225.out⟩, ⟨xH HB.out⟩⟩
                          · rw [if_neg c68] at H
                            exact absurd H (by simp)
                        · rw [if_neg c65] at H
                          exact absurd H (by simp)
                      · rw [if_neg c64] at H
                        exact absurd H (by simp)
                    · rw [if_neg c63] at H
                      exact absurd H (by simp)
                  · rw [if_neg c62] at H
                    exact absurd H (by simp)
                · rw [if_neg c61] at H
                  have c61b0 : (x8_2 == 0) = false := beq_eq_false_iff_ne.mpr c61
                  have c61b1 : (x8_2 != 0) = true := bne_iff_ne.mpr c61
                  obtain ⟨ji82, hji82⟩ := yJ ((wrap64 (x8_2 - 1)))
                  (first | rw [hji82] at H | simp only [hji82] at H)
                  have hji82w : (IntKind.i64.wrap (x8_2 - 1)) = ji82 := (i64_w _).trans hji82
                  by_cases c83 : 0 ≤ (ji82)
                  · rw [if_pos c83] at H
                    have c83b0 := decide_eq_true c83
                    clear c83
                    by_cases c84 : (ji82) < (x5_1.length : Int)
                    · rw [if_pos c84] at H
                      have c84b0 := decide_eq_true c84
                      clear c84
                      replace H := oB.mp H
                      obtain ⟨t227, A850, H⟩ := H
                      have A85 := aM A850
                      clear A850
                      by_cases c86 : t227 = true
                      · subst c86
                        rw [if_pos rfl] at H
                        obtain ⟨y228, hy228⟩ := yE (([] : List (List Int)) : List (List Int))
                        replace H : (if 0 ≤ x8_2 then (if x8_2 ≤ (x5_1.length : Int) then ((some (x5_1.take (x8_2 : Int).toNat : List (List Int))).bind fun y231 => (if y228.length + y231.length < 5864062014805 then ((some (y228 ++ y231 : List (List Int))).bind fun y236 => ((some (([t144] : List (List Int)) : List (List Int))).bind fun y239 => (if y236.length + y239.length < 5864062014805 then ((some (y236 ++ y239 : List (List Int))).bind fun y242 => ((some (x5_1.drop (x8_2 : Int).toNat : List (List Int))).bind fun y245 => (if y242.length + y245.length < 5864062014805 then (spec_l7Traces.l0 k2 l0 l1 (y242 ++ y245) (wrap64 (x6_1 + 1))) else (none)))) else (none)))) else (none))) else (none)) else (none)) = some r := yI hy228 H
                        have Ny228 := aM hy228
                        clear hy228
                        by_cases c87 : 0 ≤ x8_2
                        · rw [if_pos c87] at H
                          have c87b0 := eq_true c87
                          have c87b1 : decide (0 ≤ x8_2) = true := decide_eq_true c87
                          clear c87
                          by_cases c88 : x8_2 ≤ (x5_1.length : Int)
                          · rw [if_pos c88] at H
                            have c88b0 := eq_true c88
                            have c88b1 : decide (x8_2 ≤ (x5_1.length : Int)) = true := decide_eq_true c88
                            clear c88
                            obtain ⟨y231, hy231⟩ := yE (x5_1.take (x8_2 : Int).toNat : List (List Int))
                            replace H : (if y228.length + y231.length < 5864062014805 then ((some (y228 ++ y231 : List (List Int))).bind fun y236 => ((some (([t144] : List (List Int)) : List (List Int))).bind fun y239 => (if y236.length + y239.length < 5864062014805 then ((some (y236 ++ y239 : List (List Int))).bind fun y242 => ((some (x5_1.drop (x8_2 : Int).toNat : List (List Int))).bind fun y245 => (if y242.length + y245.length < 5864062014805 then (spec_l7Traces.l0 k2 l0 l1 (y242 ++ y245) (wrap64 (x6_1 + 1))) else (none)))) else (none)))) else (none)) = some r := yI hy231 H
                            have Ny231 := aM hy231
                            clear hy231
                            by_cases c89 : y228.length + y231.length < 5864062014805
                            · rw [if_pos c89] at H
                              have LMc89 := aM c89
                              clear c89
                              obtain ⟨y236, hy236⟩ := yE (y228 ++ y231 : List (List Int))
                              replace H : ((some (([t144] : List (List Int)) : List (List Int))).bind fun y239 => (if y236.length + y239.length < 5864062014805 then ((some (y236 ++ y239 : List (List Int))).bind fun y242 => ((some (x5_1.drop (x8_2 : Int).toNat : List (List Int))).bind fun y245 => (if y242.length + y245.length < 5864062014805 then (spec_l7Traces.l0 k2 l0 l1 (y242 ++ y245) (wrap64 (x6_1 + 1))) else (none)))) else (none))) = some r := yI hy236 H
                              have Ny236 := aM hy236
                              clear hy236
                              obtain ⟨y239, hy239⟩ := yE (([t144] : List (List Int)) : List (List Int))
                              replace H : (if y236.length + y239.length < 5864062014805 then ((some (y236 ++ y239 : List (List Int))).bind fun y242 => ((some (x5_1.drop (x8_2 : Int).toNat : List (List Int))).bind fun y245 => (if y242.length + y245.length < 5864062014805 then (spec_l7Traces.l0 k2 l0 l1 (y242 ++ y245) (wrap64 (x6_1 + 1))) else (none)))) else (none)) = some r := yI hy239 H
                              have Ny239 := aM hy239
                              clear hy239
                              by_cases c90 : y236.length + y239.length < 5864062014805
                              · rw [if_pos c90] at H
                                have LMc90 := aM c90
                                clear c90
                                obtain ⟨y242, hy242⟩ := yE (y236 ++ y239 : List (List Int))
                                replace H : ((some (x5_1.drop (x8_2 : Int).toNat : List (List Int))).bind fun y245 => (if y242.length + y245.length < 5864062014805 then (spec_l7Traces.l0 k2 l0 l1 (y242 ++ y245) (wrap64 (x6_1 + 1))) else (none))) = some r := yI hy242 H
                                have Ny242 := aM hy242
                                clear hy242
                                have c91b0 := eq_true (yA : 0 ≤ x8_2)
                                have c92b0 := eq_true (yA : x8_2 ≤ (x5_1.length : Int))
                                obtain ⟨y245, hy245⟩ := yE (x5_1.drop (x8_2 : Int).toNat : List (List Int))
                                replace H : (if y242.length + y245.length < 5864062014805 then (spec_l7Traces.l0 k2 l0 l1 (y242 ++ y245) (wrap64 (x6_1 + 1))) else (none)) = some r := yI hy245 H
                                have Ny245 := aM hy245
                                clear hy245
                                by_cases c93 : y242.length + y245.length < 5864062014805
                                · rw [if_pos c93] at H
                                  have LMc93 := aM c93
                                  clear c93
                                  obtain ⟨y250, hy250⟩ := yE (y242 ++ y245 : List (List Int))
                                  replace H : (spec_l7Traces.l0 k2 l0 l1 y250 (wrap64 (x6_1 + 1))) = some r := yI hy250 H
                                  have Ny250 := aM hy250
                                  clear hy250
                                  have H' := aM H
                                  clear H
                                  have p226 : 0 ≤ ((ji82) : Int) := yA
                                  have q226 : (ji82) < (x5_1.length : Int) := yA
                                  obtain ⟨ad226, A226_0, c226_0, e226, hx226_0, hl226_0, hi226_0⟩ := at_L1 (Kd.N_reads' HO_5.out).2.2 (ji82) p226 q226
                                  cases e226
                                  obtain ⟨ce226, hce226, hMe226, hcc226⟩ := Kd.N_get HO_5.out [] (ji82) p226 (by first | exact q226 | exact yA | (have e_ := (Kd.N_reads' HO_5.out).1; omega))
                                  obtain ⟨ua226_0, uc226_0, rfl, ul226_0, ge226_0⟩ := Kd.FK_slice_open hMe226
                                  have hv226_0 := hcc226 0 _ rfl
                                  rw [Nat.add_zero, show ((Kd.slice 3 (Kd.int .i64))).sz = 1 from rfl, Nat.mul_one] at hv226_0
                                  replace hv226_0 := Option.some.inj (hv226_0.symm.trans hx226_0)
                                  injection hv226_0 with hva_ hvn_ hvc_
                                  rw [hva_] at ge226_0
                                  rw [hvc_] at ul226_0
                                  have HL226_0 := aM (show Kd.V (Kd.int .i64) 3 _ w.heap.size _ _ (rd_L1 x5_1 (ji82)) from Kd.V_mk ul226_0 ge226_0)
                                  clear hva_ hvn_ hvc_ ge226_0 ul226_0
                                  clear hcc226 hce226
                                  have HR226_0 := aM hi226_0
                                  have HC226_0 := aM hl226_0
                                  clear hi226_0 hl226_0
                                  replace p226 := eq_true p226
                                  replace q226 := eq_true q226
                                  obtain ⟨Ao94, co94, eo94⟩ := Kd.R_slice HO_7.out
                                  subst eo94
                                  try go_wp2_with (first | (go_at_call 104; (with_reducible refine (spec_l7Before.calls k2 _ _ (rd_L1 x5_1 (ji82)) _ _ t144 true _ ?side1 HC226_0.out (xC (Kd.R_reads' HO_7.out).2.2) ((Kd.R_reads' HO_7.out).2.1) A85.out).mono ?_); (case side1 => repeat (first | exact (by repeat (first | (with_reducible exact HR226_0.out) | (with_reducible refine Kd.C_alloc ?_ _) | (with_reducible refine Kd.C_drewN ?_ _) | (with_reducible refine Kd.C_drew ?_) | exact HR226_0.out)) | (with_reducible refine Kd.C_alloc ?_ _) | (with_reducible refine Kd.C_drewN ?_ _) | (with_reducible refine Kd.C_drew ?_))); rintro e w' ⟨rfl, ⟨nd, rfl⟩⟩))
                                  (try (rw [drewN_self wr]; generalize hq_ : World.drewN wr _ = wr; have n0_ : Aside0 (Kd.V (Kd.int .i64) 3 wr w.heap.size (fun k_ => ((((w.heap.size ≤ k_)) ∧ some k_ ≠ (.slice Ao94 t144.length co94 : Value).ownBlock) ∧ some k_ ≠ (.slice (some ad226) x5_1.length co9 : Value).ownBlock)) (.slice A226_0 (rd_L1 x5_1 (ji82)).length c226_0) (rd_L1 x5_1 (ji82))) := ⟨by rw [← hq_]; exact (xV HL226_0.out)⟩; have n1_ : Aside0 (Kd.N (Kd.slice 3 (Kd.int .i64)) 22 wr w.heap.size (fun k_ => (((w.heap.size ≤ k_)) ∧ some k_ ≠ (.slice Ao94 t144.length co94 : Value).ownBlock)) (.slice (some ad226) x5_1.length co9) x5_1) := ⟨by rw [← hq_]; exact (xN HO_5.out)⟩; have n2_ : Aside0 (Kd.R (Kd.int .i64) 3 wr w.heap.size (fun k_ => ((w.heap.size ≤ k_))) (.slice Ao94 t144.length co94) t144) := ⟨by rw [← hq_]; exact (xR HO_7.out)⟩; have n3_ : Aside0 (Below w.heap.size w wr) := ⟨by rw [← hq_]; exact (xH HB.out)⟩; have n4_ : Aside0 (Kd.C (Kd.int .i64) wr A226_0 (rd_L1 x5_1 (ji82)).length (rd_L1 x5_1 (ji82))) := ⟨by rw [← hq_]; exact (by repeat (first | (with_reducible exact HR226_0.out) | (with_reducible refine Kd.C_alloc ?_ _) | (with_reducible refine Kd.C_drewN ?_ _) | (with_reducible refine Kd.C_drew ?_) | exact HR226_0.out))⟩; clear HL226_0 HO_5 HO_7 HB HR226_0 hq_; have HL226_0 := n0_; have HO_5 := n1_; have HO_7 := n2_; have HB := n3_; have HR226_0 := n4_; clear n0_ n1_ n2_ n3_ n4_))
                                  replace HO_5 := aM (Kd.N_drew HO_5.out)
                                  replace HO_7 := aM (rD HO_7.out)
                                  replace HL226_0 := aM (Kd.V_drew HL226_0.out)
                                  replace HR226_0 := aM (Kd.C_drew HR226_0.out)
                                  replace HB := aM (eD HB.out)
                                  have q96 : (x8_2 : Int) ≤ ((x5_1.length : Int) : Int) := yA
                                  obtain ⟨i096, hi096, _, hsz96, _⟩ := info_parts info22
                                  have hroom96 : x5_1.length ≤ co9 := (Kd.N_reads' HO_5.out).2.1
                                  have hC96 : Kd.F (Kd.slice 3 (Kd.int .i64)) _ _ (some ad226) x5_1.length x5_1 := (Kd.V_at (base := w.heap.size) (Kd.N_V HO_5.out)).2.2
                                  have hcut96 := cut_to (P := Try.prog) 29 22 .i64 Try.underlying29 hi096 (some ad226) x5_1.length co9 x8_2 (yA) q96 hroom96
                                  have hr96 := Kd.F_take (m := (x8_2 : Int).toNat) hC96 (by omega)
                                  have hy96 : y231.length = (x8_2 : Int).toNat := (by rw [Ny231.out, List.length_take]; omega)
                                  rw [← Ny231.out] at hr96
                                  rw [← hy96] at hcut96
                                  have HO235 := aM (show Kd.V (Kd.slice 3 (Kd.int .i64)) 22 _ w.heap.size _ (.slice (some ad226) y231.length co9) y231 from Kd.V_mk (by omega) hr96)
                                  have HC235 := aM (show y231.length ≤ co9 from by omega)
                                  clear hr96 hC96 hroom96 hi096 hsz96
                                  have KY96 := aM hy96
                                  clear hy96
                                  replace q96 := eq_true q96
                                  have q97 : (x8_2 : Int) ≤ ((x5_1.length : Int) : Int) := yA
                                  obtain ⟨i097, hi097, _, hsz97, _⟩ := info_parts info22
                                  have hroom97 : x5_1.length ≤ co9 := (Kd.N_reads' HO_5.out).2.1
                                  have hC97 : Kd.F (Kd.slice 3 (Kd.int .i64)) _ _ (some ad226) x5_1.length x5_1 := (Kd.V_at (base := w.heap.size) (Kd.N_V HO_5.out)).2.2
                                  have q097 : (0 : Int) ≤ (x8_2 : Int) := yA
                                  have hcut97 := cut_from (P := Try.prog) 29 22 .i64 Try.underlying29 hi097 1 hsz97 (some ad226) x5_1.length co9 x8_2 q097 q97
                                  have hr97 := Kd.F_cut (m := (x8_2 : Int).toNat) (c := co9) hC97 (by omega) hroom97
                                  obtain ⟨A97, hA97⟩ : ∃ A1, A1 = (if co9 = (x8_2 : Int).toNat then (some ad226) else ((some ad226) : Option Addr).map (·.add ((x8_2 : Int).toNat * 1))) := ⟨_, rfl⟩
                                  obtain ⟨c97, hc97⟩ : ∃ c1, c1 = co9 - (x8_2 : Int).toNat := ⟨_, rfl⟩
                                  have hy97 : y245.length = x5_1.length - (x8_2 : Int).toNat := (by rw [Ny245.out, List.length_drop] <;> omega)
                                  rw [show (x5_1).drop (x8_2 : Int).toNat = y245 from Ny245.out.symm] at hr97
                                  replace hr97 : Kd.F (Kd.slice 3 (Kd.int .i64)) _ _ A97 y245.length y245 := (by rw [hA97]; exact hr97)
                                  rw [← hy97, ← hA97, ← hc97] at hcut97
                                  have HO249 := aM (show Kd.V (Kd.slice 3 (Kd.int .i64)) 22 _ w.heap.size _ (.slice A97 y245.length c97) y245 from Kd.V_mk (by rw [hy97, hc97]; exact Nat.sub_le_sub_right hroom97 _) hr97)
                                  have HC249 := aM (show y245.length ≤ c97 from by rw [hy97, hc97]; exact Nat.sub_le_sub_right hroom97 _)
                                  clear hr97 hC97 hroom97 hi097 hsz97 hc97
                                  have KY97 := aM hy97
                                  have KA97 := aM hA97
                                  clear hy97 hA97
                                  replace q97 := eq_true q97
                                  refine start_ (n := 13) (S := fun w' => True) (ds := []) (bm 13 0) (by kernel_rfl) rfl rfl trivial (fun hHeld => ?_); refine with_tabW spec_l7Traces.tab10 spec_l7Traces.bits10 (fun HT_ HW_ => ?_)
                                  generalize wr.drew = w95 at HO_5 HO_7 HL226_0 HR226_0 HB HO235 HO249 hHeld ⊢
                                  refine yP 1 49 (bm 13 2) HT_ ?_
                                  refine yP 2 50 (bm 13 6) HT_ ?_
                                  refine yP 3 51 (bm 13 14) HT_ ?_
                                  refine yP 5 53 (bm 13 46) HT_ ?_
                                  refine yP 8 56 (bm 13 302) HT_ ?_
                                  refine yP 9 57 (bm 13 814) HT_ ?_
                                  refine yP 10 58 (bm 13 1838) HT_ ?_
                                  refine join_ (σ := Value × Value × Value) 3 (bm 13 1919) (fun s_ => [(48, s_.1), (52, s_.2.1), (54, s_.2.2)]) (fun s_ w' => (Kd.V (Kd.int .i64) 3 w' w.heap.size (fun k_ => (w.heap.size ≤ k_) ∧ some k_ ≠ (s_.2.1 : Value).ownBlock ∧ some k_ ≠ (s_.2.2 : Value).ownBlock ∧ some k_ ≠ (.slice (some ad226) x5_1.length co9 : Value).ownBlock) (.slice A226_0 (rd_L1 x5_1 (ji82)).length c226_0) (rd_L1 x5_1 (ji82))) ∧ (Kd.V (Kd.slice 3 (Kd.int .i64)) 22 w' w.heap.size (fun k_ => (w.heap.size ≤ k_) ∧ some k_ ≠ (s_.2.1 : Value).ownBlock ∧ some k_ ≠ (s_.2.2 : Value).ownBlock) (.slice (some ad226) y231.length co9) y231) ∧ (Kd.N (Kd.slice 3 (Kd.int .i64)) 22 w' w.heap.size (fun k_ => (w.heap.size ≤ k_) ∧ some k_ ≠ (s_.2.2 : Value).ownBlock) s_.2.1 y236) ∧ (Kd.N (Kd.slice 3 (Kd.int .i64)) 22 w' w.heap.size (fun k_ => (w.heap.size ≤ k_) ∧ some k_ ≠ (s_.2.1 : Value).ownBlock ∧ some k_ ≠ (.slice (some ad226) x5_1.length co9 : Value).ownBlock) s_.2.2 y239) ∧ (Kd.V (Kd.slice 3 (Kd.int .i64)) 22 w' w.heap.size (fun k_ => (w.heap.size ≤ k_) ∧ some k_ ≠ (s_.2.1 : Value).ownBlock ∧ some k_ ≠ (s_.2.2 : Value).ownBlock) (.slice A97 y245.length c97) y245) ∧ (Kd.N (Kd.slice 3 (Kd.int .i64)) 22 w' w.heap.size (fun k_ => (w.heap.size ≤ k_) ∧ some k_ ≠ (s_.2.1 : Value).ownBlock ∧ some k_ ≠ (s_.2.2 : Value).ownBlock) (.slice (some ad226) x5_1.length co9) x5_1) ∧ (Below w.heap.size w w')) ?_ ?_
                                  rotate_left
                                  · intro hCont
                                    refine two_ (i := 0) (j := 6) (Ni := some 48) (Nj := some 54) (bm 13 1839) (bm 13 1902) rfl rfl rfl rfl (two_of HT_.out (by kernel_rfl)) (by decide) (by decide) (fun K hK => ?_) (fun K hK => ?_)
                                    · skip
                                      refine Kd.N_lit_step (Kd.slice 3 (Kd.int .i64)) _ 22 ?hg (N' := 48) ?hd (xs := ([] : List (List Int))) (inner := []) (ok := (fun k_ => (w.heap.size ≤ k_) ∧ some k_ ≠ (.slice (some ad226) x5_1.length co9 : Value).ownBlock ∧ some k_ ≠ (.slice Ao94 t144.length co94 : Value).ownBlock)) (okp := (fun k_ => (w.heap.size ≤ k_) ∧ some k_ ≠ (.slice (some ad226) x5_1.length co9 : Value).ownBlock ∧ some k_ ≠ (.slice Ao94 t144.length co94 : Value).ownBlock)) ?hr ?hp (fun _ hk => hk) ((show ∀ k_, w95.heap.size ≤ k_ → (fun k_ => (w.heap.size ≤ k_) ∧ some k_ ≠ (.slice (some ad226) x5_1.length co9 : Value).ownBlock ∧ some k_ ≠ (.slice Ao94 t144.length co94 : Value).ownBlock) k_ from fun k_ hk => ⟨(Nat.le_trans (below_size (xH HB.out)) hk), Kd.fresh' (Kd.N_lt (xN HO_5.out)) k_ hk, Kd.fresh' (Kd.R_lt (xR HO_7.out)) k_ hk⟩) _ (Nat.le_refl _)) (Below.refl _ _) (Nat.le_refl _) (by simp) ?_; (case hd => rfl); (case hg => rfl); (case hr => first | (go_simp; done) | (go_simp; rfl)); (case hp => exact (Reps.none _ _))
                                      intro v229 w98 ho99 hb hg_ hnew_
                                      clear hg_ hnew_
                                      (first | rw [← Ny228.out] at ho99 | (simp only [Int.reduceToNat] at ho99; rw [← Ny228.out] at ho99))
                                      replace HO_5 := aM (Kd.N_elder' (xN HO_5.out) (by first | exact Kd.N_base ho99 | exact Kd.S_base ho99 | exact Kd.R_base ho99) hb)
                                      replace HO_7 := aM (Kd.R_below (xR HO_7.out) hb)
                                      replace HL226_0 := aM (Kd.V_elder' (xV HL226_0.out) (by first | exact Kd.N_base ho99 | exact Kd.S_base ho99 | exact Kd.R_base ho99) hb)
                                      replace HO235 := aM (Kd.V_elder' (xV HO235.out) (by first | exact Kd.N_base ho99 | exact Kd.S_base ho99 | exact Kd.R_base ho99) hb)
                                      replace HO249 := aM (Kd.V_elder' (xV HO249.out) (by first | exact Kd.N_base ho99 | exact Kd.S_base ho99 | exact Kd.R_base ho99) hb)
                                      have HO230 := aM (Kd.N_lower ho99 (below_size (xH HB.out)))
                                      replace HR226_0 := aM (Kd.C_below (by repeat (first | (with_reducible exact HR226_0.out) | (with_reducible refine Kd.C_alloc ?_ _) | (with_reducible refine Kd.C_drewN ?_ _) | (with_reducible refine Kd.C_drew ?_) | exact HR226_0.out)) hb)
                                      replace HB := yS0 HB hb
                                      clear hb ho99
                                      refine hK.out _ _ trivial (fun hHeld => ?_)
                                      clear hK K
                                      refine norm_ (a' := ?_) ?_ ?_
                                      rotate_left
                                      · show Act.put _ (some 48) _ = _
                                        simp only [Act.put, sA, sZ, sU, i64_w, i32_w]
                                        rfl
                                      refine two_ (i := 4) (j := 6) (Ni := some 52) (Nj := some 54) (bm 13 1855) (bm 13 1903) rfl rfl rfl rfl (two_of HT_.out (by kernel_rfl)) (by decide) (by decide) (fun K hK => ?_) (fun K hK => ?_)
                                      · skip
                                        refine Kd.N_append_rows_step (Kd.slice 3 (Kd.int .i64)) (w0 := w) w.heap.size (by rfl) (.tmp 48) (.tmp 51) 29 22 (.slice none 0 0) 24 rfl Try.underlying29 info22 rfl (by decide) (by omega) v229 y228 y231 _ _ _ (fun k_ => (w.heap.size ≤ k_) ∧ some k_ ≠ (.slice Ao94 t144.length co94 : Value).ownBlock) (fun k_ => ((fun k_ => (w.heap.size ≤ k_) ∧ some k_ ≠ (.slice Ao94 t144.length co94 : Value).ownBlock)) k_ ∧ some k_ ≠ (v229 : Value).ownBlock) rfl rfl ?aO ?aR (fun _ hk => hk) ?aF ?aB ?aS ?aL ?_
                                        (case aR => exact (by skip; exact Kd.V_F (base := w.heap.size) (e := 3) (Kd.V_mono (e := 3) (base := w.heap.size) (ok' := (fun k_ => ((fun k_ => (w.heap.size ≤ k_) ∧ some k_ ≠ (.slice Ao94 t144.length co94 : Value).ownBlock)) k_ ∧ some k_ ≠ (v229 : Value).ownBlock)) (HO235.out) (fun k_ hk => ⟨⟨hk.1.1, hk.1.2⟩, hk.2⟩))))
                                        (case aB => exact (xH HB.out))
                                        (case aF => exact (fun k_ hk => ⟨(Nat.le_trans (below_size (xH HB.out)) hk), Kd.fresh' (Kd.R_lt (xR HO_7.out)) k_ hk⟩))
                                        (case aO => exact (zN (Kd.N_mono HO230.out (fun _ hk => ⟨hk.1, hk.2.2⟩))))
                                        (case aS => exact (below_size (xH HB.out)))
                                        (case aL => have := LMc89.out; omega)
                                        intro v237 w100 ho hb hg hat
                                        rw [← Ny236.out] at ho
                                        replace HO_5 := aM (Kd.N_afterv (ok := (fun k_ => (w.heap.size ≤ k_) ∧ some k_ ≠ (.slice Ao94 t144.length co94 : Value).ownBlock)) (xN HO_5.out) hg hat)
                                        replace HO_7 := aM (Kd.R_over' (xR HO_7.out) (Kd.N_typed (xN HO230.out)) (by decide) hg)
                                        replace HL226_0 := aM (Kd.V_afterv (ok := (fun k_ => (w.heap.size ≤ k_) ∧ some k_ ≠ (.slice (some ad226) x5_1.length co9 : Value).ownBlock ∧ some k_ ≠ (.slice Ao94 t144.length co94 : Value).ownBlock)) (by (with_reducible repeat (first | apply Kd.V_alloc | apply Kd.V_drewN | apply Kd.V_drew)); exact Kd.V_mono HL226_0.out (fun _ hk => ⟨⟨hk.1.1.1, ⟨hk.1.2, hk.1.1.2⟩⟩, hk.2⟩)) hg hat)
                                        replace HO235 := aM (Kd.V_afterv (ok := (fun k_ => (w.heap.size ≤ k_) ∧ some k_ ≠ (.slice Ao94 t144.length co94 : Value).ownBlock)) (xV HO235.out) hg hat)
                                        replace HO249 := aM (Kd.V_afterv (ok := (fun k_ => (w.heap.size ≤ k_) ∧ some k_ ≠ (.slice Ao94 t144.length co94 : Value).ownBlock)) (xV HO249.out) hg hat)
                                        replace HB := aM (hb)
                                        have HO238 := aM (ho)
                                        clear HO230
                                        clear ho hb hg hat
                                        refine hK.out _ _ trivial (fun hHeld => ?_)
                                        clear hK K
                                        refine norm_ (a' := ?_) ?_ ?_
                                        rotate_left
                                        · show Act.put _ (some 52) _ = _
                                          simp only [Act.put, sA, sZ, sU, i64_w, i32_w]
                                          rfl
                                        refine yO 6 54 (bm 13 1919) HT_ (fun K hK => ?_)
                                        refine Kd.N_lit_step (Kd.slice 3 (Kd.int .i64)) _ 22 ?hg (N' := 54) ?hd (xs := ([t144] : List (List Int))) (inner := [.slice Ao94 t144.length co94]) (ok := (fun k_ => (w.heap.size ≤ k_) ∧ some k_ ≠ (.slice (some ad226) x5_1.length co9 : Value).ownBlock ∧ some k_ ≠ (v237 : Value).ownBlock)) (okp := (fun k_ => (w.heap.size ≤ k_) ∧ some k_ ≠ (.slice (some ad226) x5_1.length co9 : Value).ownBlock ∧ some k_ ≠ (v237 : Value).ownBlock)) ?hr ?hp (fun _ hk => hk) ((show ∀ k_, w100.heap.size ≤ k_ → (fun k_ => (w.heap.size ≤ k_) ∧ some k_ ≠ (.slice (some ad226) x5_1.length co9 : Value).ownBlock ∧ some k_ ≠ (v237 : Value).ownBlock) k_ from fun k_ hk => ⟨(Nat.le_trans (below_size (xH HB.out)) hk), Kd.fresh' (Kd.N_lt (xN HO_5.out)) k_ hk, Kd.fresh' (Kd.N_lt (xN HO238.out)) k_ hk⟩) _ (Nat.le_refl _)) (Below.refl _ _) (Nat.le_refl _) (by simp) ?_; (case hd => rfl); (case hg => rfl); (case hr => first | (go_simp; done) | (go_simp; rfl)); (case hp => exact (Reps.one (show Kd.FK (Kd.slice 3 (Kd.int .i64)) _ _ t144 [.slice Ao94 t144.length co94] from (Kd.FK_slice_mk (Kd.R_reads' (rM (ok' := (fun k_ => (w.heap.size ≤ k_) ∧ some k_ ≠ (.slice (some ad226) x5_1.length co9 : Value).ownBlock ∧ some k_ ≠ (v237 : Value).ownBlock)) (Kd.R_apart' (Kd.R_apart' (HO_7.out) (Kd.N_typed HO_5.out) (by decide)) (Kd.N_typed HO238.out) (by decide)) (fun k_ hk => ⟨hk.1.1, ⟨hk.1.2, hk.2⟩⟩))).2.1 (Kd.R_F (rM (ok' := (fun k_ => (w.heap.size ≤ k_) ∧ some k_ ≠ (.slice (some ad226) x5_1.length co9 : Value).ownBlock ∧ some k_ ≠ (v237 : Value).ownBlock)) (Kd.R_apart' (Kd.R_apart' (HO_7.out) (Kd.N_typed HO_5.out) (by decide)) (Kd.N_typed HO238.out) (by decide)) (fun k_ hk => ⟨hk.1.1, ⟨hk.1.2, hk.2⟩⟩))))) (Reps.none _ _)))
                                        intro v240 w101 ho102 hb hg_ hnew_
                                        clear hg_ hnew_
                                        (first | rw [← Ny239.out] at ho102 | (simp only [Int.reduceToNat] at ho102; rw [← Ny239.out] at ho102))
                                        replace HO_5 := aM (Kd.N_elder' (xN HO_5.out) (by first | exact Kd.N_base ho102 | exact Kd.S_base ho102 | exact Kd.R_base ho102) hb)
                                        replace HL226_0 := aM (Kd.V_elder' (xV HL226_0.out) (by first | exact Kd.N_base ho102 | exact Kd.S_base ho102 | exact Kd.R_base ho102) hb)
                                        replace HO235 := aM (Kd.V_elder' (xV HO235.out) (by first | exact Kd.N_base ho102 | exact Kd.S_base ho102 | exact Kd.R_base ho102) hb)
                                        replace HO249 := aM (Kd.V_elder' (xV HO249.out) (by first | exact Kd.N_base ho102 | exact Kd.S_base ho102 | exact Kd.R_base ho102) hb)
                                        replace HO238 := aM (Kd.N_elder' (xN HO238.out) (by first | exact Kd.N_base ho102 | exact Kd.S_base ho102 | exact Kd.R_base ho102) hb)
                                        have HO241 := aM (Kd.N_lower ho102 (below_size (xH HB.out)))
                                        replace HB := yS0 HB hb
                                        clear HO_7
                                        clear hb ho102
                                        refine hK.out _ _ trivial (fun hHeld => ?_)
                                        clear hK K
                                        refine norm_ (a' := ?_) ?_ ?_
                                        rotate_left
                                        · show Act.put _ (some 54) _ = _
                                          simp only [Act.put, sA, sZ, sU, i64_w, i32_w]
                                          rfl
                                        exact norm_ (by simp only [putAll, Act.put, sA, sZ, sU]) (hCont (v229, v237, v240) _ ⟨(by (with_reducible repeat (first | apply Kd.V_alloc | apply Kd.V_drewN | apply Kd.V_drew)); exact Kd.V_mono HL226_0.out (fun _ hk => ⟨hk.1.1.1, ⟨hk.1.2, ⟨hk.2, hk.1.1.2.1⟩⟩⟩)), (by (with_reducible repeat (first | apply Kd.V_alloc | apply Kd.V_drewN | apply Kd.V_drew)); exact Kd.V_mono HO235.out (fun _ hk => ⟨hk.1.1.1, ⟨hk.1.2, hk.2⟩⟩)), (zN (Kd.N_mono HO238.out (fun _ hk => ⟨hk.1.1, hk.2⟩))), (zN (Kd.N_mono HO241.out (fun _ hk => ⟨hk.1, ⟨hk.2.2, hk.2.1⟩⟩))), (by (with_reducible repeat (first | apply Kd.V_alloc | apply Kd.V_drewN | apply Kd.V_drew)); exact Kd.V_mono HO249.out (fun _ hk => ⟨hk.1.1.1, ⟨hk.1.2, hk.2⟩⟩)), (zN (Kd.N_mono HO_5.out (fun _ hk => ⟨hk.1.1.1, ⟨hk.1.2, hk.2⟩⟩))), (xH HB.out)⟩)
                                      · skip
                                        refine Kd.N_lit_step (Kd.slice 3 (Kd.int .i64)) _ 22 ?hg (N' := 54) ?hd (xs := ([t144] : List (List Int))) (inner := [.slice Ao94 t144.length co94]) (ok := (fun k_ => (w.heap.size ≤ k_) ∧ some k_ ≠ (.slice (some ad226) x5_1.length co9 : Value).ownBlock ∧ some k_ ≠ (v229 : Value).ownBlock)) (okp := (fun k_ => (w.heap.size ≤ k_) ∧ some k_ ≠ (.slice (some ad226) x5_1.length co9 : Value).ownBlock ∧ some k_ ≠ (v229 : Value).ownBlock)) ?hr ?hp (fun _ hk => hk) ((show ∀ k_, w98.heap.size ≤ k_ → (fun k_ => (w.heap.size ≤ k_) ∧ some k_ ≠ (.slice (some ad226) x5_1.length co9 : Value).ownBlock ∧ some k_ ≠ (v229 : Value).ownBlock) k_ from fun k_ hk => ⟨(Nat.le_trans (below_size (xH HB.out)) hk), Kd.fresh' (Kd.N_lt (xN HO_5.out)) k_ hk, Kd.fresh' (Kd.N_lt (xN HO230.out)) k_ hk⟩) _ (Nat.le_refl _)) (Below.refl _ _) (Nat.le_refl _) (by simp) ?_; (case hd => rfl); (case hg => rfl); (case hr => first | (go_simp; done) | (go_simp; rfl)); (case hp => exact (Reps.one (show Kd.FK (Kd.slice 3 (Kd.int .i64)) _ _ t144 [.slice Ao94 t144.length co94] from (Kd.FK_slice_mk (Kd.R_reads' (rM (ok' := (fun k_ => (w.heap.size ≤ k_) ∧ some k_ ≠ (.slice (some ad226) x5_1.length co9 : Value).ownBlock ∧ some k_ ≠ (v229 : Value).ownBlock)) (Kd.R_apart' (Kd.R_apart' (HO_7.out) (Kd.N_typed HO_5.out) (by decide)) (Kd.N_typed HO230.out) (by decide)) (fun k_ hk => ⟨hk.1.1, ⟨hk.1.2, hk.2⟩⟩))).2.1 (Kd.R_F (rM (ok' := (fun k_ => (w.heap.size ≤ k_) ∧ some k_ ≠ (.slice (some ad226) x5_1.length co9 : Value).ownBlock ∧ some k_ ≠ (v229 : Value).ownBlock)) (Kd.R_apart' (Kd.R_apart' (HO_7.out) (Kd.N_typed HO_5.out) (by decide)) (Kd.N_typed HO230.out) (by decide)) (fun k_ hk => ⟨hk.1.1, ⟨hk.1.2, hk.2⟩⟩))))) (Reps.none _ _)))
                                        intro v240 w100 ho101 hb hg_ hnew_
                                        clear hg_ hnew_
                                        (first | rw [← Ny239.out] at ho101 | (simp only [Int.reduceToNat] at ho101; rw [← Ny239.out] at ho101))
                                        replace HO_5 := aM (Kd.N_elder' (xN HO_5.out) (by first | exact Kd.N_base ho101 | exact Kd.S_base ho101 | exact Kd.R_base ho101) hb)
                                        replace HL226_0 := aM (Kd.V_elder' (xV HL226_0.out) (by first | exact Kd.N_base ho101 | exact Kd.S_base ho101 | exact Kd.R_base ho101) hb)
                                        replace HO235 := aM (Kd.V_elder' (xV HO235.out) (by first | exact Kd.N_base ho101 | exact Kd.S_base ho101 | exact Kd.R_base ho101) hb)
                                        replace HO249 := aM (Kd.V_elder' (xV HO249.out) (by first | exact Kd.N_base ho101 | exact Kd.S_base ho101 | exact Kd.R_base ho101) hb)
                                        replace HO230 := aM (Kd.N_elder' (xN HO230.out) (by first | exact Kd.N_base ho101 | exact Kd.S_base ho101 | exact Kd.R_base ho101) hb)
                                        have HO241 := aM (Kd.N_lower ho101 (below_size (xH HB.out)))
                                        replace HR226_0 := aM (Kd.C_below (by repeat (first | (with_reducible exact HR226_0.out) | (with_reducible refine Kd.C_alloc ?_ _) | (with_reducible refine Kd.C_drewN ?_ _) | (with_reducible refine Kd.C_drew ?_) | exact HR226_0.out)) hb)
                                        replace HB := yS0 HB hb
                                        clear HO_7
                                        clear hb ho101
                                        refine hK.out _ _ trivial (fun hHeld => ?_)
                                        clear hK K
                                        refine norm_ (a' := ?_) ?_ ?_
                                        rotate_left
                                        · show Act.put _ (some 54) _ = _
                                          simp only [Act.put, sA, sZ, sU, i64_w, i32_w]
                                          rfl
                                        refine yO 4 52 (bm 13 1919) HT_ (fun K hK => ?_)
                                        refine Kd.N_append_rows_step (Kd.slice 3 (Kd.int .i64)) (w0 := w) w.heap.size (by rfl) (.tmp 48) (.tmp 51) 29 22 (.slice none 0 0) 24 rfl Try.underlying29 info22 rfl (by decide) (by omega) v229 y228 y231 _ _ _ (fun k_ => (w.heap.size ≤ k_) ∧ some k_ ≠ (v240 : Value).ownBlock) (fun k_ => ((fun k_ => (w.heap.size ≤ k_) ∧ some k_ ≠ (v240 : Value).ownBlock)) k_ ∧ some k_ ≠ (v229 : Value).ownBlock) rfl rfl ?aO ?aR (fun _ hk => hk) ?aF ?aB ?aS ?aL ?_
                                        (case aR => exact (by skip; exact Kd.V_F (base := w.heap.size) (e := 3) (Kd.V_mono (e := 3) (base := w.heap.size) (ok' := (fun k_ => ((fun k_ => (w.heap.size ≤ k_) ∧ some k_ ≠ (v240 : Value).ownBlock)) k_ ∧ some k_ ≠ (v229 : Value).ownBlock)) (HO235.out) (fun k_ hk => ⟨⟨hk.1.1.1, hk.2⟩, hk.1.2⟩))))
                                        (case aB => exact (xH HB.out))
                                        (case aF => exact (fun k_ hk => ⟨(Nat.le_trans (below_size (xH HB.out)) hk), Kd.fresh' (Kd.N_lt (xN HO241.out)) k_ hk⟩))
                                        (case aO => exact (zN (Kd.N_mono HO230.out (fun _ hk => ⟨hk.1.1, hk.2⟩))))
                                        (case aS => exact (below_size (xH HB.out)))
                                        (case aL => have := LMc89.out; omega)
                                        intro v237 w102 ho hb hg hat
                                        rw [← Ny236.out] at ho
                                        replace HO_5 := aM (Kd.N_afterv (ok := (fun k_ => (w.heap.size ≤ k_) ∧ some k_ ≠ (v240 : Value).ownBlock)) (zN (Kd.N_mono HO_5.out (fun _ hk => ⟨⟨hk.1.1.1, hk.2⟩, hk.1.2⟩))) hg hat)
                                        replace HL226_0 := aM (Kd.V_afterv (ok := (fun k_ => (w.heap.size ≤ k_) ∧ some k_ ≠ (.slice (some ad226) x5_1.length co9 : Value).ownBlock ∧ some k_ ≠ (v240 : Value).ownBlock)) (by (with_reducible repeat (first | apply Kd.V_alloc | apply Kd.V_drewN | apply Kd.V_drew)); exact Kd.V_mono HL226_0.out (fun _ hk => ⟨⟨hk.1.1.1.1, ⟨hk.1.1.2, hk.2⟩⟩, hk.1.2⟩)) hg hat)
                                        replace HO235 := aM (Kd.V_afterv (ok := (fun k_ => (w.heap.size ≤ k_) ∧ some k_ ≠ (v240 : Value).ownBlock)) (by (with_reducible repeat (first | apply Kd.V_alloc | apply Kd.V_drewN | apply Kd.V_drew)); exact Kd.V_mono HO235.out (fun _ hk => ⟨⟨hk.1.1.1, hk.2⟩, hk.1.2⟩)) hg hat)
                                        replace HO249 := aM (Kd.V_afterv (ok := (fun k_ => (w.heap.size ≤ k_) ∧ some k_ ≠ (v240 : Value).ownBlock)) (by (with_reducible repeat (first | apply Kd.V_alloc | apply Kd.V_drewN | apply Kd.V_drew)); exact Kd.V_mono HO249.out (fun _ hk => ⟨⟨hk.1.1.1, hk.2⟩, hk.1.2⟩)) hg hat)
                                        replace HO241 := aM (Kd.N_afterv (ok := (fun k_ => (w.heap.size ≤ k_) ∧ some k_ ≠ (.slice (some ad226) x5_1.length co9 : Value).ownBlock)) (zN (Kd.N_mono HO241.out (fun _ hk => ⟨⟨hk.1, hk.2.1⟩, hk.2.2⟩))) hg hat)
                                        replace HB := aM (hb)
                                        have HO238 := aM (ho)
                                        clear HO230
                                        clear ho hb hg hat
                                        refine hK.out _ _ trivial (fun hHeld => ?_)
                                        clear hK K
                                        refine norm_ (a' := ?_) ?_ ?_
                                        rotate_left
                                        · show Act.put _ (some 52) _ = _
                                          simp only [Act.put, sA, sZ, sU, i64_w, i32_w]
                                          rfl
                                        exact norm_ (by simp only [putAll, Act.put, sA, sZ, sU]) (hCont (v229, v237, v240) _ ⟨(by (with_reducible repeat (first | apply Kd.V_alloc | apply Kd.V_drewN | apply Kd.V_drew)); exact Kd.V_mono HL226_0.out (fun _ hk => ⟨hk.1.1, ⟨hk.2, ⟨hk.1.2.2, hk.1.2.1⟩⟩⟩)), (by (with_reducible repeat (first | apply Kd.V_alloc | apply Kd.V_drewN | apply Kd.V_drew)); exact Kd.V_mono HO235.out (fun _ hk => ⟨hk.1.1, ⟨hk.2, hk.1.2⟩⟩)), (xN HO238.out), (zN (Kd.N_mono HO241.out (fun _ hk => ⟨hk.1.1, ⟨hk.2, hk.1.2⟩⟩))), (by (with_reducible repeat (first | apply Kd.V_alloc | apply Kd.V_drewN | apply Kd.V_drew)); exact Kd.V_mono HO249.out (fun _ hk => ⟨hk.1.1, ⟨hk.2, hk.1.2⟩⟩)), (zN (Kd.N_mono HO_5.out (fun _ hk => ⟨hk.1.1, ⟨hk.2, hk.1.2⟩⟩))), (xH HB.out)⟩)
                                    · skip
                                      refine Kd.N_lit_step (Kd.slice 3 (Kd.int .i64)) _ 22 ?hg (N' := 54) ?hd (xs := ([t144] : List (List Int))) (inner := [.slice Ao94 t144.length co94]) (ok := (fun k_ => (w.heap.size ≤ k_) ∧ some k_ ≠ (.slice (some ad226) x5_1.length co9 : Value).ownBlock)) (okp := (fun k_ => (w.heap.size ≤ k_) ∧ some k_ ≠ (.slice (some ad226) x5_1.length co9 : Value).ownBlock)) ?hr ?hp (fun _ hk => hk) ((show ∀ k_, w95.heap.size ≤ k_ → (fun k_ => (w.heap.size ≤ k_) ∧ some k_ ≠ (.slice (some ad226) x5_1.length co9 : Value).ownBlock) k_ from fun k_ hk => ⟨(Nat.le_trans (below_size (xH HB.out)) hk), Kd.fresh' (Kd.N_lt (xN HO_5.out)) k_ hk⟩) _ (Nat.le_refl _)) (Below.refl _ _) (Nat.le_refl _) (by simp) ?_; (case hd => rfl); (case hg => rfl); (case hr => first | (go_simp; done) | (go_simp; rfl)); (case hp => exact (Reps.one (show Kd.FK (Kd.slice 3 (Kd.int .i64)) _ _ t144 [.slice Ao94 t144.length co94] from (Kd.FK_slice_mk (Kd.R_reads' (rM (ok' := (fun k_ => (w.heap.size ≤ k_) ∧ some k_ ≠ (.slice (some ad226) x5_1.length co9 : Value).ownBlock)) (Kd.R_apart' (HO_7.out) (Kd.N_typed HO_5.out) (by decide)) (fun k_ hk => ⟨hk.1, hk.2⟩))).2.1 (Kd.R_F (rM (ok' := (fun k_ => (w.heap.size ≤ k_) ∧ some k_ ≠ (.slice (some ad226) x5_1.length co9 : Value).ownBlock)) (Kd.R_apart' (HO_7.out) (Kd.N_typed HO_5.out) (by decide)) (fun k_ hk => ⟨hk.1, hk.2⟩))))) (Reps.none _ _)))
                                      intro v240 w98 ho99 hb hg_ hnew_
                                      clear hg_ hnew_
                                      (first | rw [← Ny239.out] at ho99 | (simp only [Int.reduceToNat] at ho99; rw [← Ny239.out] at ho99))
                                      replace HO_5 := aM (Kd.N_elder' (xN HO_5.out) (by first | exact Kd.N_base ho99 | exact Kd.S_base ho99 | exact Kd.R_base ho99) hb)
                                      replace HL226_0 := aM (Kd.V_elder' (xV HL226_0.out) (by first | exact Kd.N_base ho99 | exact Kd.S_base ho99 | exact Kd.R_base ho99) hb)
                                      replace HO235 := aM (Kd.V_elder' (xV HO235.out) (by first | exact Kd.N_base ho99 | exact Kd.S_base ho99 | exact Kd.R_base ho99) hb)
                                      replace HO249 := aM (Kd.V_elder' (xV HO249.out) (by first | exact Kd.N_base ho99 | exact Kd.S_base ho99 | exact Kd.R_base ho99) hb)
                                      have HO241 := aM (Kd.N_lower ho99 (below_size (xH HB.out)))
                                      replace HR226_0 := aM (Kd.C_below (by repeat (first | (with_reducible exact HR226_0.out) | (with_reducible refine Kd.C_alloc ?_ _) | (with_reducible refine Kd.C_drewN ?_ _) | (with_reducible refine Kd.C_drew ?_) | exact HR226_0.out)) hb)
                                      replace HB := yS0 HB hb
                                      clear HO_7
                                      clear hb ho99
                                      refine hK.out _ _ trivial (fun hHeld => ?_)
                                      clear hK K
                                      refine norm_ (a' := ?_) ?_ ?_
                                      rotate_left
                                      · show Act.put _ (some 54) _ = _
                                        simp only [Act.put, sA, sZ, sU, i64_w, i32_w]
                                        rfl
                                      refine yO 0 48 (bm 13 1903) HT_ (fun K hK => ?_)
                                      refine Kd.N_lit_step (Kd.slice 3 (Kd.int .i64)) _ 22 ?hg (N' := 48) ?hd (xs := ([] : List (List Int))) (inner := []) (ok := (fun k_ => (w.heap.size ≤ k_) ∧ some k_ ≠ (.slice (some ad226) x5_1.length co9 : Value).ownBlock ∧ some k_ ≠ (v240 : Value).ownBlock)) (okp := (fun k_ => (w.heap.size ≤ k_) ∧ some k_ ≠ (.slice (some ad226) x5_1.length co9 : Value).ownBlock ∧ some k_ ≠ (v240 : Value).ownBlock)) ?hr ?hp (fun _ hk => hk) ((show ∀ k_, w98.heap.size ≤ k_ → (fun k_ => (w.heap.size ≤ k_) ∧ some k_ ≠ (.slice (some ad226) x5_1.length co9 : Value).ownBlock ∧ some k_ ≠ (v240 : Value).ownBlock) k_ from fun k_ hk => ⟨(Nat.le_trans (below_size (xH HB.out)) hk), Kd.fresh' (Kd.N_lt (xN HO_5.out)) k_ hk, Kd.fresh' (Kd.N_lt (xN HO241.out)) k_ hk⟩) _ (Nat.le_refl _)) (Below.refl _ _) (Nat.le_refl _) (by simp) ?_; (case hd => rfl); (case hg => rfl); (case hr => first | (go_simp; done) | (go_simp; rfl)); (case hp => exact (Reps.none _ _))
                                      intro v229 w100 ho101 hb hg_ hnew_
                                      clear hg_ hnew_
                                      (first | rw [← Ny228.out] at ho101 | (simp only [Int.reduceToNat] at ho101; rw [← Ny228.out] at ho101))
                                      replace HO_5 := aM (Kd.N_elder' (xN HO_5.out) (by first | exact Kd.N_base ho101 | exact Kd.S_base ho101 | exact Kd.R_base ho101) hb)
                                      replace HL226_0 := aM (Kd.V_elder' (xV HL226_0.out) (by first | exact Kd.N_base ho101 | exact Kd.S_base ho101 | exact Kd.R_base ho101) hb)
                                      replace HO235 := aM (Kd.V_elder' (xV HO235.out) (by first | exact Kd.N_base ho101 | exact Kd.S_base ho101 | exact Kd.R_base ho101) hb)
                                      replace HO249 := aM (Kd.V_elder' (xV HO249.out) (by first | exact Kd.N_base ho101 | exact Kd.S_base ho101 | exact Kd.R_base ho101) hb)
                                      replace HO241 := aM (Kd.N_elder' (xN HO241.out) (by first | exact Kd.N_base ho101 | exact Kd.S_base ho101 | exact Kd.R_base ho101) hb)
                                      have HO230 := aM (Kd.N_lower ho101 (below_size (xH HB.out)))
                                      replace HR226_0 := aM (Kd.C_below (by repeat (first | (with_reducible exact HR226_0.out) | (with_reducible refine Kd.C_alloc ?_ _) | (with_reducible refine Kd.C_drewN ?_ _) | (with_reducible refine Kd.C_drew ?_) | exact HR226_0.out)) hb)
                                      replace HB := yS0 HB hb
                                      clear hb ho101
                                      refine hK.out _ _ trivial (fun hHeld => ?_)
                                      clear hK K
                                      refine norm_ (a' := ?_) ?_ ?_
                                      rotate_left
                                      · show Act.put _ (some 48) _ = _
                                        simp only [Act.put, sA, sZ, sU, i64_w, i32_w]
                                        rfl
                                      refine yO 4 52 (bm 13 1919) HT_ (fun K hK => ?_)
                                      refine Kd.N_append_rows_step (Kd.slice 3 (Kd.int .i64)) (w0 := w) w.heap.size (by rfl) (.tmp 48) (.tmp 51) 29 22 (.slice none 0 0) 24 rfl Try.underlying29 info22 rfl (by decide) (by omega) v229 y228 y231 _ _ _ (fun k_ => (w.heap.size ≤ k_) ∧ some k_ ≠ (v240 : Value).ownBlock) (fun k_ => ((fun k_ => (w.heap.size ≤ k_) ∧ some k_ ≠ (v240 : Value).ownBlock)) k_ ∧ some k_ ≠ (v229 : Value).ownBlock) rfl rfl ?aO ?aR (fun _ hk => hk) ?aF ?aB ?aS ?aL ?_
                                      (case aR => exact (by skip; exact Kd.V_F (base := w.heap.size) (e := 3) (Kd.V_mono (e := 3) (base := w.heap.size) (ok' := (fun k_ => ((fun k_ => (w.heap.size ≤ k_) ∧ some k_ ≠ (v240 : Value).ownBlock)) k_ ∧ some k_ ≠ (v229 : Value).ownBlock)) (HO235.out) (fun k_ hk => ⟨⟨hk.1.1.1, hk.1.2⟩, hk.2⟩))))
                                      (case aB => exact (xH HB.out))
                                      (case aF => exact (fun k_ hk => ⟨(Nat.le_trans (below_size (xH HB.out)) hk), Kd.fresh' (Kd.N_lt (xN HO241.out)) k_ hk⟩))
                                      (case aO => exact (zN (Kd.N_mono HO230.out (fun _ hk => ⟨hk.1, hk.2.2⟩))))
                                      (case aS => exact (below_size (xH HB.out)))
                                      (case aL => have := LMc89.out; omega)
                                      intro v237 w102 ho hb hg hat
                                      rw [← Ny236.out] at ho
                                      replace HO_5 := aM (Kd.N_afterv (ok := (fun k_ => (w.heap.size ≤ k_) ∧ some k_ ≠ (v240 : Value).ownBlock)) (zN (Kd.N_mono HO_5.out (fun _ hk => ⟨⟨hk.1.1.1, hk.1.2⟩, hk.2⟩))) hg hat)
                                      replace HL226_0 := aM (Kd.V_afterv (ok := (fun k_ => (w.heap.size ≤ k_) ∧ some k_ ≠ (.slice (some ad226) x5_1.length co9 : Value).ownBlock ∧ some k_ ≠ (v240 : Value).ownBlock)) (by (with_reducible repeat (first | apply Kd.V_alloc | apply Kd.V_drewN | apply Kd.V_drew)); exact Kd.V_mono HL226_0.out (fun _ hk => ⟨⟨hk.1.1.1.1, ⟨hk.1.1.2, hk.1.2⟩⟩, hk.2⟩)) hg hat)
                                      replace HO235 := aM (Kd.V_afterv (ok := (fun k_ => (w.heap.size ≤ k_) ∧ some k_ ≠ (v240 : Value).ownBlock)) (by (with_reducible repeat (first | apply Kd.V_alloc | apply Kd.V_drewN | apply Kd.V_drew)); exact Kd.V_mono HO235.out (fun _ hk => ⟨⟨hk.1.1.1, hk.1.2⟩, hk.2⟩)) hg hat)
                                      replace HO249 := aM (Kd.V_afterv (ok := (fun k_ => (w.heap.size ≤ k_) ∧ some k_ ≠ (v240 : Value).ownBlock)) (by (with_reducible repeat (first | apply Kd.V_alloc | apply Kd.V_drewN | apply Kd.V_drew)); exact Kd.V_mono HO249.out (fun _ hk => ⟨⟨hk.1.1.1, hk.1.2⟩, hk.2⟩)) hg hat)
                                      replace HO241 := aM (Kd.N_afterv (ok := (fun k_ => (w.heap.size ≤ k_) ∧ some k_ ≠ (.slice (some ad226) x5_1.length co9 : Value).ownBlock)) (xN HO241.out) hg hat)
                                      replace HB := aM (hb)
                                      have HO238 := aM (ho)
                                      clear HO230
                                      clear ho hb hg hat
                                      refine hK.out _ _ trivial (fun hHeld => ?_)
                                      clear hK K
                                      refine norm_ (a' := ?_) ?_ ?_
                                      rotate_left
                                      · show Act.put _ (some 52) _ = _
                                        simp only [Act.put, sA, sZ, sU, i64_w, i32_w]
                                        rfl
                                      exact norm_ (by simp only [putAll, Act.put, sA, sZ, sU]) (hCont (v229, v237, v240) _ ⟨(by (with_reducible repeat (first | apply Kd.V_alloc | apply Kd.V_drewN | apply Kd.V_drew)); exact Kd.V_mono HL226_0.out (fun _ hk => ⟨hk.1.1, ⟨hk.2, ⟨hk.1.2.2, hk.1.2.1⟩⟩⟩)), (by (with_reducible repeat (first | apply Kd.V_alloc | apply Kd.V_drewN | apply Kd.V_drew)); exact Kd.V_mono HO235.out (fun _ hk => ⟨hk.1.1, ⟨hk.2, hk.1.2⟩⟩)), (xN HO238.out), (zN (Kd.N_mono HO241.out (fun _ hk => ⟨hk.1.1, ⟨hk.2, hk.1.2⟩⟩))), (by (with_reducible repeat (first | apply Kd.V_alloc | apply Kd.V_drewN | apply Kd.V_drew)); exact Kd.V_mono HO249.out (fun _ hk => ⟨hk.1.1, ⟨hk.2, hk.1.2⟩⟩)), (zN (Kd.N_mono HO_5.out (fun _ hk => ⟨hk.1.1, ⟨hk.2, hk.1.2⟩⟩))), (xH HB.out)⟩)
                                  rintro ⟨v229, v237, v240⟩ w103 ⟨h0_, h1_, h2_, h3_, h4_, h5_, h6_⟩
                                  have n0_ : Aside0 (Kd.V (Kd.int .i64) 3 w103 w.heap.size (fun k_ => (w.heap.size ≤ k_) ∧ some k_ ≠ (v237 : Value).ownBlock ∧ some k_ ≠ (v240 : Value).ownBlock ∧ some k_ ≠ (.slice (some ad226) x5_1.length co9 : Value).ownBlock) (.slice A226_0 (rd_L1 x5_1 (ji82)).length c226_0) (rd_L1 x5_1 (ji82))) := ⟨h0_⟩
                                  have n1_ : Aside0 (Kd.V (Kd.slice 3 (Kd.int .i64)) 22 w103 w.heap.size (fun k_ => (w.heap.size ≤ k_) ∧ some k_ ≠ (v237 : Value).ownBlock ∧ some k_ ≠ (v240 : Value).ownBlock) (.slice (some ad226) y231.length co9) y231) := ⟨h1_⟩
                                  have n2_ : Aside0 (Kd.N (Kd.slice 3 (Kd.int .i64)) 22 w103 w.heap.size (fun k_ => (w.heap.size ≤ k_) ∧ some k_ ≠ (v240 : Value).ownBlock) v237 y236) := ⟨h2_⟩
                                  have n3_ : Aside0 (Kd.N (Kd.slice 3 (Kd.int .i64)) 22 w103 w.heap.size (fun k_ => (w.heap.size ≤ k_) ∧ some k_ ≠ (v237 : Value).ownBlock ∧ some k_ ≠ (.slice (some ad226) x5_1.length co9 : Value).ownBlock) v240 y239) := ⟨h3_⟩
                                  have n4_ : Aside0 (Kd.V (Kd.slice 3 (Kd.int .i64)) 22 w103 w.heap.size (fun k_ => (w.heap.size ≤ k_) ∧ some k_ ≠ (v237 : Value).ownBlock ∧ some k_ ≠ (v240 : Value).ownBlock) (.slice A97 y245.length c97) y245) := ⟨h4_⟩
                                  have n5_ : Aside0 (Kd.N (Kd.slice 3 (Kd.int .i64)) 22 w103 w.heap.size (fun k_ => (w.heap.size ≤ k_) ∧ some k_ ≠ (v237 : Value).ownBlock ∧ some k_ ≠ (v240 : Value).ownBlock) (.slice (some ad226) x5_1.length co9) x5_1) := ⟨h5_⟩
                                  have n6_ : Aside0 (Below w.heap.size w w103) := ⟨h6_⟩
                                  clear HO_5
                                  clear HO_7
                                  clear HL226_0
                                  clear HR226_0
                                  clear HB
                                  clear h0_ h1_ h2_ h3_ h4_ h5_ h6_
                                  have HL226_0 := n0_
                                  have HO235 := n1_
                                  have HO238 := n2_
                                  have HO241 := n3_
                                  have HO249 := n4_
                                  have HO_5 := n5_
                                  have HB := n6_
                                  clear n0_ n1_ n2_ n3_ n4_ n5_ n6_
                                  have hHeld := trivial
                                  obtain ⟨Ao105, co105, eo105⟩ := Kd.N_slice HO241.out
                                  (first | subst eo105 | (injection eo105 with f1_ f2_ f3_; have f4_ := f1_.symm; have f5_ := f3_.symm; clear f1_ f2_ f3_; subst f4_; subst f5_))
                                  refine norm_ (a' := ?_) ?_ ?_
                                  rotate_left
                                  · simp only [putAll, Act.put, sA, sZ, sU]
                                    rfl
                                  refine yO 7 55 (bm 13 2047) HT_ (fun K hK => ?_)
                                  refine Kd.N_append_rows_step (Kd.slice 3 (Kd.int .i64)) (w0 := w) w.heap.size (by rfl) (.tmp 52) (.tmp 54) 29 22 (.slice none 0 0) 24 rfl Try.underlying29 info22 rfl (by decide) (by omega) v237 y236 y239 _ _ _ (fun k_ => (w.heap.size ≤ k_)) (fun k_ => ((fun k_ => (w.heap.size ≤ k_))) k_ ∧ some k_ ≠ (v237 : Value).ownBlock) rfl rfl ?aO ?aR (fun _ hk => hk) ?aF ?aB ?aS ?aL ?_
                                  (case aR => exact (by skip; exact Kd.N_F (Kd.N_mono (ok' := (fun k_ => ((fun k_ => (w.heap.size ≤ k_))) k_ ∧ some k_ ≠ (v237 : Value).ownBlock)) (HO241.out) (fun k_ hk => ⟨hk.1, hk.2.1⟩))))
                                  (case aB => exact (xH HB.out))
                                  (case aF => exact (fun k_ hk => (Nat.le_trans (below_size (xH HB.out)) hk)))
                                  (case aO => exact (zN (Kd.N_mono HO238.out (fun _ hk => hk.1))))
                                  (case aS => exact (below_size (xH HB.out)))
                                  (case aL => have := LMc90.out; omega)
                                  intro v243 w104 ho hb hg hat
                                  rw [← Ny242.out] at ho
                                  replace HO_5 := aM (Kd.N_afterv (ok := (fun k_ => (w.heap.size ≤ k_) ∧ some k_ ≠ (.slice Ao105 y239.length co105 : Value).ownBlock)) (zN (Kd.N_mono HO_5.out (fun _ hk => ⟨⟨hk.1, hk.2.2⟩, hk.2.1⟩))) hg hat)
                                  replace HL226_0 := aM (Kd.V_afterv (ok := (fun k_ => (w.heap.size ≤ k_) ∧ some k_ ≠ (.slice (some ad226) x5_1.length co9 : Value).ownBlock ∧ some k_ ≠ (.slice Ao105 y239.length co105 : Value).ownBlock)) (by (with_reducible repeat (first | apply Kd.V_alloc | apply Kd.V_drewN | apply Kd.V_drew)); exact Kd.V_mono HL226_0.out (fun _ hk => ⟨⟨hk.1, ⟨hk.2.2.2, hk.2.2.1⟩⟩, hk.2.1⟩)) hg hat)
                                  replace HO235 := aM (Kd.V_afterv (ok := (fun k_ => (w.heap.size ≤ k_) ∧ some k_ ≠ (.slice Ao105 y239.length co105 : Value).ownBlock)) (by (with_reducible repeat (first | apply Kd.V_alloc | apply Kd.V_drewN | apply Kd.V_drew)); exact Kd.V_mono HO235.out (fun _ hk => ⟨⟨hk.1, hk.2.2⟩, hk.2.1⟩)) hg hat)
                                  replace HO249 := aM (Kd.V_afterv (ok := (fun k_ => (w.heap.size ≤ k_) ∧ some k_ ≠ (.slice Ao105 y239.length co105 : Value).ownBlock)) (by (with_reducible repeat (first | apply Kd.V_alloc | apply Kd.V_drewN | apply Kd.V_drew)); exact Kd.V_mono HO249.out (fun _ hk => ⟨⟨hk.1, hk.2.2⟩, hk.2.1⟩)) hg hat)
                                  replace HO241 := aM (Kd.N_afterv (ok := (fun k_ => (w.heap.size ≤ k_) ∧ some k_ ≠ (.slice (some ad226) x5_1.length co9 : Value).ownBlock)) (zN (Kd.N_mono HO241.out (fun _ hk => ⟨⟨hk.1, hk.2.2⟩, hk.2.1⟩))) hg hat)
                                  replace HB := aM (hb)
                                  have HO244 := aM (ho)
                                  clear HO238
                                  clear ho hb hg hat
                                  refine hK.out _ _ trivial (fun hHeld => ?_)
                                  clear hK K
                                  refine norm_ (a' := ?_) ?_ ?_
                                  rotate_left
                                  · show Act.put _ (some 55) _ = _
                                    simp only [Act.put, sA, sZ, sU, i64_w, i32_w]
                                    rfl
                                  refine yO 11 59 (bm 13 4095) HT_ (fun K hK => ?_)
                                  refine Kd.N_append_rows_step (Kd.slice 3 (Kd.int .i64)) (w0 := w) w.heap.size (by rfl) (.tmp 55) (.tmp 58) 29 22 (.slice none 0 0) 24 rfl Try.underlying29 info22 rfl (by decide) (by omega) v243 y242 y245 _ _ _ (fun k_ => (w.heap.size ≤ k_)) (fun k_ => ((fun k_ => (w.heap.size ≤ k_))) k_ ∧ some k_ ≠ (v243 : Value).ownBlock) rfl rfl ?aO ?aR (fun _ hk => hk) ?aF ?aB ?aS ?aL ?_
                                  (case aR => exact (by skip; exact Kd.V_F (base := w.heap.size) (e := 3) (Kd.V_mono (e := 3) (base := w.heap.size) (ok' := (fun k_ => ((fun k_ => (w.heap.size ≤ k_))) k_ ∧ some k_ ≠ (v243 : Value).ownBlock)) (HO249.out) (fun k_ hk => ⟨hk.1.1, hk.2⟩))))
                                  (case aB => exact (xH HB.out))
                                  (case aF => exact (fun k_ hk => (Nat.le_trans (below_size (xH HB.out)) hk)))
                                  (case aO => exact (xN HO244.out))
                                  (case aS => exact (below_size (xH HB.out)))
                                  (case aL => have := LMc93.out; omega)
                                  intro v251 w106 ho hb hg hat
                                  rw [← Ny250.out] at ho
                                  replace HO_5 := aM (Kd.N_afterv (ok := (fun k_ => (w.heap.size ≤ k_) ∧ some k_ ≠ (.slice Ao105 y239.length co105 : Value).ownBlock)) (xN HO_5.out) hg hat)
                                  replace HL226_0 := aM (Kd.V_afterv (ok := (fun k_ => (w.heap.size ≤ k_) ∧ some k_ ≠ (.slice (some ad226) x5_1.length co9 : Value).ownBlock ∧ some k_ ≠ (.slice Ao105 y239.length co105 : Value).ownBlock)) (xV HL226_0.out) hg hat)
                                  replace HO235 := aM (Kd.V_afterv (ok := (fun k_ => (w.heap.size ≤ k_) ∧ some k_ ≠ (.slice Ao105 y239.length co105 : Value).ownBlock)) (xV HO235.out) hg hat)
                                  replace HO249 := aM (Kd.V_afterv (ok := (fun k_ => (w.heap.size ≤ k_) ∧ some k_ ≠ (.slice Ao105 y239.length co105 : Value).ownBlock)) (xV HO249.out) hg hat)
                                  replace HO241 := aM (Kd.N_afterv (ok := (fun k_ => (w.heap.size ≤ k_) ∧ some k_ ≠ (.slice (some ad226) x5_1.length co9 : Value).ownBlock)) (xN HO241.out) hg hat)
                                  replace HB := aM (hb)
                                  have HO252 := aM (ho)
                                  clear HO244
                                  clear ho hb hg hat
                                  refine hK.out _ _ trivial (fun hHeld => ?_)
                                  clear hK K
                                  refine norm_ (a' := ?_) ?_ ?_
                                  rotate_left
                                  · show Act.put _ (some 59) _ = _
                                    simp only [Act.put, sA, sZ, sU, i64_w, i32_w]
                                    rfl
                                  refine yP 12 5 (bm 13 8191) HT_ ?_
                                  refine done_ (done_of HT_.out (by kernel_rfl)) ?_
                                  try go_wp2
                                  go_roundg k2
                                  case measure => have := HK1.out; have := HK2.out; omega
                                  case rel => exact ⟨(y250), (wrap64 (x6_1 + 1)), yZ, H', ⟨by have := HK1.out; have := HK2.out; omega⟩, ⟨xN HO252.out⟩, ⟨xH HB.out⟩⟩
                                · rw [if_neg c93] at H
                                  exact absurd H (by simp)
                              · rw [if_neg c90] at H
                                exact absurd H (by simp)
                            · rw [if_neg c89] at H
                              exact absurd H (by simp)
                          · rw [if_neg c88] at H
                            exact absurd H (by simp)
                        · rw [if_neg c87] at H
                          exact absurd H (by simp)
                      · replace c86 := Bool.eq_false_iff.mpr c86
                        subst c86
                        rw [if_neg (show ¬ (false = true) by decide)] at H
                        have H' := aM H
                        clear H
                        have p226 : 0 ≤ ((ji82) : Int) := yA
                        have q226 : (ji82) < (x5_1.length : Int) := yA
                        obtain ⟨ad226, A226_0, c226_0, e226, hx226_0, hl226_0, hi226_0⟩ := at_L1 (Kd.N_reads' HO_5.out).2.2 (ji82) p226 q226
                        cases e226
                        obtain ⟨ce226, hce226, hMe226, hcc226⟩ := Kd.N_get HO_5.out [] (ji82) p226 (by first | exact q226 | exact yA | (have e_ := (Kd.N_reads' HO_5.out).1; omega))
                        obtain ⟨ua226_0, uc226_0, rfl, ul226_0, ge226_0⟩ := Kd.FK_slice_open hMe226
                        have hv226_0 := hcc226 0 _ rfl
                        rw [Nat.add_zero, show ((Kd.slice 3 (Kd.int .i64))).sz = 1 from rfl, Nat.mul_one] at hv226_0
                        replace hv226_0 := Option.some.inj (hv226_0.symm.trans hx226_0)
                        injection hv226_0 with hva_ hvn_ hvc_
                        rw [hva_] at ge226_0
                        rw [hvc_] at ul226_0
                        have HL226_0 := aM (show Kd.V (Kd.int .i64) 3 _ w.heap.size _ _ (rd_L1 x5_1 (ji82)) from Kd.V_mk ul226_0 ge226_0)
                        clear hva_ hvn_ hvc_ ge226_0 ul226_0
                        clear hcc226 hce226
                        have HR226_0 := aM hi226_0
                        have HC226_0 := aM hl226_0
                        clear hi226_0 hl226_0
                        replace p226 := eq_true p226
                        replace q226 := eq_true q226
                        obtain ⟨Ao107, co107, eo107⟩ := Kd.R_slice HO_7.out
                        subst eo107
                        go_wp2_with (first | (go_at_call 104; (with_reducible refine (spec_l7Before.calls k2 _ _ (rd_L1 x5_1 (ji82)) _ _ t144 false _ ?side1 HC226_0.out (xC (Kd.R_reads' HO_7.out).2.2) ((Kd.R_reads' HO_7.out).2.1) A85.out).mono ?_); (case side1 => repeat (first | exact (by repeat (first | (with_reducible exact HR226_0.out) | (with_reducible refine Kd.C_alloc ?_ _) | (with_reducible refine Kd.C_drewN ?_ _) | (with_reducible refine Kd.C_drew ?_) | exact HR226_0.out)) | (with_reducible refine Kd.C_alloc ?_ _) | (with_reducible refine Kd.C_drewN ?_ _) | (with_reducible refine Kd.C_drew ?_))); rintro e w' ⟨rfl, ⟨nd, rfl⟩⟩))
                        go_roundg k2
                        case measure => have := HK1.out; have := HK2.out; omega
                        case rel => exact ⟨(x5_1), (wrap64 (x6_1 + 1)), yZ, H', ⟨by have := HK1.out; have := HK2.out; omega⟩, ⟨zN (Kd.N_mono HO_5.out (fun _ hk => hk.1))⟩, ⟨xH HB.out⟩⟩
                    · rw [if_neg c84] at H
                      exact absurd H (by simp)
                  · rw [if_neg c83] at H
                    exact absurd H (by simp)
        · rw [if_neg c6] at H
          exact absurd H (by simp)
      · rw [if_neg c5] at H
        have c5b0 := decide_eq_false c5
        clear c5
        obtain rfl := Option.some.inj H
        go_wp2
        go_ret
        exact ⟨_, yF, xN HO_5.out, xH HB.out⟩

end Go.Proofs.Ytihnmdnmjieffaa.PFnExactShattersSet
