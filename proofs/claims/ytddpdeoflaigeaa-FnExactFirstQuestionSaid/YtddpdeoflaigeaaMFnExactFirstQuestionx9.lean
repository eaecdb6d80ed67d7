-- Laid for this claim by a program of the session's own (wip/tool/myprint.py).
import Derived.Test.YtddpdeoflaigeaaMFnExactFirstQuestionx0
import Derived.Test.YtddpdeoflaigeaaMFnExactFirstQuestionx7
import Derived.Test.YtddpdeoflaigeaaMFnExactFirstQuestionx8
namespace Go.Proofs.Ytddpdeoflaigeaa.PFnExactFirstQuestion
open Go.RowKit Go.Proofs.YtddpdeoflaigeaaW.PrintWords Go.Proofs.YtddpdeoflaigeaaW.PrintLast Go.Proofs.YtddpdeoflaigeaaW.PrintMore
attribute [local go_sem] max2_int min2_int max_two min_two max_three min_three max_four min_four   -- for this text's walks alone
set_option linter.unusedVariables false
set_option linter.unusedSimpArgs false

/-! ### impl_knowing_questions: function 79 -/
theorem knq_big {S : List Int} {m k : Nat} {a c r : Int} (h : knq true S m (k + 1) a c = some r) (cl : kleft S a c > 1) : (List.range m).foldlM (kstep true S (knq true S m k) a c) 8 = some r ∧ 0 ≤ r ∧ r ≤ 99 := by
  unfold knq at h
  by_cases c1 : (0 ≤ a ∧ a < 256) ∧ (0 ≤ c ∧ c < 256)
  · rw [if_pos c1, if_neg (fun h_ => h_.2 cl), if_pos rfl] at h
    obtain ⟨r', hf, h⟩ := Option.bind_eq_some_iff.mp h
    by_cases c2 : 0 ≤ r' ∧ r' ≤ 99
    · rw [if_pos c2] at h
      obtain rfl : r = r' := (Option.some.inj h).symm
      exact ⟨hf, c2⟩
    · rw [if_neg c2] at h; cases h
  · rw [if_neg c1] at h; cases h
theorem knq_few {S : List Int} {m k : Nat} {a c r : Int} (h : knq true S m (k + 1) a c = some r) (cl : ¬ kleft S a c > 1) : r = 0 := by
  unfold knq at h
  by_cases c1 : (0 ≤ a ∧ a < 256) ∧ (0 ≤ c ∧ c < 256)
  · rw [if_pos c1, if_pos (And.intro rfl cl)] at h
    exact (Option.some.inj h).symm
  · rw [if_neg c1] at h; cases h
set_option maxHeartbeats 8000000 in
set_option maxRecDepth 100000 in
theorem impl_knowing_questions.calls (S : List Int) (m gb mb : Nat) (cA : Addr) (nL cC : Nat) (Ah : Option Addr) (ch : Nat) (As : Option Addr) (cs : Nat) (hm : m ≤ 8) (hgm : gb ≠ mb) (hcm : cA.block ≠ mb) (hl : S.length ≤ 1048576) (h0 : 0 < nL) :
    ∀ (k : Nat) (a c r : Int) (w : World) (n : Nat), knq true S m k a c = some r → KW S m gb mb cA nL cC Ah ch As cs w → Memo (fun a c v => ∃ j, knq true S m j a c = some v) w mb n → n + kcost k ≤ 70368744177664 →
      Calls Try.prog 79 #[.pointer (some ⟨gb, 0, none⟩), .agg #[.int .i64 a, .int .i64 c]] w fun e w' => e = .returned (.int .i64 r) ∧ w.grownBy w' (some mb) ∧ Memo (fun a c v => ∃ j, knq true S m j a c = some v) w' mb (n + kcost k) := by
  intro k
  induction k with
  | zero => intro a c r w n h; cases h
  | succ k ih =>
    intro a c r w n h hKW hM hn
    have IH := Aside0.mk ih
    have HKW := Aside0.mk hKW
    have HH := Aside0.mk h
    have HNB := Aside0.mk hn
    have HNE := Aside0.mk (And.intro hgm hcm)
    have HM8 := Aside0.mk hm
    have HL := Aside0.mk hl
    have hmb : mb < w.heap.size := by obtain ⟨D, h1, _⟩ := hM; exact h1.lt
    have HMB := Aside0.mk hmb
    have HNK := Aside0.mk (show w.heap.size ≠ mb by omega)
    unfold knq at h
    have hac : (0 ≤ a ∧ a < 256) ∧ (0 ≤ c ∧ c < 256) := by
      refine Classical.byContradiction fun hn_ => ?_
      rw [if_neg hn_] at h; cases h
    rw [if_pos hac] at h
    have HAC := Aside0.mk hac
    obtain ⟨v, b, hlk, hlv⟩ := hM.look a c (by simp only [Lit.wf, IntKind.min, IntKind.max, IntKind.signed, IntKind.bits, Bool.and_eq_true, decide_eq_true_eq, if_true]; omega) (by simp only [Lit.wf, IntKind.min, IntKind.max, IntKind.signed, IntKind.bits, Bool.and_eq_true, decide_eq_true_eq, if_true]; omega)
    have HLK := Aside0.mk (show ∀ w1 : World, w1.heap = (w.alloc (.cells #[.int .i64 a, .int .i64 c] 81)).heap → (Instr.lookup 101 (.map (some mb)) (.agg #[.int .i64 a, .int .i64 c]) true).run Try.prog w1 = .ok (.tuple #[.int .i64 v, .bool b]) w1 from fun w1 e => hlk w1 (by rw [e]; exact (below_alloc (Below.refl w.heap.size w) _).block mb hmb))
    have HLV := Aside0.mk hlv
    have hnl : decide ((0 : Int) < (nL : Int)) = true := decide_eq_true (by omega)
    have hnl2 : (0 < nL) = True := eq_true h0
    have HG := Aside0.mk (blk_alloc hKW.1 (.cells #[.int .i64 a, .int .i64 c] 81))
    have HF := Aside0.mk (Kd.F_alloc hKW.2.1 (.cells #[.int .i64 a, .int .i64 c] 81))
    have HC := Aside0.mk ((World.cell?_of_block ((below_alloc (Below.refl w.heap.size w) (.cells #[.int .i64 a, .int .i64 c] 81)).block _ (World.block_lt_of_cell? _ _ hKW.2.2))).trans hKW.2.2)
    have HK := Aside0.mk (blk_new w (.cells #[.int .i64 a, .int .i64 c] 81))
    have HM := Aside0.mk (hM.below (below_alloc (Below.refl w.heap.size w) (.cells #[.int .i64 a, .int .i64 c] 81)))
    have HGR := Aside0.mk (World.grownBy_alloc w (.cells #[.int .i64 a, .int .i64 c] 81) (some mb))
    clear hKW hn hlk hlv hgm hcm hm hl hac hmb; (try clear hM)
    have H := Aside0.mk h
    clear h
    go_enter Try.func79, Try.ntmps79
    go_wp2
    have n0_ := Aside0.mk (blk_drew HG.out)
    have n1_ := Aside0.mk (Kd.F_drew HF.out)
    have n2_ := Aside0.mk (kgrown_cell HC.out (kgrown_drew _ (some mb)) HNE.out.2)
    have n3_ := Aside0.mk (blk_drew HK.out)
    have n4_ := Aside0.mk (Memo.drew HM.out)
    have n5_ := Aside0.mk (kgrown_then HGR.out (kgrown_drew _ (some mb)))
    clear HG HF HC HK HM HGR
    have HG := n0_
    have HF := n1_
    have HC := n2_
    have HK := n3_
    have HM := n4_
    have HGR := n5_
    clear n0_ n1_ n2_ n3_ n4_ n5_
    refine start_ (n := 11) (S := fun w' => w'.cell? ⟨gb, 2, none⟩ = some (.map (some mb)) ∧ w'.cell? ⟨w.heap.size, 0, none⟩ = some (.int .i64 a) ∧ w'.cell? ⟨w.heap.size, 1, none⟩ = some (.int .i64 c) ∧ (Instr.lookup 101 (.map (some mb)) (.agg #[.int .i64 a, .int .i64 c]) true).run Try.prog w' = .ok (.tuple #[.int .i64 v, .bool b]) w') (ds := []) #[false, false, false, false, false, false, false, false, false, false, false] (by kernel_rfl) rfl rfl ⟨(blk_cell HG.out 2).trans rfl, (blk_cell HK.out 0).trans rfl, (blk_cell HK.out 1).trans rfl, HLK.out _ rfl⟩ (fun hHeld => ?_)
    generalize hw_ : (w.alloc (.cells #[.int .i64 a, .int .i64 c] 81)).drew = w3 at HG HF HC HK HM HGR hHeld ⊢
    refine pure_ (i := 0) (N := some 13) (v := ?_) (a' := ?_) #[true, false, false, false, false, false, false, false, false, false, false] rfl rfl (by kernel_rfl) (fun _ _ _ h => h) (Or.inl ⟨by rfl, ?_⟩) ?_ ?_
    rotate_left
    · intro w'
      go_simp
      with_reducible rfl
    rotate_left
    · simp only [Act.put, List.setIfInBounds_toArray, List.set_cons_zero, List.set_cons_succ, i64_w, i32_w]
      rfl
    refine pure_ (i := 1) (N := some 14) (v := ?_) (a' := ?_) #[true, true, false, false, false, false, false, false, false, false, false] rfl rfl (by kernel_rfl) (fun _ _ _ h => h) (Or.inl ⟨by rfl, ?_⟩) ?_ ?_
    rotate_left
    · intro w'
      go_simp
      with_reducible rfl
    rotate_left
    · simp only [Act.put, List.setIfInBounds_toArray, List.set_cons_zero, List.set_cons_succ, i64_w, i32_w]
      rfl
    refine pure_ (i := 2) (N := some 15) (v := ?_) (a' := ?_) #[true, true, true, false, false, false, false, false, false, false, false] rfl rfl (by kernel_rfl) (fun _ _ _ h => h) (Or.inl ⟨by rfl, ?_⟩) ?_ ?_
    rotate_left
    · intro w'
      go_simp
      with_reducible rfl
    rotate_left
    · simp only [Act.put, List.setIfInBounds_toArray, List.set_cons_zero, List.set_cons_succ, i64_w, i32_w]
      rfl
    refine take_ (i := 3) (N := some 16) (v := ?_) (a' := ?_) #[true, true, true, true, false, false, false, false, false, false, false] rfl rfl (by kernel_rfl) (fun _ _ _ h => h) (Or.inl ⟨by rfl, ?_⟩) hHeld ?_ ?_
    rotate_left
    · rintro w' ⟨s0, s1, s2, s3⟩
      first | (go_simp; with_reducible rfl) | (simp only [add_plain] at s0 s1 s2 s3; go_simp; with_reducible rfl)
    rotate_left
    · simp only [Act.put, List.setIfInBounds_toArray, List.set_cons_zero, List.set_cons_succ, i64_w, i32_w]
      rfl
    refine take_ (i := 4) (N := some 17) (v := ?_) (a' := ?_) #[true, true, true, true, true, false, false, false, false, false, false] rfl rfl (by kernel_rfl) (fun _ _ _ h => h) (Or.inl ⟨by rfl, ?_⟩) hHeld ?_ ?_
    rotate_left
    · rintro w' ⟨s0, s1, s2, s3⟩
      first | (go_simp; with_reducible rfl) | (simp only [add_plain] at s0 s1 s2 s3; go_simp; with_reducible rfl)
    rotate_left
    · simp only [Act.put, List.setIfInBounds_toArray, List.set_cons_zero, List.set_cons_succ, i64_w, i32_w]
      rfl
    refine take_ (i := 5) (N := some 18) (v := ?_) (a' := ?_) #[true, true, true, true, true, true, false, false, false, false, false] rfl rfl (by kernel_rfl) (fun _ _ _ h => h) (Or.inl ⟨by rfl, ?_⟩) hHeld ?_ ?_
    rotate_left
    · rintro w' ⟨s0, s1, s2, s3⟩
      first | (go_simp; with_reducible rfl) | (simp only [add_plain] at s0 s1 s2 s3; go_simp; with_reducible rfl)
    rotate_left
    · simp only [Act.put, List.setIfInBounds_toArray, List.set_cons_zero, List.set_cons_succ, i64_w, i32_w]
      rfl
    refine pure_ (i := 6) (N := some 12) (v := ?_) (a' := ?_) #[true, true, true, true, true, true, true, false, false, false, false] rfl rfl (by kernel_rfl) (fun _ _ _ h => h) (Or.inl ⟨by rfl, ?_⟩) ?_ ?_
    rotate_left
    · intro w'
      go_simp
      with_reducible rfl
    rotate_left
    · simp only [Act.put, List.setIfInBounds_toArray, List.set_cons_zero, List.set_cons_succ, i64_w, i32_w]
      rfl
    refine pure_ (i := 7) (N := some 19) (v := ?_) (a' := ?_) #[true, true, true, true, true, true, true, true, false, false, false] rfl rfl (by kernel_rfl) (fun _ _ _ h => h) (Or.inl ⟨by rfl, ?_⟩) ?_ ?_
    rotate_left
    · intro w'
      go_simp
      with_reducible rfl
    rotate_left
    · simp only [Act.put, List.setIfInBounds_toArray, List.set_cons_zero, List.set_cons_succ, i64_w, i32_w]
      rfl
    refine pure_ (i := 8) (N := some 20) (v := ?_) (a' := ?_) #[true, true, true, true, true, true, true, true, true, false, false] rfl rfl (by kernel_rfl) (fun _ _ _ h => h) (Or.inl ⟨by rfl, ?_⟩) ?_ ?_
    rotate_left
    · intro w'
      go_simp
      with_reducible rfl
    rotate_left
    · simp only [Act.put, List.setIfInBounds_toArray, List.set_cons_zero, List.set_cons_succ, i64_w, i32_w]
      rfl
    refine pure_ (i := 9) (N := some 5) (v := ?_) (a' := ?_) #[true, true, true, true, true, true, true, true, true, true, false] rfl rfl (by kernel_rfl) (fun _ _ _ h => h) (Or.inl ⟨by rfl, ?_⟩) ?_ ?_
    rotate_left
    · intro w'
      go_simp
      with_reducible rfl
    rotate_left
    · simp only [Act.put, List.setIfInBounds_toArray, List.set_cons_zero, List.set_cons_succ, i64_w, i32_w]
      rfl
    refine pure_ (i := 10) (N := some 6) (v := ?_) (a' := ?_) #[true, true, true, true, true, true, true, true, true, true, true] rfl rfl (by kernel_rfl) (fun _ _ _ h => h) (Or.inl ⟨by rfl, ?_⟩) ?_ ?_
    rotate_left
    · intro w'
      go_simp
      with_reducible rfl
    rotate_left
    · simp only [Act.put, List.setIfInBounds_toArray, List.set_cons_zero, List.set_cons_succ, i64_w, i32_w]
      rfl
    refine done_ (by kernel_rfl) ?_
    clear hHeld
    cases b with
    | true =>
      obtain ⟨j, hj⟩ := HLV.out rfl
      have e := knq_det hj HH.out
      subst e
      go_wp2
      go_ret
      exact ⟨rfl, HGR.out, HM.out.mono (Nat.le_add_right _ _)⟩
    | false =>
    have h := H.out
    clear H
    have hc0 := (blk_cell HK.out 0).trans (show _ = some (Value.int .i64 a) from rfl)
    have hc1 := (blk_cell HK.out 1).trans (show _ = some (Value.int .i64 c) from rfl)
    by_cases cl : kleft S a c > 1
    · clear h
      have d9 : decide (1 < kleft S a c) = true := decide_eq_true cl
      obtain ⟨hf, hrb⟩ := knq_big HH.out cl
      have HFO := Aside0.mk hf
      have HRB := Aside0.mk hrb
      clear hf hrb
      go_wp2_with (first | (go_at_call 114; (with_reducible refine (impl_knowing_left.calls S a c gb _ _ As cs _ HG.out (Kd.F_now HF.out) HL.out).mono ?_); rintro e w4 ⟨rfl, hb⟩; have n0_ := Aside0.mk ((Below.block hb _ (blk_lt HG.out)).trans HG.out); have n1_ := Aside0.mk (Kd.F_below HF.out hb); have n2_ := Aside0.mk ((World.cell?_of_block (Below.block hb _ (World.block_lt_of_cell? _ _ HC.out))).trans HC.out); have n3_ := Aside0.mk ((Below.block hb _ (blk_lt HK.out)).trans HK.out); have n4_ := Aside0.mk (Memo.below HM.out hb); have n5_ := Aside0.mk (kgrown_below HGR.out hb); clear HG HF HC HK HM HGR; have HG := n0_; have HF := n1_; have HC := n2_; have HK := n3_; have HM := n4_; have HGR := n5_; clear n0_ n1_ n2_ n3_ n4_ n5_; clear hb hc0 hc1; have hcl := HC.out; have hcg := (blk_cell HG.out 0).trans (show _ = some (Value.slice (some cA) nL cC) from rfl)))
      go_loopw [7, 34] (fun v7 v34 w' => ∃ (j : Nat) (most : Int), v34 = .int .i64 (j : Int) ∧ v7 = .int .i64 most ∧ Aside0 (j ≤ m) ∧ Aside0 (((List.range m).take j).foldlM (kstep true S (knq true S m k) a c) 8 = some most) ∧ Aside0 (w'.heap[w.heap.size]? = some (.cells #[.int .i64 a, .int .i64 c] 81 (0, 0))) ∧ Aside0 (w.grownBy w' (some mb)) ∧ Aside0 (Memo (fun a c v => ∃ j, knq true S m j a c = some v) w' mb (n + 2 * j * kcost k))) (fun _ v34 _ => m - (intOf v34).toNat)
      case atStart => exact ⟨0, _, rfl, rfl, ⟨Nat.zero_le _⟩, ⟨by rw [List.take_zero]; rfl⟩, HK, HGR, ⟨HM.out.mono (by omega)⟩⟩
      case round =>
        clear HG HF HC HK HM HGR
        obtain ⟨j, most, rfl, rfl, HJ, HMO, HK, HGR, HM⟩ := hrel
        have HG := Aside0.mk (kgrown_blk HKW.out.1 HGR.out HNE.out.1)
        have HF := Aside0.mk (Kd.F_grown HKW.out.2.1 HGR.out (fun k_ hk_ e_ => hk_ (by injection e_)))
        have HC := Aside0.mk (kgrown_cell HKW.out.2.2 HGR.out HNE.out.2)
        have hm8 := HM8.out
        by_cases cj : j < m
        · have d0 : decide ((j : Int) < (m : Int)) = true := decide_eq_true (by omega)
          have d1 : decide (j < m) = true := decide_eq_true cj
          have hj8 : j < 8 := by omega
          have hjb : (j : Int) ≤ 8 := by omega
          have h0j : (0 : Int) ≤ (j : Int) := by omega
          have hc0 := (blk_cell HK.out 0).trans (show _ = some (Value.int .i64 a) from rfl)
          have hc1 := (blk_cell HK.out 1).trans (show _ = some (Value.int .i64 c) from rfl)
          obtain ⟨t, ht⟩ := kfold_pre _ _ (j + 1) _ _ HFO.out
          have hnx := ht
          rw [kfold_take _ _ j j _ (by rw [List.getElem?_range cj]), HMO.out, Option.bind_some] at hnx
          unfold kstep at hnx
          have HT := Aside0.mk ht
          have HJL := Aside0.mk cj
          have HNC := Aside0.mk (show n + 2 * j * kcost k + kcost k + kcost k ≤ 70368744177664 by
            have h1 := HNB.out
            have h2 : (2 * j + 2) * kcost k ≤ 16 * kcost k := Nat.mul_le_mul_right _ (by omega)
            rw [Nat.add_mul] at h2
            simp only [kcost] at h1
            omega)
          have HNX := Aside0.mk (show n + 2 * (j + 1) * kcost k = n + 2 * j * kcost k + kcost k + kcost k by rw [show 2 * (j + 1) = 2 * j + 2 by omega, Nat.add_mul]; omega)
          clear ht cj hm8
          obtain ⟨x, hx⟩ : ∃ x, kadd a j = x := ⟨_, rfl⟩
          obtain ⟨y, hy⟩ : ∃ y, kadd c j = y := ⟨_, rfl⟩
          by_cases cp : kparts S a c j = true
          · rw [if_pos cp] at hnx
            obtain ⟨u_, hu_, hnx⟩ := Option.bind_eq_some_iff.mp hnx
            obtain ⟨v_, hv_, hnx⟩ := Option.bind_eq_some_iff.mp hnx
            rw [hx] at hu_ hv_
            rw [hy] at hv_
            have HX_ := Aside0.mk hu_
            have HY_ := Aside0.mk hv_
            have HE := Aside0.mk (Option.some.inj hnx)
            clear hnx hu_ hv_
            go_wp2_with (first | (go_at_call 83; (with_reducible refine (impl_knowing_parts.calls S a c j hj8 gb _ _ As cs _ HG.out (Kd.F_now HF.out) HL.out).mono ?_); rintro e w5 ⟨rfl, hb⟩; have n0_ := Aside0.mk ((Below.block hb _ (blk_lt HG.out)).trans HG.out); have n1_ := Aside0.mk (Kd.F_below HF.out hb); have n2_ := Aside0.mk ((World.cell?_of_block (Below.block hb _ (World.block_lt_of_cell? _ _ HC.out))).trans HC.out); have n3_ := Aside0.mk ((Below.block hb _ (blk_lt HK.out)).trans HK.out); have n4_ := Aside0.mk (Memo.below HM.out hb); have n5_ := Aside0.mk (kgrown_below HGR.out hb); clear HG HF HC HK HM HGR; have HG := n0_; have HF := n1_; have HC := n2_; have HK := n3_; have HM := n4_; have HGR := n5_; clear n0_ n1_ n2_ n3_ n4_ n5_; clear hb))
            have HA := Aside0.mk (blk_alloc (blk_new w5 (.cells #[.int .i64 x, .int .i64 c] 81)) (.cells #[.int .i64 x, .int .i64 y] 81))
            have HB := Aside0.mk (show ((w5.alloc (.cells #[.int .i64 x, .int .i64 c] 81)).alloc (.cells #[.int .i64 x, .int .i64 y] 81)).heap[w5.heap.size + 1]? = some (.cells #[.int .i64 x, .int .i64 y] 81 (0, 0)) by simpa using blk_new (w5.alloc (.cells #[.int .i64 x, .int .i64 c] 81)) (.cells #[.int .i64 x, .int .i64 y] 81))
            have hlt5 : mb < w5.heap.size := Nat.lt_of_lt_of_le HMB.out HGR.out.size
            have HNA := Aside0.mk (And.intro (show w5.heap.size ≠ mb by omega) (show w5.heap.size + 1 ≠ mb by omega))
            have n0_ := Aside0.mk ((Below.block (below_alloc (below_alloc (Below.refl w5.heap.size w5) (.cells #[.int .i64 x, .int .i64 c] 81)) (.cells #[.int .i64 x, .int .i64 y] 81)) _ (blk_lt HG.out)).trans HG.out)
            have n1_ := Aside0.mk (Kd.F_below HF.out (below_alloc (below_alloc (Below.refl w5.heap.size w5) (.cells #[.int .i64 x, .int .i64 c] 81)) (.cells #[.int .i64 x, .int .i64 y] 81)))
            have n2_ := Aside0.mk ((World.cell?_of_block (Below.block (below_alloc (below_alloc (Below.refl w5.heap.size w5) (.cells #[.int .i64 x, .int .i64 c] 81)) (.cells #[.int .i64 x, .int .i64 y] 81)) _ (World.block_lt_of_cell? _ _ HC.out))).trans HC.out)
            have n3_ := Aside0.mk ((Below.block (below_alloc (below_alloc (Below.refl w5.heap.size w5) (.cells #[.int .i64 x, .int .i64 c] 81)) (.cells #[.int .i64 x, .int .i64 y] 81)) _ (blk_lt HK.out)).trans HK.out)
            have n4_ := Aside0.mk (Memo.below HM.out (below_alloc (below_alloc (Below.refl w5.heap.size w5) (.cells #[.int .i64 x, .int .i64 c] 81)) (.cells #[.int .i64 x, .int .i64 y] 81)))
            have n5_ := Aside0.mk (kgrown_below HGR.out (below_alloc (below_alloc (Below.refl w5.heap.size w5) (.cells #[.int .i64 x, .int .i64 c] 81)) (.cells #[.int .i64 x, .int .i64 y] 81)))
            clear HG HF HC HK HM HGR
            have HG := n0_
            have HF := n1_
            have HC := n2_
            have HK := n3_
            have HM := n4_
            have HGR := n5_
            clear n0_ n1_ n2_ n3_ n4_ n5_
            generalize (w5.alloc (.cells #[.int .i64 x, .int .i64 c] 81)).alloc (.cells #[.int .i64 x, .int .i64 y] 81) = w6 at HG HF HC HK HM HGR HA HB ⊢
            generalize w5.heap.size + 1 = b10 at HB HNA ⊢
            generalize w5.heap.size = b9 at HA HNA ⊢
            clear hlt5
            have n0_ := Aside0.mk (blk_drew HG.out)
            have n1_ := Aside0.mk (Kd.F_drew HF.out)
            have n2_ := Aside0.mk (kgrown_cell HC.out (kgrown_drew _ (some mb)) HNE.out.2)
            have n3_ := Aside0.mk (blk_drew HK.out)
            have n4_ := Aside0.mk (Memo.drew HM.out)
            have n5_ := Aside0.mk (kgrown_then HGR.out (kgrown_drew _ (some mb)))
            have n6_ := Aside0.mk (blk_drew HA.out)
            have n7_ := Aside0.mk (blk_drew HB.out)
            clear HG HF HC HK HM HGR HA HB
            have HG := n0_
            have HF := n1_
            have HC := n2_
            have HK := n3_
            have HM := n4_
            have HGR := n5_
            have HA := n6_
            have HB := n7_
            clear n0_ n1_ n2_ n3_ n4_ n5_ n6_ n7_
            refine start_ (n := 11) (S := fun w' => w'.cell? ⟨b9, 0, none⟩ = some (.int .i64 x) ∧ w'.cell? ⟨b9, 1, none⟩ = some (.int .i64 c) ∧ w'.cell? ⟨b10, 0, none⟩ = some (.int .i64 x) ∧ w'.cell? ⟨b10, 1, none⟩ = some (.int .i64 y)) (ds := []) #[false, false, false, false, false, false, false, false, false, false, false] (by kernel_rfl) rfl rfl ⟨(blk_cell HA.out 0).trans rfl, (blk_cell HA.out 1).trans rfl, (blk_cell HB.out 0).trans rfl, (blk_cell HB.out 1).trans rfl⟩ (fun hHeld => ?_)
            generalize w6.drew = w7 at HG HF HC HK HM HGR HA HB hHeld ⊢
            refine pure_ (i := 0) (N := some 46) (v := ?_) (a' := ?_) #[true, false, false, false, false, false, false, false, false, false, false] rfl rfl (by kernel_rfl) (fun _ _ _ h => h) (Or.inl ⟨by rfl, ?_⟩) ?_ ?_
            rotate_left
            · intro w'
              go_simp
              with_reducible rfl
            rotate_left
            · simp only [Act.put, List.setIfInBounds_toArray, List.set_cons_zero, List.set_cons_succ, i64_w, i32_w]
              rfl
            refine pure_ (i := 1) (N := some 47) (v := ?_) (a' := ?_) #[true, true, false, false, false, false, false, false, false, false, false] rfl rfl (by kernel_rfl) (fun _ _ _ h => h) (Or.inl ⟨by rfl, ?_⟩) ?_ ?_
            rotate_left
            · intro w'
              go_simp
              with_reducible rfl
            rotate_left
            · simp only [Act.put, List.setIfInBounds_toArray, List.set_cons_zero, List.set_cons_succ, i64_w, i32_w]
              rfl
            refine pure_ (i := 4) (N := some 50) (v := ?_) (a' := ?_) #[true, true, false, false, true, false, false, false, false, false, false] rfl rfl (by kernel_rfl) (fun _ _ _ h => h) (Or.inl ⟨by rfl, ?_⟩) ?_ ?_
            rotate_left
            · intro w'
              go_simp
              with_reducible rfl
            rotate_left
            · simp only [Act.put, List.setIfInBounds_toArray, List.set_cons_zero, List.set_cons_succ, i64_w, i32_w]
              rfl
            refine take_ (i := 2) (N := some 48) (v := ?_) (a' := ?_) #[true, true, true, false, true, false, false, false, false, false, false] rfl rfl (by kernel_rfl) (fun _ _ _ h => h) (Or.inl ⟨by rfl, ?_⟩) hHeld ?_ ?_
            rotate_left
            · rintro w' ⟨s0, s1, s2, s3⟩
              first | (go_simp; with_reducible rfl) | (simp only [add_plain] at s0 s1 s2 s3; go_simp; with_reducible rfl)
            rotate_left
            · simp only [Act.put, List.setIfInBounds_toArray, List.set_cons_zero, List.set_cons_succ, i64_w, i32_w]
              rfl
            refine take_ (i := 5) (N := some 51) (v := ?_) (a' := ?_) #[true, true, true, false, true, true, false, false, false, false, false] rfl rfl (by kernel_rfl) (fun _ _ _ h => h) (Or.inl ⟨by rfl, ?_⟩) hHeld ?_ ?_
            rotate_left
            · rintro w' ⟨s0, s1, s2, s3⟩
              first | (go_simp; with_reducible rfl) | (simp only [add_plain] at s0 s1 s2 s3; go_simp; with_reducible rfl)
            rotate_left
            · simp only [Act.put, List.setIfInBounds_toArray, List.set_cons_zero, List.set_cons_succ, i64_w, i32_w]
              rfl
            refine one_ (i := 3) (N := some 49) #[true, true, true, true, true, true, false, false, false, false, false] rfl rfl (by kernel_rfl) (by decide) (fun K hK => ?_)
            refine goes_ Try.func79 (by kernel_rfl) rfl #[.pointer (some ⟨gb, 0, none⟩), .agg #[.int .i64 x, .int .i64 c]] (by rfl) rfl rfl (by simp only [List.map_toArray, List.map_cons, List.map_nil]; rfl) ?_
            with_reducible refine (IH.out x c u_ _ _ HX_.out (KW.mk HG.out HF.out HC.out) HM.out (by have := HNC.out; omega)).mono ?_
            rintro e w8 ⟨rfl, hg, hm⟩
            refine ⟨_, rfl, ?_⟩
            have n0_ := Aside0.mk (kgrown_blk HG.out hg HNE.out.1)
            have n1_ := Aside0.mk (Kd.F_grown HF.out hg (fun k_ hk_ e_ => hk_ (by injection e_)))
            have n2_ := Aside0.mk (kgrown_cell HC.out hg HNE.out.2)
            have n3_ := Aside0.mk (kgrown_blk HK.out hg HNK.out)
            have n4_ := Aside0.mk (hm)
            have n5_ := Aside0.mk (kgrown_then HGR.out hg)
            have n6_ := Aside0.mk (kgrown_blk HA.out hg HNA.out.1)
            have n7_ := Aside0.mk (kgrown_blk HB.out hg HNA.out.2)
            clear HG HF HC HK HM HGR HA HB
            have HG := n0_
            have HF := n1_
            have HC := n2_
            have HK := n3_
            have HM := n4_
            have HGR := n5_
            have HA := n6_
            have HB := n7_
            clear n0_ n1_ n2_ n3_ n4_ n5_ n6_ n7_
            clear hg hm
            refine hK.out _ _ ⟨(blk_cell HA.out 0).trans rfl, (blk_cell HA.out 1).trans rfl, (blk_cell HB.out 0).trans rfl, (blk_cell HB.out 1).trans rfl⟩ (fun hHeld => ?_)
            clear hK K
            refine norm_ (a' := ?_) ?_ ?_
            rotate_left
            · show Act.put _ (some 49) _ = _
              simp only [Act.put, List.setIfInBounds_toArray, List.set_cons_zero, List.set_cons_succ, i64_w, i32_w]
              rfl
            refine one_ (i := 6) (N := some 52) #[true, true, true, true, true, true, true, false, false, false, false] rfl rfl (by kernel_rfl) (by decide) (fun K hK => ?_)
            refine goes_ Try.func79 (by kernel_rfl) rfl #[.pointer (some ⟨gb, 0, none⟩), .agg #[.int .i64 x, .int .i64 y]] (by rfl) rfl rfl (by simp only [List.map_toArray, List.map_cons, List.map_nil]; rfl) ?_
            with_reducible refine (IH.out x y v_ _ _ HY_.out (KW.mk HG.out HF.out HC.out) HM.out (by have := HNC.out; omega)).mono ?_
            rintro e w9 ⟨rfl, hg, hm⟩
            refine ⟨_, rfl, ?_⟩
            have n0_ := Aside0.mk (kgrown_blk HG.out hg HNE.out.1)
            have n1_ := Aside0.mk (Kd.F_grown HF.out hg (fun k_ hk_ e_ => hk_ (by injection e_)))
            have n2_ := Aside0.mk (kgrown_cell HC.out hg HNE.out.2)
            have n3_ := Aside0.mk (kgrown_blk HK.out hg HNK.out)
            have n4_ := Aside0.mk (hm)
            have n5_ := Aside0.mk (kgrown_then HGR.out hg)
            have n6_ := Aside0.mk (kgrown_blk HA.out hg HNA.out.1)
            have n7_ := Aside0.mk (kgrown_blk HB.out hg HNA.out.2)
            clear HG HF HC HK HM HGR HA HB
            have HG := n0_
            have HF := n1_
            have HC := n2_
            have HK := n3_
            have HM := n4_
            have HGR := n5_
            have HA := n6_
            have HB := n7_
            clear n0_ n1_ n2_ n3_ n4_ n5_ n6_ n7_
            clear hg hm
            refine hK.out _ _ ⟨(blk_cell HA.out 0).trans rfl, (blk_cell HA.out 1).trans rfl, (blk_cell HB.out 0).trans rfl, (blk_cell HB.out 1).trans rfl⟩ (fun hHeld => ?_)
            clear hK K
            refine norm_ (a' := ?_) ?_ ?_
            rotate_left
            · show Act.put _ (some 52) _ = _
              simp only [Act.put, List.setIfInBounds_toArray, List.set_cons_zero, List.set_cons_succ, i64_w, i32_w]
              rfl
            refine pure_ (i := 7) (N := some 53) (v := ?_) (a' := ?_) #[true, true, true, true, true, true, true, true, false, false, false] rfl rfl (by kernel_rfl) (fun _ _ _ h => h) (Or.inl ⟨by rfl, ?_⟩) ?_ ?_
            rotate_left
            · intro w'
              go_simp
              with_reducible rfl
            rotate_left
            · simp only [Act.put, List.setIfInBounds_toArray, List.set_cons_zero, List.set_cons_succ, i64_w, i32_w]
              rfl
            refine pure_ (i := 8) (N := some 54) (v := ?_) (a' := ?_) #[true, true, true, true, true, true, true, true, true, false, false] rfl rfl (by kernel_rfl) (fun _ _ _ h => h) (Or.inl ⟨by rfl, ?_⟩) ?_ ?_
            rotate_left
            · intro w'
              go_simp
              with_reducible rfl
            rotate_left
            · simp only [Act.put, List.setIfInBounds_toArray, List.set_cons_zero, List.set_cons_succ, i64_w, i32_w]
              rfl
            refine pure_ (i := 9) (N := some 55) (v := ?_) (a' := ?_) #[true, true, true, true, true, true, true, true, true, true, false] rfl rfl (by kernel_rfl) (fun _ _ _ h => h) (Or.inl ⟨by rfl, ?_⟩) ?_ ?_
            rotate_left
            · intro w'
              go_simp
              with_reducible rfl
            rotate_left
            · simp only [Act.put, List.setIfInBounds_toArray, List.set_cons_zero, List.set_cons_succ, i64_w, i32_w]
              rfl
            refine pure_ (i := 10) (N := some 7) (v := ?_) (a' := ?_) #[true, true, true, true, true, true, true, true, true, true, true] rfl rfl (by kernel_rfl) (fun _ _ _ h => h) (Or.inl ⟨by rfl, ?_⟩) ?_ ?_
            rotate_left
            · intro w'
              go_simp
              with_reducible rfl
            rotate_left
            · simp only [Act.put, List.setIfInBounds_toArray, List.set_cons_zero, List.set_cons_succ, i64_w, i32_w]
              rfl
            refine done_ (by kernel_rfl) ?_
            go_wp2
            go_roundw
            case rel => exact ⟨j + 1, t, by go_num, by rw [← HE.out]; rfl, ⟨HJL.out⟩, HT, HK, HGR, ⟨by rw [HNX.out]; exact HM.out⟩⟩
            case measure => have := HJL.out; simp [intOf]; omega
          · rw [if_neg cp] at hnx
            have HE := Aside0.mk (Option.some.inj hnx)
            have cp' : kparts S a c j = false := by simpa using cp
            clear hnx cp
            go_wp2_with (first | (go_at_call 83; (with_reducible refine (impl_knowing_parts.calls S a c j hj8 gb _ _ As cs _ HG.out (Kd.F_now HF.out) HL.out).mono ?_); rintro e w5 ⟨rfl, hb⟩; have n0_ := Aside0.mk ((Below.block hb _ (blk_lt HG.out)).trans HG.out); have n1_ := Aside0.mk (Kd.F_below HF.out hb); have n2_ := Aside0.mk ((World.cell?_of_block (Below.block hb _ (World.block_lt_of_cell? _ _ HC.out))).trans HC.out); have n3_ := Aside0.mk ((Below.block hb _ (blk_lt HK.out)).trans HK.out); have n4_ := Aside0.mk (Memo.below HM.out hb); have n5_ := Aside0.mk (kgrown_below HGR.out hb); clear HG HF HC HK HM HGR; have HG := n0_; have HF := n1_; have HC := n2_; have HK := n3_; have HM := n4_; have HGR := n5_; clear n0_ n1_ n2_ n3_ n4_ n5_; clear hb))
            go_roundw
            case rel => exact ⟨j + 1, t, by go_num, by rw [← HE.out], ⟨HJL.out⟩, HT, ⟨(Below.block (below_alloc (below_alloc (Below.refl w5.heap.size w5) _) _) _ (blk_lt HK.out)).trans HK.out⟩, ⟨kgrown_below HGR.out (below_alloc (below_alloc (Below.refl w5.heap.size w5) _) _)⟩, ⟨(HM.out.below (below_alloc (below_alloc (Below.refl w5.heap.size w5) _) _)).mono (by have := HNX.out; omega)⟩⟩
            case measure => have := HJL.out; simp [intOf]; omega
        · have d0 : decide ((j : Int) < (m : Int)) = false := decide_eq_false (by omega)
          have d1 : decide (j < m) = false := decide_eq_false cj
          have e : j = m := by have := HJ.out; omega
          have hmo := HMO.out
          rw [e, List.take_of_length_le (by simp), HFO.out] at hmo
          obtain rfl : r = most := Option.some.inj hmo
          have hnb : n + 2 * j * kcost k + 1 ≤ n + kcost (k + 1) := by
            have h2 : 2 * j * kcost k ≤ 16 * kcost k := Nat.mul_le_mul_right _ (by omega)
            simp only [kcost]
            omega
          obtain ⟨nj, hnj⟩ : ∃ z, n + 2 * j * kcost k = z := ⟨_, rfl⟩
          rw [hnj] at HM hnb
          have HNB := Aside0.mk (show nj + 1 ≤ n + kcost (k + 1) ∧ n + kcost (k + 1) ≤ 70368744177664 from ⟨hnb, HNB.out⟩)
          clear hmo e cj hnj hnb hm8
          go_wp2
          have n0_ := Aside0.mk (blk_drew HG.out)
          have n1_ := Aside0.mk (Kd.F_drew HF.out)
          have n2_ := Aside0.mk (kgrown_cell HC.out (kgrown_drew _ (some mb)) HNE.out.2)
          have n3_ := Aside0.mk (blk_drew HK.out)
          have n4_ := Aside0.mk (Memo.drew HM.out)
          have n5_ := Aside0.mk (kgrown_then HGR.out (kgrown_drew _ (some mb)))
          clear HG HF HC HK HM HGR
          have HG := n0_
          have HF := n1_
          have HC := n2_
          have HK := n3_
          have HM := n4_
          have HGR := n5_
          clear n0_ n1_ n2_ n3_ n4_ n5_
          refine start_ (n := 7) (S := fun w' => w'.cell? ⟨gb, 2, none⟩ = some (.map (some mb)) ∧ w'.cell? ⟨w.heap.size, 0, none⟩ = some (.int .i64 a) ∧ w'.cell? ⟨w.heap.size, 1, none⟩ = some (.int .i64 c)) (ds := []) #[false, false, false, false, false, false, false] (by kernel_rfl) rfl rfl ⟨(blk_cell HG.out 2).trans rfl, (blk_cell HK.out 0).trans rfl, (blk_cell HK.out 1).trans rfl⟩ (fun hHeld => ?_)
          generalize wr.drew = w10 at HG HF HC HK HM HGR hHeld ⊢
          refine pure_ (i := 0) (N := some 57) (v := ?_) (a' := ?_) #[true, false, false, false, false, false, false] rfl rfl (by kernel_rfl) (fun _ _ _ h => h) (Or.inl ⟨by rfl, ?_⟩) ?_ ?_
          rotate_left
          · intro w'
            go_simp
            with_reducible rfl
          rotate_left
          · simp only [Act.put, List.setIfInBounds_toArray, List.set_cons_zero, List.set_cons_succ, i64_w, i32_w]
            rfl
          refine pure_ (i := 1) (N := some 58) (v := ?_) (a' := ?_) #[true, true, false, false, false, false, false] rfl rfl (by kernel_rfl) (fun _ _ _ h => h) (Or.inl ⟨by rfl, ?_⟩) ?_ ?_
          rotate_left
          · intro w'
            go_simp
            with_reducible rfl
          rotate_left
          · simp only [Act.put, List.setIfInBounds_toArray, List.set_cons_zero, List.set_cons_succ, i64_w, i32_w]
            rfl
          refine pure_ (i := 2) (N := some 59) (v := ?_) (a' := ?_) #[true, true, true, false, false, false, false] rfl rfl (by kernel_rfl) (fun _ _ _ h => h) (Or.inl ⟨by rfl, ?_⟩) ?_ ?_
          rotate_left
          · intro w'
            go_simp
            with_reducible rfl
          rotate_left
          · simp only [Act.put, List.setIfInBounds_toArray, List.set_cons_zero, List.set_cons_succ, i64_w, i32_w]
            rfl
          refine pure_ (i := 5) (N := some 62) (v := ?_) (a' := ?_) #[true, true, true, false, false, true, false] rfl rfl (by kernel_rfl) (fun _ _ _ h => h) (Or.inl ⟨by rfl, ?_⟩) ?_ ?_
          rotate_left
          · intro w'
            go_simp
            with_reducible rfl
          rotate_left
          · simp only [Act.put, List.setIfInBounds_toArray, List.set_cons_zero, List.set_cons_succ, i64_w, i32_w]
            rfl
          refine take_ (i := 3) (N := some 60) (v := ?_) (a' := ?_) #[true, true, true, true, false, true, false] rfl rfl (by kernel_rfl) (fun _ _ _ h => h) (Or.inl ⟨by rfl, ?_⟩) hHeld ?_ ?_
          rotate_left
          · rintro w' ⟨s0, s1, s2⟩
            first | (go_simp; with_reducible rfl) | (simp only [add_plain] at s0 s1 s2; go_simp; with_reducible rfl)
          rotate_left
          · simp only [Act.put, List.setIfInBounds_toArray, List.set_cons_zero, List.set_cons_succ, i64_w, i32_w]
            rfl
          refine take_ (i := 4) (N := some 61) (v := ?_) (a' := ?_) #[true, true, true, true, true, true, false] rfl rfl (by kernel_rfl) (fun _ _ _ h => h) (Or.inl ⟨by rfl, ?_⟩) hHeld ?_ ?_
          rotate_left
          · rintro w' ⟨s0, s1, s2⟩
            first | (go_simp; with_reducible rfl) | (simp only [add_plain] at s0 s1 s2; go_simp; with_reducible rfl)
          rotate_left
          · simp only [Act.put, List.setIfInBounds_toArray, List.set_cons_zero, List.set_cons_succ, i64_w, i32_w]
            rfl
          refine one_ (i := 6) (N := none) #[true, true, true, true, true, true, true] rfl rfl (by kernel_rfl) (by decide) (fun K hK => ?_)
          obtain ⟨w11, hr_, hm_, hg_⟩ := Memo.store HM.out (by have := HNB.out; unfold maxLen; omega) a c r (by have := HAC.out; simp only [Lit.wf, IntKind.min, IntKind.max, IntKind.signed, IntKind.bits, Bool.and_eq_true, decide_eq_true_eq, if_true]; omega) (by have := HAC.out; simp only [Lit.wf, IntKind.min, IntKind.max, IntKind.signed, IntKind.bits, Bool.and_eq_true, decide_eq_true_eq, if_true]; omega) (by have := HRB.out; simp only [Lit.wf, IntKind.min, IntKind.max, IntKind.signed, IntKind.bits, Bool.and_eq_true, decide_eq_true_eq, if_true]; omega) ⟨_, HH.out⟩
          refine skip_ (w1 := w11) (by rfl) rfl ?_ ?_
          · go_simp
            first | done | exact hr_ | (rw [hr_]; rfl) | (simp only [hr_]; rfl)
          have n0_ := Aside0.mk (kgrown_blk HG.out hg_ HNE.out.1)
          have n1_ := Aside0.mk (Kd.F_grown HF.out hg_ (fun k_ hk_ e_ => hk_ (by injection e_)))
          have n2_ := Aside0.mk (kgrown_cell HC.out hg_ HNE.out.2)
          have n3_ := Aside0.mk (kgrown_blk HK.out hg_ HNK.out)
          have n4_ := Aside0.mk (hm_)
          have n5_ := Aside0.mk (kgrown_then HGR.out hg_)
          clear HG HF HC HK HM HGR
          have HG := n0_
          have HF := n1_
          have HC := n2_
          have HK := n3_
          have HM := n4_
          have HGR := n5_
          clear n0_ n1_ n2_ n3_ n4_ n5_
          clear hm_ hg_ hr_
          refine hK.out _ _ ⟨(blk_cell HG.out 2).trans rfl, (blk_cell HK.out 0).trans rfl, (blk_cell HK.out 1).trans rfl⟩ (fun hHeld => ?_)
          clear hK K
          refine done_ (by kernel_rfl) ?_
          go_wp2
          go_ret
          exact ⟨rfl, HGR.out, HM.out.mono (by have := HNB.out; omega)⟩

    · clear h
      have d9 : decide (1 < kleft S a c) = false := decide_eq_false cl
      obtain rfl : 0 = r := (knq_few HH.out cl).symm
      have HRB := Aside0.mk (show (0 : Int) ≤ 0 ∧ (0 : Int) ≤ 99 by decide)
      have hnb : n + 1 ≤ n + kcost (k + 1) := by simp only [kcost]; omega
      have HNB2 := Aside0.mk (And.intro hnb HNB.out)
      clear HNB
      have HNB := HNB2
      clear HNB2 hnb
      go_wp2_with (first | (go_at_call 114; (with_reducible refine (impl_knowing_left.calls S a c gb _ _ As cs _ HG.out (Kd.F_now HF.out) HL.out).mono ?_); rintro e w4 ⟨rfl, hb⟩; have n0_ := Aside0.mk ((Below.block hb _ (blk_lt HG.out)).trans HG.out); have n1_ := Aside0.mk (Kd.F_below HF.out hb); have n2_ := Aside0.mk ((World.cell?_of_block (Below.block hb _ (World.block_lt_of_cell? _ _ HC.out))).trans HC.out); have n3_ := Aside0.mk ((Below.block hb _ (blk_lt HK.out)).trans HK.out); have n4_ := Aside0.mk (Memo.below HM.out hb); have n5_ := Aside0.mk (kgrown_below HGR.out hb); clear HG HF HC HK HM HGR; have HG := n0_; have HF := n1_; have HC := n2_; have HK := n3_; have HM := n4_; have HGR := n5_; clear n0_ n1_ n2_ n3_ n4_ n5_; clear hb hc0 hc1; have hcl := HC.out; have hcg := (blk_cell HG.out 0).trans (show _ = some (Value.slice (some cA) nL cC) from rfl)))
      have n0_ := Aside0.mk (blk_drew HG.out)
      have n1_ := Aside0.mk (Kd.F_drew HF.out)
      have n2_ := Aside0.mk (kgrown_cell HC.out (kgrown_drew _ (some mb)) HNE.out.2)
      have n3_ := Aside0.mk (blk_drew HK.out)
      have n4_ := Aside0.mk (Memo.drew HM.out)
      have n5_ := Aside0.mk (kgrown_then HGR.out (kgrown_drew _ (some mb)))
      clear HG HF HC HK HM HGR
      have HG := n0_
      have HF := n1_
      have HC := n2_
      have HK := n3_
      have HM := n4_
      have HGR := n5_
      clear n0_ n1_ n2_ n3_ n4_ n5_
      refine start_ (n := 7) (S := fun w' => w'.cell? ⟨gb, 2, none⟩ = some (.map (some mb)) ∧ w'.cell? ⟨w.heap.size, 0, none⟩ = some (.int .i64 a) ∧ w'.cell? ⟨w.heap.size, 1, none⟩ = some (.int .i64 c)) (ds := []) #[false, false, false, false, false, false, false] (by kernel_rfl) rfl rfl ⟨(blk_cell HG.out 2).trans rfl, (blk_cell HK.out 0).trans rfl, (blk_cell HK.out 1).trans rfl⟩ (fun hHeld => ?_)
      generalize w4.drew = w10 at HG HF HC HK HM HGR hHeld ⊢
      refine pure_ (i := 0) (N := some 57) (v := ?_) (a' := ?_) #[true, false, false, false, false, false, false] rfl rfl (by kernel_rfl) (fun _ _ _ h => h) (Or.inl ⟨by rfl, ?_⟩) ?_ ?_
      rotate_left
      · intro w'
        go_simp
        with_reducible rfl
      rotate_left
      · simp only [Act.put, List.setIfInBounds_toArray, List.set_cons_zero, List.set_cons_succ, i64_w, i32_w]
        rfl
      refine pure_ (i := 1) (N := some 58) (v := ?_) (a' := ?_) #[true, true, false, false, false, false, false] rfl rfl (by kernel_rfl) (fun _ _ _ h => h) (Or.inl ⟨by rfl, ?_⟩) ?_ ?_
      rotate_left
      · intro w'
        go_simp
        with_reducible rfl
      rotate_left
      · simp only [Act.put, List.setIfInBounds_toArray, List.set_cons_zero, List.set_cons_succ, i64_w, i32_w]
        rfl
      refine pure_ (i := 2) (N := some 59) (v := ?_) (a' := ?_) #[true, true, true, false, false, false, false] rfl rfl (by kernel_rfl) (fun _ _ _ h => h) (Or.inl ⟨by rfl, ?_⟩) ?_ ?_
      rotate_left
      · intro w'
        go_simp
        with_reducible rfl
      rotate_left
      · simp only [Act.put, List.setIfInBounds_toArray, List.set_cons_zero, List.set_cons_succ, i64_w, i32_w]
        rfl
      refine pure_ (i := 5) (N := some 62) (v := ?_) (a' := ?_) #[true, true, true, false, false, true, false] rfl rfl (by kernel_rfl) (fun _ _ _ h => h) (Or.inl ⟨by rfl, ?_⟩) ?_ ?_
      rotate_left
      · intro w'
        go_simp
        with_reducible rfl
      rotate_left
      · simp only [Act.put, List.setIfInBounds_toArray, List.set_cons_zero, List.set_cons_succ, i64_w, i32_w]
        rfl
      refine take_ (i := 3) (N := some 60) (v := ?_) (a' := ?_) #[true, true, true, true, false, true, false] rfl rfl (by kernel_rfl) (fun _ _ _ h => h) (Or.inl ⟨by rfl, ?_⟩) hHeld ?_ ?_
      rotate_left
      · rintro w' ⟨s0, s1, s2⟩
        first | (go_simp; with_reducible rfl) | (simp only [add_plain] at s0 s1 s2; go_simp; with_reducible rfl)
      rotate_left
      · simp only [Act.put, List.setIfInBounds_toArray, List.set_cons_zero, List.set_cons_succ, i64_w, i32_w]
        rfl
      refine take_ (i := 4) (N := some 61) (v := ?_) (a' := ?_) #[true, true, true, true, true, true, false] rfl rfl (by kernel_rfl) (fun _ _ _ h => h) (Or.inl ⟨by rfl, ?_⟩) hHeld ?_ ?_
      rotate_left
      · rintro w' ⟨s0, s1, s2⟩
        first | (go_simp; with_reducible rfl) | (simp only [add_plain] at s0 s1 s2; go_simp; with_reducible rfl)
      rotate_left
      · simp only [Act.put, List.setIfInBounds_toArray, List.set_cons_zero, List.set_cons_succ, i64_w, i32_w]
        rfl
      refine one_ (i := 6) (N := none) #[true, true, true, true, true, true, true] rfl rfl (by kernel_rfl) (by decide) (fun K hK => ?_)
      obtain ⟨w11, hr_, hm_, hg_⟩ := Memo.store HM.out (by have := HNB.out; unfold maxLen; omega) a c 0 (by have := HAC.out; simp only [Lit.wf, IntKind.min, IntKind.max, IntKind.signed, IntKind.bits, Bool.and_eq_true, decide_eq_true_eq, if_true]; omega) (by have := HAC.out; simp only [Lit.wf, IntKind.min, IntKind.max, IntKind.signed, IntKind.bits, Bool.and_eq_true, decide_eq_true_eq, if_true]; omega) (by have := HRB.out; simp only [Lit.wf, IntKind.min, IntKind.max, IntKind.signed, IntKind.bits, Bool.and_eq_true, decide_eq_true_eq, if_true]; omega) ⟨_, HH.out⟩
      refine skip_ (w1 := w11) (by rfl) rfl ?_ ?_
      · go_simp
        first | done | exact hr_ | (rw [hr_]; rfl) | (simp only [hr_]; rfl)
      have n0_ := Aside0.mk (kgrown_blk HG.out hg_ HNE.out.1)
      have n1_ := Aside0.mk (Kd.F_grown HF.out hg_ (fun k_ hk_ e_ => hk_ (by injection e_)))
      have n2_ := Aside0.mk (kgrown_cell HC.out hg_ HNE.out.2)
      have n3_ := Aside0.mk (kgrown_blk HK.out hg_ HNK.out)
      have n4_ := Aside0.mk (hm_)
      have n5_ := Aside0.mk (kgrown_then HGR.out hg_)
      clear HG HF HC HK HM HGR
      have HG := n0_
      have HF := n1_
      have HC := n2_
      have HK := n3_
      have HM := n4_
      have HGR := n5_
      clear n0_ n1_ n2_ n3_ n4_ n5_
      clear hm_ hg_ hr_
      refine hK.out _ _ ⟨(blk_cell HG.out 2).trans rfl, (blk_cell HK.out 0).trans rfl, (blk_cell HK.out 1).trans rfl⟩ (fun hHeld => ?_)
      clear hK K
      refine done_ (by kernel_rfl) ?_
      go_wp2
      go_ret
      exact ⟨rfl, HGR.out, HM.out.mono (by have := HNB.out; omega)⟩

end Go.Proofs.Ytddpdeoflaigeaa.PFnExactFirstQuestion
