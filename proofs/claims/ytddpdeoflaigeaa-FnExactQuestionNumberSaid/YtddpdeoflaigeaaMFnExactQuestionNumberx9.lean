-- Laid for this claim by a program of the session's own (wip/tool/myprint.py).
import Derived.Test.YtddpdeoflaigeaaMFnExactQuestionNumberx0
import Derived.Test.YtddpdeoflaigeaaMFnExactQuestionNumberx1
import Derived.Test.YtddpdeoflaigeaaMFnExactQuestionNumberx6
import Derived.Test.YtddpdeoflaigeaaMFnExactQuestionNumberx7
import Derived.Test.YtddpdeoflaigeaaMFnExactQuestionNumberx8
namespace Go.Proofs.Ytddpdeoflaigeaa.PFnExactQuestionNumber
open Go.RowKit Go.Proofs.YtddpdeoflaigeaaW.PrintWords Go.Proofs.YtddpdeoflaigeaaW.PrintLast Go.Proofs.YtddpdeoflaigeaaW.PrintMore
attribute [local go_sem] max2_int min2_int max_two min_two max_three min_three max_four min_four   -- for this text's walks alone
set_option linter.unusedVariables false
set_option linter.unusedSimpArgs false

/-! ### impl_knowing_questions: function 79 -/
theorem knq_big {S : List Int} {m k : Nat} {a c r : Int} (h : knq true S m (k + 1) a c = some r) (cl : kleft S a c > 1) : (List.range m).foldlM (kstep true S (knq true S m k) a c) 8 = some r ∧ 0 ≤ r ∧ r ≤ 99 := by
  unfold knq at h
  by_cases c1 : (0 ≤ a ∧ a < 256) ∧ (0 ≤ c ∧ c < 256)
  · rw [if_pos c1, if_neg (fun h_ => h_.2 cl), if_pos rfl] at h
    obtain ⟨r', hf, h⟩ := Option.bind_eq_some_iff.mp h
    by_cases c2 : 0 ≤ r' ∧ r' ≤ 99
    · rw [if_pos c2] at h
      obtain rfl : r = r' := (Option.some.inj h).symm
      exact ⟨hf, c2⟩
    · rw [if_neg c2] at h; cases h
  · rw [if_neg c1] at h; cases h
theorem knq_few {S : List Int} {m k : Nat} {a c r : Int} (h : knq true S m (k + 1) a c = some r) (cl : ¬ kleft S a c > 1) : r = 0 := by
  unfold knq at h
  by_cases c1 : (0 ≤ a ∧ a < 256) ∧ (0 ≤ c ∧ c < 256)
  · rw [if_pos c1, if_pos (And.intro rfl cl)] at h
    exact (Option.some.inj h).symm
  · rw [if_neg c1] at h; cases h
set_option maxHeartbeats 8000000 in
set_option maxRecDepth 100000 in
theorem impl_knowing_questions.calls (S : List Int) (m gb mb : Nat) (cA : Addr) (nL cC : Nat) (Ah : Option Addr) (ch : Nat) (As : Option Addr) (cs : Nat) (hm : m ≤ 8) (hgm : gb ≠ mb) (hcm : cA.block ≠ mb) (hl : S.length ≤ 1048576) (h0 : 0 < nL) :
    ∀ (k : Nat) (a c r : Int) (w : World) (n : Nat), knq true S m k a c = some r → KW S m gb mb cA nL cC Ah ch As cs w → Memo (fun a c v => ∃ j, knq true S m j a c = some v) w mb n → n + kcost k ≤ 70368744177664 →
      Calls Try.prog 79 #[.pointer (some ⟨gb, 0, none⟩), .agg #[.int .i64 a, .int .i64 c]] w fun e w' => e = .returned (.int .i64 r) ∧ w.grownBy w' (some mb) ∧ Memo (fun a c v => ∃ j, knq true S m j a c = some v) w' mb (n + kcost k) := by
  intro k
  induction k with
  | zero => intro a c r w n h; cases h
  | succ k ih =>
    intro a c r w n h hKW hM hn
    have IH := Aside0.mk ih
    have HKW := Aside0.mk hKW
    have HH := Aside0.mk h
    have HNB := Aside0.mk hn
    have HNE := Aside0.mk (And.intro hgm hcm)
    have HM8 := Aside0.mk hm
    have HL := Aside0.mk hl
    have hmb : mb < w.heap.size := by obtain ⟨D, h1, _⟩ := hM; exact h1.lt
    have HMB := Aside0.mk hmb
    have HNK := Aside0.mk (show w.heap.size ≠ mb by omega)
    unfold knq at h
    have hac : (0 ≤ a ∧ a < 256) ∧ (0 ≤ c ∧ c < 256) := by
      refine Classical.byContradiction fun hn_ => ?_
      rw [if_neg hn_] at h; cases h
    rw [if_pos hac] at h
    have HAC := Aside0.mk hac
    obtain ⟨v, b, hlk, hlv⟩ := hM.look a c (by simp only [Lit.wf, IntKind.min, IntKind.max, IntKind.signed, IntKind.bits, Bool.and_eq_true, decide_eq_true_eq, if_true]; omega) (by simp only [Lit.wf, IntKind.min, IntKind.max, IntKind.signed, IntKind.bits, Bool.and_eq_true, decide_eq_true_eq, if_true]; omega)
    have HLK := Aside0.mk (show ∀ w1 : World, w1.heap = (w.alloc (.cells #[.int .i64 a, .int .i64 c] 81)).heap → (Instr.lookup 101 (.map (some mb)) (.agg #[.int .i64 a, .int .i64 c]) true).run Try.prog w1 = .ok (.tuple #[.int .i64 v, .bool b]) w1 from fun w1 e => hlk w1 (by rw [e]; exact (below_alloc (Below.refl w.heap.size w) _).block mb hmb))
    have HLV := Aside0.mk hlv
    have hnl : decide ((0 : Int) < (nL : Int)) = true := decide_eq_true (by omega)
    have hnl2 : (0 < nL) = True := eq_true h0
    have HG := Aside0.mk (blk_alloc hKW.1 (.cells #[.int .i64 a, .int .i64 c] 81))
    have HF := Aside0.mk (Kd.F_alloc hKW.2.1 (.cells #[.int .i64 a, .int .i64 c] 81))
    have HC := Aside0.mk ((World.cell?_of_block ((below_alloc (Below.refl w.heap.size w) (.cells #[.int .i64 a, .int .i64 c] 81)).block _ (World.block_lt_of_cell? _ _ hKW.2.2))).trans hKW.2.2)
    have HK := Aside0.mk (blk_new w (.cells #[.int .i64 a, .int .i64 c] 81))
    have HM := Aside0.mk (hM.below (below_alloc (Below.refl w.heap.size w) (.cells #[.int .i64 a, .int .i64 c] 81)))
    have HGR := Aside0.mk (World.grownBy_alloc w (.cells #[.int .i64 a, .int .i64 c] 81) (some mb))
    clear hKW hn hlk hlv hgm hcm hm hl hac hmb; (try clear hM)
    have H := Aside0.mk h
    clear h
    go_enter Try.func79, Try.ntmps79
    go_wp2
    have n0_ := Aside0.mk (blk_drew HG.out)
    have n1_ := Aside0.mk (Kd.F_drew HF.out)
    have n2_ := Aside0.mk (kgrown_cell HC.out (kgrown_drew _ (some mb)) HNE.out.2)
    have n3_ := Aside0.mk (blk_drew HK.out)
    have n4_ := Aside0.mk (Memo.drew HM.out)
    have n5_ := Aside0.mk (kgrown_then HGR.out (kgrown_drew _ (some mb)))
    clear HG HF HC HK HM HGR
    have HG := n0_
    have HF := n1_
    have HC := n2_
    have HK := n3_
    have HM := n4_
    have HGR := n5_
    clear n0_ n1_ n2_ n3_ n4_ n5_
    refine start_ (n := 11) (S := fun w' => w'.cell? ⟨gb, 2, none⟩ = some (.map (some mb)) ∧ w'.cell? ⟨w.heap.size, 0, none⟩ = some (.int .i64 a) ∧ w'.cell? ⟨w.heap.size, 1, none⟩ = some (.int .i64 c) ∧ (Instr.lookup 101 (.map (some mb)) (.agg #[.int .i64 a, .int .i64 c]) true).run Try.prog w' = .ok (.tuple #[.int .i64 v, .bool b]) w') (ds := []) #[false, false, false, false, false, false, false, false, false, false, false] (by kernel_rfl) rfl rfl ⟨(blk_cell HG.out 2).trans rfl, (blk_cell HK.out 0).trans rfl, (blk_cell HK.out 1).trans rfl, HLK.out _ rfl⟩ (fun hHeld => ?_)
    generalize hw_ : (w.alloc (.cells #[.int .i64 a, .int .i64 c] 81)).drew = w3 at HG HF HC HK HM HGR hHeld ⊢
    refine pure_ (i := 0) (N := some 13) (v := ?_) (a' := ?_) #[true, false, false, false, false, false, false, false, false, false, false] rfl rfl (by kernel_rfl) (fun _ _ _ h => h) (Or.inl ⟨by rfl, ?_⟩) ?_ ?_
    rotate_left
    · intro w'
      go_simp
      with_reducible rfl
    rotate_left
    · simp only [Act.put, List.setIfInBounds_toArray, List.set_cons_zero, List.set_cons_succ, i64_w, i32_w]
      rfl
    refine pure_ (i := 1) (N := some 14) (v := ?_) (a' := ?_) #[true, true, false, false, false, false, false, false, false, false, false] rfl rfl (by kernel_rfl) (fun _ _ _ h => h) (Or.inl ⟨by rfl, ?_⟩) ?_ ?_
    rotate_left
    · intro w'
      go_simp
      with_reducible rfl
    rotate_left
    · simp only [Act.put, List.setIfInBounds_toArray, List.set_cons_zero, List.set_cons_succ, i64_w, i32_w]
      rfl
    refine pure_ (i := 2) (N := some 15) (v := ?_) (a' := ?_) #[true, true, true, false, false, false, false, false, false, false, false] rfl rfl (by kernel_rfl) (fun _ _ _ h => h) (Or.inl ⟨by rfl, ?_⟩) ?_ ?_
    rotate_left
    · intro w'
      go_simp
      with_reducible rfl
    rotate_left
    · simp only [Act.put, List.setIfInBounds_toArray, List.set_cons_zero, List.set_cons_succ, i64_w, i32_w]
      rfl
    refine take_ (i := 3) (N := some 16) (v := ?_) (a' := ?_) #[true, true, true, true, false, false, false, false, false, false, false] rfl rfl (by kernel_rfl) (fun _ _ _ h => h) (Or.inl ⟨by rfl, ?_⟩) hHeld ?_ ?_
    rotate_left
    · rintro w' ⟨s0, s1, s2, s3⟩
      first | (go_simp; with_reducible rfl) | (simp only [add_plain] at s0 s1 s2 s3; go_simp; with_reducible rfl)
    rotate_left
    · simp only [Act.put, List.setIfInBounds_toArray, List.set_cons_zero, List.set_cons_succ, i64_w, i32_w]
      rfl
    refine take_ (i := 4) (N := some 17) (v := ?_) (a' := ?_) #[true, true, true, true, true, false, false, false, false, false, false] rfl rfl (by kernel_rfl) (fun _ _ _ h => h) (Or.inl ⟨by rfl, ?_⟩) hHeld ?_ ?_
    rotate_left
    · rintro w' ⟨s0, s1, s2, s3⟩
      first | (go_simp; with_reducible rfl) | (simp only [add_plain] at s0 s1 s2 s3; go_simp; with_reducible rfl)
    rotate_left
    · simp only [Act.put, List.setIfInBounds_toArray, List.set_cons_zero, List.set_cons_succ, i64_w, i32_w]
      rfl
    refine take_ (i := 5) (N := some 18) (v := ?_) (a' := ?_) #[true, true, true, true, true, true, false, false, false, false, false] rfl rfl (by kernel_rfl) (fun _ _ _ h => h) (Or.inl ⟨by rfl, ?_⟩) hHeld ?_ ?_
    rotate_left
    · rintro w' ⟨s0, s1, s2, s3⟩
      first | (go_simp; with_reducible rfl) | (simp only [add_plain] at s0 s1 s2 s3; go_simp; with_reducible rfl)
    rotate_left
    · simp only [Act.put, List.setIfInBounds_toArray, List.set_cons_zero, List.set_cons_succ, i64_w, i32_w]
      rfl
    refine pure_ (i := 6) (N := some 12) (v := ?_) (a' := ?_) #[true, true, true, true, true, true, true, false, false, false, false] rfl rfl (by kernel_rfl) (fun _ _ _ h => h) (Or.inl ⟨by rfl, ?_⟩) ?_ ?_
    rotate_left
    · intro w'
      go_simp
      with_reducible rfl
    rotate_left
    · simp only [Act.put, List.setIfInBounds_toArray, List.set_cons_zero, List.set_cons_succ, i64_w, i32_w]
      rfl
    refine pure_ (i := 7) (N := some 19) (v := ?_) (a' := ?_) #[true, true, true, true, true, true, true, true, false, false, false] rfl rfl (by kernel_rfl) (fun _ _ _ h => h) (Or.inl ⟨by rfl, ?_⟩) ?_ ?_
    rotate_left
    · intro w'
      go_simp
      with_reducible rfl
    rotate_left
    · simp only [Act.put, List.setIfInBounds_toArray, List.set_cons_zero, List.set_cons_succ, i64_w, i32_w]
      rfl
    refine pure_ (i := 8) (N := some 20) (v := ?_) (a' := ?_) #[true, true, true, true, true, true, true, true, true, false, false] rfl rfl (by kernel_rfl) (fun _ _ _ h => h) (Or.inl ⟨by rfl, ?_⟩) ?_ ?_
    rotate_left
    · intro w'
      go_simp
      with_reducible rfl
    rotate_left
    · simp only [Act.put, List.setIfInBounds_toArray, List.set_cons_zero, List.set_cons_succ, i64_w, i32_w]
      rfl
    refine pure_ (i := 9) (N := some 5) (v := ?_) (a' := ?_) #[true, true, true, true, true, true, true, true, true, true, false] rfl rfl (by kernel_rfl) (fun _ _ _ h => h) (Or.inl ⟨by rfl, ?_⟩) ?_ ?_
    rotate_left
    · intro w'
      go_simp
      with_reducible rfl
    rotate_left
    · simp only [Act.put, List.setIfInBounds_toArray, List.set_cons_zero, List.set_cons_succ, i64_w, i32_w]
      rfl
    refine pure_ (i := 10) (N := some 6) (v := ?_) (a' := ?_) #[true, true, true, true, true, true, true, true, true, true, true] rfl rfl (by kernel_rfl) (fun _ _ _ h => h) (Or.inl ⟨by rfl, ?_⟩) ?_ ?_
    rotate_left
    · intro w'
      go_simp
      with_reducible rfl
    rotate_left
    · simp only [Act.put, List.setIfInBounds_toArray, List.set_cons_zero, List.set_cons_succ, i64_w, i32_w]
      rfl
    refine done_ (by kernel_rfl) ?_
    clear hHeld
    cases b with
    | true =>
      obtain ⟨j, hj⟩ := HLV.out rfl
      have e := knq_det hj HH.out
      subst e
      go_wp2
      go_ret
      exact ⟨rfl, HGR.out, HM.out.mono (Nat.le_add_right _ _)⟩
    | false =>
    have h := H.out
    clear H
    have hc0 := (blk_cell HK.out 0).trans (show _ = some (Value.int .i64 a) from rfl)
    have hc1 := (blk_cell HK.out 1).trans (show _ = some (Value.int .i64 c) from rfl)
    by_cases cl : kleft S a c > 1
    · clear h
      have d9 : decide (1 < kleft S a c) = true := decide_eq_true cl
      obtain ⟨hf, hrb⟩ := knq_big HH.out cl
      have HFO := Aside0.mk hf
      have HRB := Aside0.mk hrb
      clear hf hrb
      go_wp2_with (first | (go_at_call 114; (with_reducible refine (impl_knowing_left.calls S a c gb _ _ As cs _ HG.out (Kd.F_now HF.out) HL.out).mono ?_); rintro e w4 ⟨rfl, hb⟩; have n0_ := Aside0.mk ((Below.block hb _ (blk_lt HG.out)).trans HG.out); have n1_ := Aside0.mk (Kd.F_below HF.out hb); have n2_ := Aside0.mk ((World.cell?_of_block (Below.block hb _ (World.block_lt_of_cell? _ _ HC.out))).trans HC.out); have n3_ := Aside0.mk ((Below.block hb _ (blk_lt HK.out)).trans HK.out); have n4_ := Aside0.mk (Memo.below HM.out hb); have n5_ := Aside0.mk (kgrown_below HGR.out hb); clear HG HF HC HK HM HGR; have HG := n0_; have HF := n1_; have HC := n2_; have HK := n3_; have HM := n4_; have HGR := n5_; clear n0_ n1_ n2_ n3_ n4_ n5_; clear hb hc0 hc1; have hcl := HC.out; have hcg := (blk_cell HG.out 0).trans (show _ = some (Value.slice (some cA) nL cC) from rfl)))
      go_loopw [7, 34] (fun v7 v34 w' => ∃ (j : Nat) (most : Int), v34 = .int .i64 (j : Int) ∧ v7 = .int .i64 most ∧ Aside0 (j ≤ m) ∧ Aside0 (((List.range m).take j).foldlM (kstep true S (knq true S m k) a c) 8 = some most) ∧ Aside0 (w'.heap[w.heap.size]? = some (.cells #[.int .i64 a, .int .i64 c] 81 (0, 0))) ∧ Aside0 (w.grownBy w' (some mb)) ∧ Aside0 (Memo (fun a c v => ∃ j, knq true S m j a c = some v) w' mb (n + 2 * j * kcost k))) (fun _ v34 _ => m - (intOf v34).toNat)
      case atStart => exact ⟨0, _, rfl, rfl, ⟨Nat.zero_le _⟩, ⟨by rw [List.take_zero]; rfl⟩, HK, HGR, ⟨HM.out.mono (by omega)⟩⟩
      case round =>
        clear HG HF HC HK HM HGR
        obtain ⟨j, most, rfl, rfl, HJ, HMO, HK, HGR, HM⟩ := hrel
        have HG := Aside0.mk (kgrown_blk HKW.out.1 HGR.out HNE.out.1)
        have HF := Aside0.mk (Kd.F_grown HKW.out.2.1 HGR.out (fun k_ hk_ e_ => hk_ (by injection e_)))
        have HC := Aside0.mk (kgrown_cell HKW.out.2.2 HGR.out HNE.out.2)
        have hm8 := HM8.out
        by_cases cj : j < m
        · have d0 : decide ((j : Int) < (m : Int)) = true := decide_eq_true (by omega)
          have d1 : decide (j < m) = true := decide_eq_true cj
          have hj8 : j < 8 := by omega
          have hjb : (j : Int) ≤ 8 := by omega
          have h0j : (0 : Int) ≤ (j : Int) := by omega
          have hc0 := (blk_cell HK.out 0).trans (show _ = some (Value.int .i64 a) from rfl)
          have hc1 := (blk_cell HK.out 1).trans (show _ = some (Value.int .i64 c) from rfl)
          obtain ⟨t, ht⟩ := kfold_pre _ _ (j + 1) _ _ HFO.out
          have hnx := ht
          rw [kfold_take _ _ j j _ (by rw [List.getElem?_range cj]), HMO.out, Option.bind_some] at hnx
          unfold kstep at hnx
          have HT := Aside0.mk ht
          have HJL := Aside0.mk cj
          have HNC := Aside0.mk (show n + 2 * j * kcost k + kcost k + kcost k ≤ 70368744177664 by
            have h1 := HNB.out
            have h2 : (2 * j + 2) * kcost k ≤ 16 * kcost k := Nat.mul_le_mul_right _ (by omega)
            rw [Nat.add_mul] at h2
            simp only [kcost] at h1
            omega)
          have HNX := Aside0.mk (show n + 2 * (j + 1) * kcost k = n + 2 * j * kcost k + kcost k + kcost k by rw [show 2 * (j + 1) = 2 * j + 2 by omega, Nat.add_mul]; omega)
          clear ht cj hm8
          obtain ⟨x, hx⟩ : ∃ x, kadd a j = x := ⟨_, rfl⟩
          obtain ⟨y, hy⟩ : ∃ y, kadd c j = y := ⟨_, rfl⟩
          by_cases cp : kparts S a c j = true
          · rw [if_pos cp] at hnx
            obtain ⟨u_, hu_, hnx⟩ := Option.bind_eq_some_iff.mp hnx
            obtain ⟨v_, hv_, hnx⟩ := Option.bind_eq_some_iff.mp hnx
            rw [hx] at hu_ hv_
            rw [hy] at hv_
            have HX_ := Aside0.mk hu_
            have HY_ := Aside0.mk hv_
            have HE := Aside0.mk (Option.some.inj hnx)
            clear hnx hu_ hv_
            go_wp2_with (first | (go_at_call 83; (with_reducible refine (impl_knowing_parts.calls S a c j hj8 gb _ _ As cs _ HG.out (Kd.F_now HF.out) HL.out).mono ?_); rintro e w5 ⟨rfl, hb⟩; have n0_ := Aside0.mk ((Below.block hb _ (blk_lt HG.out)).trans HG.out); have n1_ := Aside0.mk (Kd.F_below HF.out hb); have n2_ := Aside0.mk ((World.cell?_of_block (Below.block hb _ (World.block_lt_of_cell? _ _ HC.out))).trans HC.out); have n3_ := Aside0.mk ((Below.block hb _ (blk_lt HK.out)).trans HK.out); have n4_ := Aside0.mk (Memo.below HM.out hb); have n5_ := Aside0.mk (kgrown_below HGR.out hb); clear HG HF HC HK HM HGR; have HG := n0_; have HF := n1_; have HC := n2_; have HK := n3_; have HM := n4_; have HGR := n5_; clear n0_ n1_ n2_ n3_ n4_ n5_; clear hb))
            have HA := Aside0.mk (blk_alloc (blk_new w5 (.cells #[.int .i64 x, .int .i64 c] 81)) (.cells #[.int .i64 x, .int .i64 y] 81))
            have HB := Aside0.mk (show ((w5.alloc (.cells #[.int .i64 x, .int .i64 c] 81)).alloc (.cells #[.int .i64 x, .int .i64 y] 81)).heap[w5.heap.size + 1]? = some (.cells #[.int .i64 x, .int .i64 y] 81 (0, 0)) by simpa using blk_new (w5.alloc (.cells #[.int .i64 x, .int .i64 c] 81)) (.cells #[.int .i64 x, .int .i64 y] 81))
            have hlt5 : mb < w5.heap.size := Nat.lt_of_lt_of_le HMB.out HGR.out.size
            have HNA := Aside0.mk (And.intro (show w5.heap.size ≠ mb by omega) (show w5.heap.size + 1 ≠ mb by omega))
            have n0_ := Aside0.mk ((Below.block (below_alloc (below_alloc (Below.refl w5.heap.size w5) (.cells #[.int .i64 x, .int .i64 c] 81)) (.cells #[.int .i64 x, .int .i64 y] 81)) _ (blk_lt HG.out)).trans HG.out)
            have n1_ := Aside0.mk (Kd.F_below HF.out (below_alloc (below_alloc (Below.refl w5.heap.size w5) (.cells #[.int .i64 x, .int .i64 c] 81)) (.cells #[.int .i64 x, .int .i64 y] 81)))
            have n2_ := Aside0.mk ((World.cell?_of_block (Below.block (below_alloc (below_alloc (Below.refl w5.heap.size w5) (.cells #[.int .i64 x, .int .i64 c] 81)) (.cells #[.int .i64 x, .int .i64 y] 81)) _ (World.block_lt_of_cell? _ _ HC.out))).trans HC.out)
            have n3_ := Aside0.mk ((Below.block (below_alloc (below_alloc (Below.refl w5.heap.size w5) (.cells #[.int .i64 x, .int .i64 c] 81)) (.cells #[.int .i64 x, .int .i64 y] 81)) _ (blk_lt HK.out)).trans HK.out)
            have n4_ := Aside0.mk (Memo.below HM.out (below_alloc (below_alloc (Below.refl w5.heap.size w5) (.cells #[.int .i64 x, .int .i64 c] 81)) (.cells #[.int .i64 x, .int .i64 y] 81)))
            have n5_ := Aside0.mk (kgrown_below HGR.out (below_alloc (below_alloc (Below.refl w5.heap.size w5) (.cells #[.int .i64 x, .int .i64 c] 81)) (.cells #[.int .i64 x, .int .i64 y] 81)))
            clear HG HF HC HK HM HGR
            have HG := n0_
            have HF := n1_
            have HC := n2_
            have HK := n3_
            have HM := n4_
            have HGR := n5_
            clear n0_ n1_ n2_ n3_ n4_ n5_
            generalize (w5.alloc (.cells #[.int .i64 x, .int .i64 c] 81)).alloc (.cells #[.int .i64 x, .int .i64 y] 81) = w6 at HG HF HC HK HM HGR HA HB ⊢
            generalize w5.heap.size + 1 = b10 at HB HNA ⊢
            generalize w5.heap.size = b9 at HA HNA ⊢
            clear hlt5
            have n0_ := Aside0.mk (blk_drew HG.out)
            have n1_ := Aside0.mk (Kd.F_drew HF.out)
            have n2_ := Aside0.mk (kgrown_cell HC.out (kgrown_drew _ (some mb)) HNE.out.2)
            have n3_ := Aside0.mk (blk_drew HK.out)
            have n4_ := Aside0.mk (Memo.drew HM.out)
            have n5_ := Aside0.mk (kgrown_then HGR.out (kgrown_drew _ (some mb)))
            have n6_ := Aside0.mk (blk_drew HA.out)
            have n7_ := Aside0.mk (blk_drew HB.out)
            clear HG HF HC HK HM HGR HA HB
            have HG := n0_
            have HF := n1_
            have HC := n2_
            have HK := n3_
            have HM := n4_
            have HGR := n5_
            have HA := n6_
            have HB := n7_
            clear n0_ n1_ n2_ n3_ n4_ n5_ n6_ n7_
            refine start_ (n := 11) (S := fun w' => w'.cell? ⟨b9, 0, none⟩ = some (.int .i64 x) ∧ w'.cell? ⟨b9, 1, none⟩ = some (.int .i64 c) ∧ w'.cell? ⟨b10, 0, none⟩ = some (.int .i64 x) ∧ w'.cell? ⟨b10, 1, none⟩ = some (.int .i64 y)) (ds := []) #[false, false, false, false, false, false, false, false, false, false, false] (by kernel_rfl) rfl rfl ⟨(blk_cell HA.out 0).trans rfl, (blk_cell HA.out 1).trans rfl, (blk_cell HB.out 0).trans rfl, (blk_cell HB.out 1).trans rfl⟩ (fun hHeld => ?_)
            generalize w6.drew = w7 at HG HF HC HK HM HGR HA HB hHeld ⊢
            refine pure_ (i := 0) (N := some 46) (v := ?_) (a' := ?_) #[true, false, false, false, false, false, false, false, false, false, false] rfl rfl (by kernel_rfl) (fun _ _ _ h => h) (Or.inl ⟨by rfl, ?_⟩) ?_ ?_
            rotate_left
            · intro w'
              go_simp
              with_reducible rfl
            rotate_left
            · simp only [Act.put, List.setIfInBounds_toArray, List.set_cons_zero, List.set_cons_succ, i64_w, i32_w]
              rfl
            refine pure_ (i := 1) (N := some 47) (v := ?_) (a' := ?_) #[true, true, false, false, false, false, false, false, false, false, false] rfl rfl (by kernel_rfl) (fun _ _ _ h => h) (Or.inl ⟨by rfl, ?_⟩) ?_ ?_
            rotate_left
            · intro w'
              go_simp
              with_reducible rfl
            rotate_left
            · simp only [Act.put, List.setIfInBounds_toArray, List.set_cons_zero, List.set_cons_succ, i64_w, i32_w]
              rfl
            refine pure_ (i := 4) (N := some 50) (v := ?_) (a' := ?_) #[true, true, false, false, true, false, false, false, false, false, false] rfl rfl (by kernel_rfl) (fun _ _ _ h => h) (Or.inl ⟨by rfl, ?_⟩) ?_ ?_
            rotate_left
            · intro w'
              go_simp
              with_reducible rfl
            rotate_left
            · simp only [Act.put, List.setIfInBounds_toArray, List.set_cons_zero, List.set_cons_succ, i64_w, i32_w]
              rfl
            refine take_ (i := 2) (N := some 48) (v := ?_) (a' := ?_) #[true, true, true, false, true, false, false, false, false, false, false] rfl rfl (by kernel_rfl) (fun _ _ _ h => h) (Or.inl ⟨by rfl, ?_⟩) hHeld ?_ ?_
            rotate_left
            · rintro w' ⟨s0, s1, s2, s3⟩
              first | (go_simp; with_reducible rfl) | (simp only [add_plain] at s0 s1 s2 s3; go_simp; with_reducible rfl)
            rotate_left
            · simp only [Act.put, List.setIfInBounds_toArray, List.set_cons_zero, List.set_cons_succ, i64_w, i32_w]
              rfl
            refine take_ (i := 5) (N := some 51) (v := ?_) (a' := ?_) #[true, true, true, false, true, true, false, false, false, false, false] rfl rfl (by kernel_rfl) (fun _ _ _ h => h) (Or.inl ⟨by rfl, ?_⟩) hHeld ?_ ?_
            rotate_left
            · rintro w' ⟨s0, s1, s2, s3⟩
              first | (go_simp; with_reducible rfl) | (simp only [add_plain] at s0 s1 s2 s3; go_simp; with_reducible rfl)
            rotate_left
            · simp only [Act.put, List.setIfInBounds_toArray, List.set_cons_zero, List.set_cons_succ, i64_w, i32_w]
              rfl
            refine one_ (i := 3) (N := some 49) #[true, true, true, true, true, true, false, false, false, false, false] rfl rfl (by kernel_rfl) (by decide) (fun K hK => ?_)
            refine goes_ Try.func79 (by kernel_rfl) rfl #[.pointer (some ⟨gb, 0, none⟩), .agg #[.int .i64 x, .int .i64 c]] (by rfl) rfl rfl (by simp only [List.map_toArray, List.map_cons, List.map_nil]; rfl) ?_
            with_reducible refine (IH.out x c u_ _ _ HX_.out (KW.mk HG.out HF.out HC.out) HM.out (by have := HNC.out; omega)).mono ?_
            rintro e w8 ⟨rfl, hg, hm⟩
            refine ⟨_, rfl, ?_⟩
            have n0_ := Aside0.mk (kgrown_blk HG.out hg HNE.out.1)
            have n1_ := Aside0.mk (Kd.F_grown HF.out hg (fun k_ hk_ e_ => hk_ (by injection e_)))
            have n2_ := Aside0.mk (kgrown_cell HC.out hg HNE.out.2)
            have n3_ := Aside0.mk (kgrown_blk HK.out hg HNK.out)
            have n4_ := Aside0.mk (hm)
            have n5_ := Aside0.mk (kgrown_then HGR.out hg)
            have n6_ := Aside0.mk (kgrown_blk HA.out hg HNA.out.1)
            have n7_ := Aside0.mk (kgrown_blk HB.out hg HNA.out.2)
            clear HG HF HC HK HM HGR HA HB
            have HG := n0_
            have HF := n1_
            have HC := n2_
            have HK := n3_
            have HM := n4_
            have HGR := n5_
            have HA := n6_
            have HB := n7_
            clear n0_ n1_ n2_ n3_ n4_ n5_ n6_ n7_
            clear hg hm
            refine hK.out _ _ ⟨(blk_cell HA.out 0).trans rfl, (blk_cell HA.out 1).trans rfl, (blk_cell HB.out 0).trans rfl, (blk_cell HB.out 1).trans rfl⟩ (fun hHeld => ?_)
            clear hK K
            refine norm_ (a' := ?_) ?_ ?_
            rotate_left
            · show Act.put _ (some 49) _ = _
              simp only [Act.put, List.setIfInBounds_toArray, List.set_cons_zero, List.set_cons_succ, i64_w, i32_w]
              rfl
            refine one_ (i := 6) (N := some 52) #[true, true, true, true, true, true, true, false, false, false, false] rfl rfl (by kernel_rfl) (by decide) (fun K hK => ?_)
            refine goes_ Try.func79 (by kernel_rfl) rfl #[.pointer (some ⟨gb, 0, none⟩), .agg #[.int .i64 x, .int .i64 y]] (by rfl) rfl rfl (by simp only [List.map_toArray, List.map_cons, List.map_nil]; rfl) ?_
            with_reducible refine (IH.out x y v_ _ _ HY_.out (KW.mk HG.out HF.out HC.out) HM.out (by have := HNC.out; omega)).mono ?_
            rintro e w9 ⟨rfl, hg, hm⟩
            refine ⟨_, rfl, ?_⟩
            have n0_ := Aside0.mk (kgrown_blk HG.out hg HNE.out.1)
            have n1_ := Aside0.mk (Kd.F_grown HF.out hg (fun k_ hk_ e_ => hk_ (by injection e_)))
            have n2_ := Aside0.mk (kgrown_cell HC.out hg HNE.out.2)
            have n3_ := Aside0.mk (kgrown_blk HK.out hg HNK.out)
            have n4_ := Aside0.mk (hm)
            have n5_ := Aside0.mk (kgrown_then HGR.out hg)
            have n6_ := Aside0.mk (kgrown_blk HA.out hg HNA.out.1)
            have n7_ := Aside0.mk (kgrown_blk HB.out hg HNA.out.2)
            clear HG HF HC HK HM HGR HA HB
            have HG := n0_
            have HF := n1_
            have HC := n2_
            have HK := n3_
            have HM := n4_
            have HGR := n5_
            have HA := n6_
            have HB := n7_
            clear n0_ n1_ n2_ n3_ n4_ n5_ n6_ n7_
            clear hg hm
            refine hK.out _ _ ⟨(blk_cell HA.out 0).trans rfl, (blk_cell HA.out 1).trans rfl, (blk_cell HB.out 0).trans rfl, (blk_cell HB.out 1).trans rfl⟩ (fun hHeld => ?_)
            clear hK K
            refine norm_ (a' := ?_) ?_ ?_
            rotate_left
            · show Act.put _ (some 52) _ = _
              simp only [Act.put, List.setIfInBounds_toArray, List.set_cons_zero, List.set_cons_succ, i64_w, i32_w]
              rfl
            refine pure_ (i := 7) (N := some 53) (v := ?_) (a' := ?_) #[true, true, true, true, true, true, true, true, false, false, false] rfl rfl (by kernel_rfl) (fun _ _ _ h => h) (Or.inl ⟨by rfl, ?_⟩) ?_ ?_
            rotate_left
            · intro w'
              go_simp
              with_reducible rfl
            rotate_left
            · simp only [Act.put, List.setIfInBounds_toArray, List.set_cons_zero, List.set_cons_succ, i64_w, i32_w]
              rfl
            refine pure_ (i := 8) (N := some 54) (v := ?_) (a' := ?_) #[true, true, true, true, true, true, true, true, true, false, false] rfl rfl (by kernel_rfl) (fun _ _ _ h => h) (Or.inl ⟨by rfl, ?_⟩) ?_ ?_
            rotate_left
            · intro w'
              go_simp
              with_reducible rfl
            rotate_left
            · simp only [Act.put, List.setIfInBounds_toArray, List.set_cons_zero, List.set_cons_succ, i64_w, i32_w]
              rfl
            refine pure_ (i := 9) (N := some 55) (v := ?_) (a' := ?_) #[true, true, true, true, true, true, true, true, true, true, false] rfl rfl (by kernel_rfl) (fun _ _ _ h => h) (Or.inl ⟨by rfl, ?_⟩) ?_ ?_
            rotate_left
            · intro w'
              go_simp
              with_reducible rfl
            rotate_left
            · simp only [Act.put, List.setIfInBounds_toArray, List.set_cons_zero, List.set_cons_succ, i64_w, i32_w]
              rfl
            refine pure_ (i := 10) (N := some 7) (v := ?_) (a' := ?_) #[true, true, true, true, true, true, true, true, true, true, true] rfl rfl (by kernel_rfl) (fun _ _ _ h => h) (Or.inl ⟨by rfl, ?_⟩) ?_ ?_
            rotate_left
            · intro w'
              go_simp
              with_reducible rfl
            rotate_left
            · simp only [Act.put, List.setIfInBounds_toArray, List.set_cons_zero, List.set_cons_succ, i64_w, i32_w]
              rfl
            refine done_ (by kernel_rfl) ?_
            go_wp2
            go_roundw
            case rel => exact ⟨j + 1, t, by go_num, by rw [← HE.out]; rfl, ⟨HJL.out⟩, HT, HK, HGR, ⟨by rw [HNX.out]; exact HM.out⟩⟩
            case measure => have := HJL.out; simp [intOf]; omega
          · rw [if_neg cp] at hnx
            have HE := Aside0.mk (Option.some.inj hnx)
            have cp' : kparts S a c j = false := by simpa using cp
            clear hnx cp
            go_wp2_with (first | (go_at_call 83; (with_reducible refine (impl_knowing_parts.calls S a c j hj8 gb _ _ As cs _ HG.out (Kd.F_now HF.out) HL.out).mono ?_); rintro e w5 ⟨rfl, hb⟩; have n0_ := Aside0.mk ((Below.block hb _ (blk_lt HG.out)).trans HG.out); have n1_ := Aside0.mk (Kd.F_below HF.out hb); have n2_ := Aside0.mk ((World.cell?_of_block (Below.block hb _ (World.block_lt_of_cell? _ _ HC.out))).trans HC.out); have n3_ := Aside0.mk ((Below.block hb _ (blk_lt HK.out)).trans HK.out); have n4_ := Aside0.mk (Memo.below HM.out hb); have n5_ := Aside0.mk (kgrown_below HGR.out hb); clear HG HF HC HK HM HGR; have HG := n0_; have HF := n1_; have HC := n2_; have HK := n3_; have HM := n4_; have HGR := n5_; clear n0_ n1_ n2_ n3_ n4_ n5_; clear hb))
            go_roundw
            case rel => exact ⟨j + 1, t, by go_num, by rw [← HE.out], ⟨HJL.out⟩, HT, ⟨(Below.block (below_alloc (below_alloc (Below.refl w5.heap.size w5) _) _) _ (blk_lt HK.out)).trans HK.out⟩, ⟨kgrown_below HGR.out (below_alloc (below_alloc (Below.refl w5.heap.size w5) _) _)⟩, ⟨(HM.out.below (below_alloc (below_alloc (Below.refl w5.heap.size w5) _) _)).mono (by have := HNX.out; omega)⟩⟩
            case measure => have := HJL.out; simp [intOf]; omega
        · have d0 : decide ((j : Int) < (m : Int)) = false := decide_eq_false (by omega)
          have d1 : decide (j < m) = false := decide_eq_false cj
          have e : j = m := by have := HJ.out; omega
          have hmo := HMO.out
          rw [e, List.take_of_length_le (by simp), HFO.out] at hmo
          obtain rfl : r = most := Option.some.inj hmo
          have hnb : n + 2 * j * kcost k + 1 ≤ n + kcost (k + 1) := by
            have h2 : 2 * j * kcost k ≤ 16 * kcost k := Nat.mul_le_mul_right _ (by omega)
            simp only [kcost]
            omega
          obtain ⟨nj, hnj⟩ : ∃ z, n + 2 * j * kcost k = z := ⟨_, rfl⟩
          rw [hnj] at HM hnb
          have HNB := Aside0.mk (show nj + 1 ≤ n + kcost (k + 1) ∧ n + kcost (k + 1) ≤ 70368744177664 from ⟨hnb, HNB.out⟩)
          clear hmo e cj hnj hnb hm8
          go_wp2
          have n0_ := Aside0.mk (blk_drew HG.out)
          have n1_ := Aside0.mk (Kd.F_drew HF.out)
          have n2_ := Aside0.mk (kgrown_cell HC.out (kgrown_drew _ (some mb)) HNE.out.2)
          have n3_ := Aside0.mk (blk_drew HK.out)
          have n4_ := Aside0.mk (Memo.drew HM.out)
          have n5_ := Aside0.mk (kgrown_then HGR.out (kgrown_drew _ (some mb)))
          clear HG HF HC HK HM HGR
          have HG := n0_
          have HF := n1_
          have HC := n2_
          have HK := n3_
          have HM := n4_
          have HGR := n5_
          clear n0_ n1_ n2_ n3_ n4_ n5_
          refine start_ (n := 7) (S := fun w' => w'.cell? ⟨gb, 2, none⟩ = some (.map (some mb)) ∧ w'.cell? ⟨w.heap.size, 0, none⟩ = some (.int .i64 a) ∧ w'.cell? ⟨w.heap.size, 1, none⟩ = some (.int .i64 c)) (ds := []) #[false, false, false, false, false, false, false] (by kernel_rfl) rfl rfl ⟨(blk_cell HG.out 2).trans rfl, (blk_cell HK.out 0).trans rfl, (blk_cell HK.out 1).trans rfl⟩ (fun hHeld => ?_)
          generalize wr.drew = w10 at HG HF HC HK HM HGR hHeld ⊢
          refine pure_ (i := 0) (N := some 57) (v := ?_) (a' := ?_) #[true, false, false, false, false, false, false] rfl rfl (by kernel_rfl) (fun _ _ _ h => h) (Or.inl ⟨by rfl, ?_⟩) ?_ ?_
          rotate_left
          · intro w'
            go_simp
            with_reducible rfl
          rotate_left
          · simp only [Act.put, List.setIfInBounds_toArray, List.set_cons_zero, List.set_cons_succ, i64_w, i32_w]
            rfl
          refine pure_ (i := 1) (N := some 58) (v := ?_) (a' := ?_) #[true, true, false, false, false, false, false] rfl rfl (by kernel_rfl) (fun _ _ _ h => h) (Or.inl ⟨by rfl, ?_⟩) ?_ ?_
          rotate_left
          · intro w'
            go_simp
            with_reducible rfl
          rotate_left
          · simp only [Act.put, List.setIfInBounds_toArray, List.set_cons_zero, List.set_cons_succ, i64_w, i32_w]
            rfl
          refine pure_ (i := 2) (N := some 59) (v := ?_) (a' := ?_) #[true, true, true, false, false, false, false] rfl rfl (by kernel_rfl) (fun _ _ _ h => h) (Or.inl ⟨by rfl, ?_⟩) ?_ ?_
          rotate_left
          · intro w'
            go_simp
            with_reducible rfl
          rotate_left
          · simp only [Act.put, List.setIfInBounds_toArray, List.set_cons_zero, List.set_cons_succ, i64_w, i32_w]
            rfl
          refine pure_ (i := 5) (N := some 62) (v := ?_) (a' := ?_) #[true, true, true, false, false, true, false] rfl rfl (by kernel_rfl) (fun _ _ _ h => h) (Or.inl ⟨by rfl, ?_⟩) ?_ ?_
          rotate_left
          · intro w'
            go_simp
            with_reducible rfl
          rotate_left
          · simp only [Act.put, List.setIfInBounds_toArray, List.set_cons_zero, List.set_cons_succ, i64_w, i32_w]
            rfl
          refine take_ (i := 3) (N := some 60) (v := ?_) (a' := ?_) #[true, true, true, true, false, true, false] rfl rfl (by kernel_rfl) (fun _ _ _ h => h) (Or.inl ⟨by rfl, ?_⟩) hHeld ?_ ?_
          rotate_left
          · rintro w' ⟨s0, s1, s2⟩
            first | (go_simp; with_reducible rfl) | (simp only [add_plain] at s0 s1 s2; go_simp; with_reducible rfl)
          rotate_left
          · simp only [Act.put, List.setIfInBounds_toArray, List.set_cons_zero, List.set_cons_succ, i64_w, i32_w]
            rfl
          refine take_ (i := 4) (N := some 61) (v := ?_) (a' := ?_) #[true, true, true, true, true, true, false] rfl rfl (by kernel_rfl) (fun _ _ _ h => h) (Or.inl ⟨by rfl, ?_⟩) hHeld ?_ ?_
          rotate_left
          · rintro w' ⟨s0, s1, s2⟩
            first | (go_simp; with_reducible rfl) | (simp only [add_plain] at s0 s1 s2; go_simp; with_reducible rfl)
          rotate_left
          · simp only [Act.put, List.setIfInBounds_toArray, List.set_cons_zero, List.set_cons_succ, i64_w, i32_w]
            rfl
          refine one_ (i := 6) (N := none) #[true, true, true, true, true, true, true] rfl rfl (by kernel_rfl) (by decide) (fun K hK => ?_)
          obtain ⟨w11, hr_, hm_, hg_⟩ := Memo.store HM.out (by have := HNB.out; unfold maxLen; omega) a c r (by have := HAC.out; simp only [Lit.wf, IntKind.min, IntKind.max, IntKind.signed, IntKind.bits, Bool.and_eq_true, decide_eq_true_eq, if_true]; omega) (by have := HAC.out; simp only [Lit.wf, IntKind.min, IntKind.max, IntKind.signed, IntKind.bits, Bool.and_eq_true, decide_eq_true_eq, if_true]; omega) (by have := HRB.out; simp only [Lit.wf, IntKind.min, IntKind.max, IntKind.signed, IntKind.bits, Bool.and_eq_true, decide_eq_true_eq, if_true]; omega) ⟨_, HH.out⟩
          refine skip_ (w1 := w11) (by rfl) rfl ?_ ?_
          · go_simp
            first | done | exact hr_ | (rw [hr_]; rfl) | (simp only [hr_]; rfl)
          have n0_ := Aside0.mk (kgrown_blk HG.out hg_ HNE.out.1)
          have n1_ := Aside0.mk (Kd.F_grown HF.out hg_ (fun k_ hk_ e_ => hk_ (by injection e_)))
          have n2_ := Aside0.mk (kgrown_cell HC.out hg_ HNE.out.2)
          have n3_ := Aside0.mk (kgrown_blk HK.out hg_ HNK.out)
          have n4_ := Aside0.mk (hm_)
          have n5_ := Aside0.mk (kgrown_then HGR.out hg_)
          clear HG HF HC HK HM HGR
          have HG := n0_
          have HF := n1_
          have HC := n2_
          have HK := n3_
          have HM := n4_
          have HGR := n5_
          clear n0_ n1_ n2_ n3_ n4_ n5_
          clear hm_ hg_ hr_
          refine hK.out _ _ ⟨(blk_cell HG.out 2).trans rfl, (blk_cell HK.out 0).trans rfl, (blk_cell HK.out 1).trans rfl⟩ (fun hHeld => ?_)
          clear hK K
          refine done_ (by kernel_rfl) ?_
          go_wp2
          go_ret
          exact ⟨rfl, HGR.out, HM.out.mono (by have := HNB.out; omega)⟩

    · clear h
      have d9 : decide (1 < kleft S a c) = false := decide_eq_false cl
      obtain rfl : 0 = r := (knq_few HH.out cl).symm
      have HRB := Aside0.mk (show (0 : Int) ≤ 0 ∧ (0 : Int) ≤ 99 by decide)
      have hnb : n + 1 ≤ n + kcost (k + 1) := by simp only [kcost]; omega
      have HNB2 := Aside0.mk (And.intro hnb HNB.out)
      clear HNB
      have HNB := HNB2
      clear HNB2 hnb
      go_wp2_with (first | (go_at_call 114; (with_reducible refine (impl_knowing_left.calls S a c gb _ _ As cs _ HG.out (Kd.F_now HF.out) HL.out).mono ?_); rintro e w4 ⟨rfl, hb⟩; have n0_ := Aside0.mk ((Below.block hb _ (blk_lt HG.out)).trans HG.out); have n1_ := Aside0.mk (Kd.F_below HF.out hb); have n2_ := Aside0.mk ((World.cell?_of_block (Below.block hb _ (World.block_lt_of_cell? _ _ HC.out))).trans HC.out); have n3_ := Aside0.mk ((Below.block hb _ (blk_lt HK.out)).trans HK.out); have n4_ := Aside0.mk (Memo.below HM.out hb); have n5_ := Aside0.mk (kgrown_below HGR.out hb); clear HG HF HC HK HM HGR; have HG := n0_; have HF := n1_; have HC := n2_; have HK := n3_; have HM := n4_; have HGR := n5_; clear n0_ n1_ n2_ n3_ n4_ n5_; clear hb hc0 hc1; have hcl := HC.out; have hcg := (blk_cell HG.out 0).trans (show _ = some (Value.slice (some cA) nL cC) from rfl)))
      have n0_ := Aside0.mk (blk_drew HG.out)
      have n1_ := Aside0.mk (Kd.F_drew HF.out)
      have n2_ := Aside0.mk (kgrown_cell HC.out (kgrown_drew _ (some mb)) HNE.out.2)
      have n3_ := Aside0.mk (blk_drew HK.out)
      have n4_ := Aside0.mk (Memo.drew HM.out)
      have n5_ := Aside0.mk (kgrown_then HGR.out (kgrown_drew _ (some mb)))
      clear HG HF HC HK HM HGR
      have HG := n0_
      have HF := n1_
      have HC := n2_
      have HK := n3_
      have HM := n4_
      have HGR := n5_
      clear n0_ n1_ n2_ n3_ n4_ n5_
      refine start_ (n := 7) (S := fun w' => w'.cell? ⟨gb, 2, none⟩ = some (.map (some mb)) ∧ w'.cell? ⟨w.heap.size, 0, none⟩ = some (.int .i64 a) ∧ w'.cell? ⟨w.heap.size, 1, none⟩ = some (.int .i64 c)) (ds := []) #[false, false, false, false, false, false, false] (by kernel_rfl) rfl rfl ⟨(blk_cell HG.out 2).trans rfl, (blk_cell HK.out 0).trans rfl, (blk_cell HK.out 1).trans rfl⟩ (fun hHeld => ?_)
      generalize w4.drew = w10 at HG HF HC HK HM HGR hHeld ⊢
      refine pure_ (i := 0) (N := some 57) (v := ?_) (a' := ?_) #[true, false, false, false, false, false, false] rfl rfl (by kernel_rfl) (fun _ _ _ h => h) (Or.inl ⟨by rfl, ?_⟩) ?_ ?_
      rotate_left
      · intro w'
        go_simp
        with_reducible rfl
      rotate_left
      · simp only [Act.put, List.setIfInBounds_toArray, List.set_cons_zero, List.set_cons_succ, i64_w, i32_w]
        rfl
      refine pure_ (i := 1) (N := some 58) (v := ?_) (a' := ?_) #[true, true, false, false, false, false, false] rfl rfl (by kernel_rfl) (fun _ _ _ h => h) (Or.inl ⟨by rfl, ?_⟩) ?_ ?_
      rotate_left
      · intro w'
        go_simp
        with_reducible rfl
      rotate_left
      · simp only [Act.put, List.setIfInBounds_toArray, List.set_cons_zero, List.set_cons_succ, i64_w, i32_w]
        rfl
      refine pure_ (i := 2) (N := some 59) (v := ?_) (a' := ?_) #[true, true, true, false, false, false, false] rfl rfl (by kernel_rfl) (fun _ _ _ h => h) (Or.inl ⟨by rfl, ?_⟩) ?_ ?_
      rotate_left
      · intro w'
        go_simp
        with_reducible rfl
      rotate_left
      · simp only [Act.put, List.setIfInBounds_toArray, List.set_cons_zero, List.set_cons_succ, i64_w, i32_w]
        rfl
      refine pure_ (i := 5) (N := some 62) (v := ?_) (a' := ?_) #[true, true, true, false, false, true, false] rfl rfl (by kernel_rfl) (fun _ _ _ h => h) (Or.inl ⟨by rfl, ?_⟩) ?_ ?_
      rotate_left
      · intro w'
        go_simp
        with_reducible rfl
      rotate_left
      · simp only [Act.put, List.setIfInBounds_toArray, List.set_cons_zero, List.set_cons_succ, i64_w, i32_w]
        rfl
      refine take_ (i := 3) (N := some 60) (v := ?_) (a' := ?_) #[true, true, true, true, false, true, false] rfl rfl (by kernel_rfl) (fun _ _ _ h => h) (Or.inl ⟨by rfl, ?_⟩) hHeld ?_ ?_
      rotate_left
      · rintro w' ⟨s0, s1, s2⟩
        first | (go_simp; with_reducible rfl) | (simp only [add_plain] at s0 s1 s2; go_simp; with_reducible rfl)
      rotate_left
      · simp only [Act.put, List.setIfInBounds_toArray, List.set_cons_zero, List.set_cons_succ, i64_w, i32_w]
        rfl
      refine take_ (i := 4) (N := some 61) (v := ?_) (a' := ?_) #[true, true, true, true, true, true, false] rfl rfl (by kernel_rfl) (fun _ _ _ h => h) (Or.inl ⟨by rfl, ?_⟩) hHeld ?_ ?_
      rotate_left
      · rintro w' ⟨s0, s1, s2⟩
        first | (go_simp; with_reducible rfl) | (simp only [add_plain] at s0 s1 s2; go_simp; with_reducible rfl)
      rotate_left
      · simp only [Act.put, List.setIfInBounds_toArray, List.set_cons_zero, List.set_cons_succ, i64_w, i32_w]
        rfl
      refine one_ (i := 6) (N := none) #[true, true, true, true, true, true, true] rfl rfl (by kernel_rfl) (by decide) (fun K hK => ?_)
      obtain ⟨w11, hr_, hm_, hg_⟩ := Memo.store HM.out (by have := HNB.out; unfold maxLen; omega) a c 0 (by have := HAC.out; simp only [Lit.wf, IntKind.min, IntKind.max, IntKind.signed, IntKind.bits, Bool.and_eq_true, decide_eq_true_eq, if_true]; omega) (by have := HAC.out; simp only [Lit.wf, IntKind.min, IntKind.max, IntKind.signed, IntKind.bits, Bool.and_eq_true, decide_eq_true_eq, if_true]; omega) (by have := HRB.out; simp only [Lit.wf, IntKind.min, IntKind.max, IntKind.signed, IntKind.bits, Bool.and_eq_true, decide_eq_true_eq, if_true]; omega) ⟨_, HH.out⟩
      refine skip_ (w1 := w11) (by rfl) rfl ?_ ?_
      · go_simp
        first | done | exact hr_ | (rw [hr_]; rfl) | (simp only [hr_]; rfl)
      have n0_ := Aside0.mk (kgrown_blk HG.out hg_ HNE.out.1)
      have n1_ := Aside0.mk (Kd.F_grown HF.out hg_ (fun k_ hk_ e_ => hk_ (by injection e_)))
      have n2_ := Aside0.mk (kgrown_cell HC.out hg_ HNE.out.2)
      have n3_ := Aside0.mk (kgrown_blk HK.out hg_ HNK.out)
      have n4_ := Aside0.mk (hm_)
      have n5_ := Aside0.mk (kgrown_then HGR.out hg_)
      clear HG HF HC HK HM HGR
      have HG := n0_
      have HF := n1_
      have HC := n2_
      have HK := n3_
      have HM := n4_
      have HGR := n5_
      clear n0_ n1_ n2_ n3_ n4_ n5_
      clear hm_ hg_ hr_
      refine hK.out _ _ ⟨(blk_cell HG.out 2).trans rfl, (blk_cell HK.out 0).trans rfl, (blk_cell HK.out 1).trans rfl⟩ (fun hHeld => ?_)
      clear hK K
      refine done_ (by kernel_rfl) ?_
      go_wp2
      go_ret
      exact ⟨rfl, HGR.out, HM.out.mono (by have := HNB.out; omega)⟩

/-! ### impl_QuestionNumber: function 40 -/
def impl_QuestionNumber.f (k : Nat) (l0 : List (List Int)) : Option (Int × Bool) := (impl_IsClass.f k l0).bind fun b =>
  if b = true then (if (0 < l0.length ∧ l0.length ≤ 256) ∧ (rd_L1 l0 0).length ≤ 8 ∧ (∀ r ∈ l0, r.length ≤ 8) then (knq true (ksets l0) (rd_L1 l0 0).length 9 0 0).bind fun r => some (r, true) else none) else some (0, false)
set_option maxHeartbeats 8000000 in
set_option maxRecDepth 100000 in
theorem impl_QuestionNumber.calls (k : Nat) (A0 : Option Addr) (c0 : Nat) (l0 : List (List Int)) (r1 : Int) (r2 : Bool) (w : World) (hr0 : Kd.C (Kd.slice 3 (Kd.int .i64)) w A0 l0.length l0) (hc0 : l0.length ≤ c0) (h : impl_QuestionNumber.f k l0 = some (r1, r2)) :
    Calls Try.prog 40 #[.slice A0 l0.length c0] w fun e w' => e = .returned (.tuple #[.int .i64 r1, .bool r2]) ∧ Below w.heap.size w w' := by
  have HR0 := Aside0.mk hr0
  have HC0 := Aside0.mk hc0
  unfold impl_QuestionNumber.f at h
  obtain ⟨b, hb, h⟩ := Option.bind_eq_some_iff.mp h
  have HIC := Aside0.mk hb
  clear hr0 hc0 hb
  cases b with
  | false =>
    rw [if_neg (by simp)] at h
    cases h
    go_enter Try.func40, Try.ntmps40
    go_wp2_with (first | (go_at_call 70; (with_reducible refine (impl_IsClass.calls k _ _ l0 false _ HR0.out HC0.out HIC.out).mono ?_); rintro e w2 ⟨rfl, ⟨nd, rfl⟩⟩))
    go_ret2
    exact ⟨rfl, pw_below_drewN (Below.refl _ _) _⟩
  | true =>
    rw [if_pos rfl] at h
    by_cases c1 : (0 < l0.length ∧ l0.length ≤ 256) ∧ (rd_L1 l0 0).length ≤ 8 ∧ (∀ r ∈ l0, r.length ≤ 8)
    · rw [if_pos c1] at h
      obtain ⟨r, hq, h⟩ := Option.bind_eq_some_iff.mp h
      cases h
      have HQ := Aside0.mk hq
      have HC1 := Aside0.mk c1
      clear hq c1
      go_enter Try.func40, Try.ntmps40
      go_wp2_with (first | (go_at_call 70; (with_reducible refine (impl_IsClass.calls k _ _ l0 true _ HR0.out HC0.out HIC.out).mono ?_); rintro e w2 ⟨rfl, ⟨nd, rfl⟩⟩) | (go_at_call 71; (with_reducible refine (impl_newKnowing.calls l0 _ _ _ (Kd.C_below HR0.out (pw_below_drewN (Below.refl _ _) _)) HC0.out HC1.out.1.2 HC1.out.2.2).mono ?_); rintro e w3 ⟨gb, mb, vs, rfl, g1, g2, g3, g4, g5, g6, g7⟩; have hB_ := Aside0.mk (show Below w.heap.size w w3 from below_step (pw_below_drewN (Below.refl w.heap.size w) nd) g7); obtain ⟨ad, Ah, ch, As, cs, e_, hne_, hkw_⟩ := kn_start HR0.out HC1.out.1.1 hB_.out g2 g4 g5; cases e_; have HKW := Aside0.mk hkw_; have HME := Aside0.mk (Memo.made (fun a c v => ∃ j, knq true (ksets l0) (rd_L1 l0 0).length j a c = some v) g6); have HNE := Aside0.mk (And.intro g3 (And.intro hne_ g2)); clear g1 g2 g3 g4 g5 g6 g7 hne_ hkw_) | (go_at_call 79; (with_reducible refine (impl_knowing_questions.calls (ksets l0) (rd_L1 l0 0).length gb mb ad l0.length c0 Ah ch As cs HC1.out.2.1 HNE.out.1 HNE.out.2.1 (by rw [ksets_len]; have := HC1.out.1.2; omega) HC1.out.1.1 9 0 0 r1 _ 0 HQ.out HKW.out HME.out (by have := kcost9; omega)).mono ?_); rintro e w4 ⟨rfl, hg, hm⟩; have HB := Aside0.mk (kn_below hB_.out HNE.out.2.2 hg); clear hg hm))
      go_ret2
      exact ⟨rfl, HB.out⟩
    · rw [if_neg c1] at h; cases h
theorem impl_QuestionNumber.mono : ∀ a0 k, LeO (impl_QuestionNumber.f k a0) (impl_QuestionNumber.f (k + 1) a0) := by
  intro a0 k
  unfold impl_QuestionNumber.f
  exact LeO.bind (impl_IsClass.mono _ k) fun _ => LeO.refl _

/-! ### laws_FnExactQuestionNumber: function 7 -/
def laws_FnExactQuestionNumber.j0 : Nat → List (List Int) → List (List Int) → Bool → Option (Bool)
  | 0, _, _, _ => none
  | k + 1, x0, x6, x34 => if x34 = true then (some false) else ((laws_toIntSS.f k x0).bind fun t204 => ((laws_eqIntSS.f k x6 t204).bind fun t207 => (if t207 = true then (some true) else (some false))))
def laws_FnExactQuestionNumber.f (k : Nat) (l0 : List (List Int)) : Option (Bool) := (laws_szIntSS.f k l0 1048576).bind fun t193 => (if t193 < 0 then (some true) else ((laws_toIntSS.f k l0).bind fun t194 => ((spec_QuestionNumber.f k t194).bind fun bt197 => ((laws_toIntSS.f k l0).bind fun t199 => ((impl_QuestionNumber.f k t199).bind fun bt202 => (if bt202.1 = bt197.1 then (laws_FnExactQuestionNumber.j0 k l0 t199 (bt202.2 != bt197.2)) else (laws_FnExactQuestionNumber.j0 k l0 t199 true)))))))
theorem laws_FnExactQuestionNumber.mono_l : ∀ k, (∀ y0 y1 y2, LeO (laws_FnExactQuestionNumber.j0 k y0 y1 y2) (laws_FnExactQuestionNumber.j0 (k + 1) y0 y1 y2))
  | 0 => fun _ _ _ r h => by simp [laws_FnExactQuestionNumber.j0] at h
  | k + 1 => by
    have ih0 := laws_FnExactQuestionNumber.mono_l k
    · intro y0 y1 y2
      unfold laws_FnExactQuestionNumber.j0
      repeat' first
      | (with_reducible exact ih0 _ _ _)
      | (with_reducible exact impl_QuestionNumber.mono _ _)
      | (with_reducible exact laws_eqIntSS.mono _ _ _)
      | (with_reducible exact laws_szIntSS.mono _ _ _)
      | (with_reducible exact laws_toIntSS.mono _ _)
      | (with_reducible exact spec_QuestionNumber.mono _ _)
      | (with_reducible exact LeO.refl _)
      | (with_reducible exact LeO.none _)
      | (with_reducible refine LeO.ite ?_ ?_)
      | (with_reducible refine LeO.bind ?_ (fun _ => ?_))
      | exact ih0 _ _ _
      | exact impl_QuestionNumber.mono _ _
      | exact laws_eqIntSS.mono _ _ _
      | exact laws_szIntSS.mono _ _ _
      | exact laws_toIntSS.mono _ _
      | exact spec_QuestionNumber.mono _ _
      | exact LeO.none _
      | refine LeO.ite ?_ ?_
      | refine LeO.bind ?_ (fun _ => ?_)
theorem laws_FnExactQuestionNumber.mono : ∀ a0 k, LeO (laws_FnExactQuestionNumber.f k a0) (laws_FnExactQuestionNumber.f (k + 1) a0) := by
  intro a0 k
  have ih0 := laws_FnExactQuestionNumber.mono_l k
  unfold laws_FnExactQuestionNumber.f
  repeat' first
      | (with_reducible exact ih0 _ _ _)
      | (with_reducible exact impl_QuestionNumber.mono _ _)
      | (with_reducible exact laws_eqIntSS.mono _ _ _)
      | (with_reducible exact laws_szIntSS.mono _ _ _)
      | (with_reducible exact laws_toIntSS.mono _ _)
      | (with_reducible exact spec_QuestionNumber.mono _ _)
      | (with_reducible exact LeO.refl _)
      | (with_reducible exact LeO.none _)
      | (with_reducible refine LeO.ite ?_ ?_)
      | (with_reducible refine LeO.bind ?_ (fun _ => ?_))
      | exact ih0 _ _ _
      | exact impl_QuestionNumber.mono _ _
      | exact laws_eqIntSS.mono _ _ _
      | exact laws_szIntSS.mono _ _ _
      | exact laws_toIntSS.mono _ _
      | exact spec_QuestionNumber.mono _ _
      | exact LeO.none _
      | refine LeO.ite ?_ ?_
      | refine LeO.bind ?_ (fun _ => ?_)
set_option maxHeartbeats 8000000 in
set_option maxRecDepth 100000 in
theorem laws_FnExactQuestionNumber.calls (k : Nat) (A0 : Option Addr) (c0 : Nat) (l0 : List (List Int)) (r : Bool) (w : World) (hr0 : Kd.C (Kd.slice 3 (Kd.int .i64)) w A0 l0.length l0) (hc0 : l0.length ≤ c0) (h : laws_FnExactQuestionNumber.f k l0 = some r) :
    Calls Try.prog 7 #[.slice A0 l0.length c0] w fun e w' => e = .returned (.bool r) ∧ Below w.heap.size w w' := by
  have HR0 := Aside0.mk hr0
  have HC0 := Aside0.mk hc0
  clear hr0 hc0
  have HB := Aside0.mk (Below.refl w.heap.size w)
  have H : ((laws_szIntSS.f k l0 1048576).bind fun t193 => (if t193 < 0 then (some true) else ((laws_toIntSS.f k l0).bind fun t194 => ((spec_QuestionNumber.f k t194).bind fun bt197 => ((laws_toIntSS.f k l0).bind fun t199 => ((impl_QuestionNumber.f k t199).bind fun bt202 => (if bt202.1 = bt197.1 then (laws_FnExactQuestionNumber.j0 k l0 t199 (bt202.2 != bt197.2)) else (laws_FnExactQuestionNumber.j0 k l0 t199 true)))))))) = some r := h
  clear h
  replace H := Option.bind_eq_some_iff.mp H
  obtain ⟨t193, A20, H⟩ := H
  replace H : (if t193 < 0 then (some true) else ((laws_toIntSS.f k l0).bind fun t194 => ((spec_QuestionNumber.f k t194).bind fun bt197 => ((laws_toIntSS.f k l0).bind fun t199 => ((impl_QuestionNumber.f k t199).bind fun bt202 => (if bt202.1 = bt197.1 then (laws_FnExactQuestionNumber.j0 k l0 t199 (bt202.2 != bt197.2)) else (laws_FnExactQuestionNumber.j0 k l0 t199 true))))))) = some r := H
  have A2 := Aside0.mk A20
  clear A20
  by_cases c3 : t193 < 0
  · rw [if_pos c3] at H
    have c3b0 : decide (t193 < 0) = true := decide_eq_true c3
    clear c3
    obtain rfl := Option.some.inj H
    go_enter Try.func7, Try.ntmps7
    go_wp2_with (first | ((with_reducible refine gate_callee (f := 32) rfl ?_); refine goesL_ (some 11) rfl rfl Try.func32 (by kernel_rfl) rfl #[.slice A0 l0.length c0, .int .i64 1048576] rfl (by (try simp only [List.map_toArray, List.map_cons, List.map_nil]); first | done | rfl | (simp only [List.length_drop, List.length_take]; rfl)) ?_; (with_reducible refine (laws_szIntSS.calls k _ _ l0 1048576 t193 _ ?side1 ?side2 A2.out).mono ?_); (case side1 => repeat (first | exact HR0.out | (with_reducible refine Kd.C_alloc ?_ _) | (with_reducible refine Kd.C_drewN ?_ _) | (with_reducible refine Kd.C_drew ?_))); (case side2 => exact HC0.out); rintro e w' ⟨rfl, ⟨nd, rfl⟩⟩; refine ⟨_, rfl, ?_⟩))
    go_ret
    exact ⟨by first | rfl | (simp [errW_none, errW_some] <;> rfl) | (simp [*, errW_none, errW_some] <;> rfl), by repeat (first | (with_reducible first | exact HB.out | apply below_alloc | apply pw_below_drewN | apply below_drew1) | exact HB.out)⟩
  · rw [if_neg c3] at H
    have c3b0 : decide (t193 < 0) = false := decide_eq_false c3
    clear c3
    replace H := Option.bind_eq_some_iff.mp H
    obtain ⟨t194, A40, H⟩ := H
    replace H : ((spec_QuestionNumber.f k t194).bind fun bt197 => ((laws_toIntSS.f k l0).bind fun t199 => ((impl_QuestionNumber.f k t199).bind fun bt202 => (if bt202.1 = bt197.1 then (laws_FnExactQuestionNumber.j0 k l0 t199 (bt202.2 != bt197.2)) else (laws_FnExactQuestionNumber.j0 k l0 t199 true))))) = some r := H
    have A4 := Aside0.mk A40
    clear A40
    replace H := Option.bind_eq_some_iff.mp H
    obtain ⟨⟨t197, t198⟩, A50, H⟩ := H
    replace H : ((laws_toIntSS.f k l0).bind fun t199 => ((impl_QuestionNumber.f k t199).bind fun bt202 => (if bt202.1 = t197 then (laws_FnExactQuestionNumber.j0 k l0 t199 (bt202.2 != t198)) else (laws_FnExactQuestionNumber.j0 k l0 t199 true)))) = some r := H
    have A5 := Aside0.mk A50
    clear A50
    replace H := Option.bind_eq_some_iff.mp H
    obtain ⟨t199, A60, H⟩ := H
    replace H : ((impl_QuestionNumber.f k t199).bind fun bt202 => (if bt202.1 = t197 then (laws_FnExactQuestionNumber.j0 k l0 t199 (bt202.2 != t198)) else (laws_FnExactQuestionNumber.j0 k l0 t199 true))) = some r := H
    have A6 := Aside0.mk A60
    clear A60
    replace H := Option.bind_eq_some_iff.mp H
    obtain ⟨⟨t202, t203⟩, A70, H⟩ := H
    replace H : (if t202 = t197 then (laws_FnExactQuestionNumber.j0 k l0 t199 (t203 != t198)) else (laws_FnExactQuestionNumber.j0 k l0 t199 true)) = some r := H
    have A7 := Aside0.mk A70
    clear A70
    have HC8 := Aside0.mk H
    clear H
    go_enter Try.func7, Try.ntmps7
    go_upto_region 8 with (first | ((with_reducible refine gate_callee (f := 32) rfl ?_); refine goesL_ (some 11) rfl rfl Try.func32 (by kernel_rfl) rfl #[.slice A0 l0.length c0, .int .i64 1048576] rfl (by (try simp only [List.map_toArray, List.map_cons, List.map_nil]); first | done | rfl | (simp only [List.length_drop, List.length_take]; rfl)) ?_; (with_reducible refine (laws_szIntSS.calls k _ _ l0 1048576 t193 _ ?side1 ?side2 A2.out).mono ?_); (case side1 => repeat (first | exact HR0.out | (with_reducible refine Kd.C_alloc ?_ _) | (with_reducible refine Kd.C_drewN ?_ _) | (with_reducible refine Kd.C_drew ?_))); (case side2 => exact HC0.out); rintro e w' ⟨rfl, ⟨nd, rfl⟩⟩; refine ⟨_, rfl, ?_⟩) | ((with_reducible refine gate_callee (f := 34) rfl ?_); refine goesL_ (some 16) rfl rfl Try.func34 (by kernel_rfl) rfl #[.slice A0 l0.length c0] rfl (by (try simp only [List.map_toArray, List.map_cons, List.map_nil]); first | done | rfl | (simp only [List.length_drop, List.length_take]; rfl)) ?_; (with_reducible refine (laws_toIntSS.calls k _ _ l0 t194 _ ?side1 ?side2 A4.out).mono ?_); (case side1 => repeat (first | exact HR0.out | (with_reducible refine Kd.C_alloc ?_ _) | (with_reducible refine Kd.C_drewN ?_ _) | (with_reducible refine Kd.C_drew ?_))); (case side2 => exact HC0.out); rintro e w9 ⟨v195, rfl, ho0, hb⟩; refine ⟨_, rfl, ?_⟩; have n0_ := Aside0.mk (Kd.S_lower ho0 (below_size (by repeat (first | (with_reducible first | exact HB.out | apply below_alloc | apply pw_below_drewN | apply below_drew1) | exact HB.out)))); have n1_ := Aside0.mk (below_step (by repeat (first | (with_reducible first | exact HB.out | apply below_alloc | apply pw_below_drewN | apply below_drew1) | exact HB.out)) hb); clear HB; have HO196 := n0_; have HB := n1_; clear n0_ n1_; (try clear hb); (try clear hb2); (try clear hk); (try clear hi); (try clear ho0); obtain ⟨Ao10, co10, eo10⟩ := Kd.S_slice HO196.out; subst eo10) | ((with_reducible refine gate_callee (f := 39) rfl ?_); refine goesL_ (some 17) rfl rfl Try.func39 (by kernel_rfl) rfl #[.slice Ao10 t194.length co10] rfl (by (try simp only [List.map_toArray, List.map_cons, List.map_nil]); first | done | rfl | (simp only [List.length_drop, List.length_take]; rfl)) ?_; (with_reducible refine (spec_QuestionNumber.calls k _ _ t194 t197 t198 _ ?side1 ?side2 A5.out).mono ?_); (case side1 => repeat (first | exact (Kd.S_reads' HO196.out).2.2 | (with_reducible refine Kd.C_alloc ?_ _) | (with_reducible refine Kd.C_drewN ?_ _) | (with_reducible refine Kd.C_drew ?_))); (case side2 => exact (Kd.S_reads' HO196.out).2.1); rintro e w11 ⟨rfl, hb⟩; refine ⟨_, rfl, ?_⟩; have n0_ := Aside0.mk (Kd.S_below (by (with_reducible repeat (first | apply Kd.S_alloc | apply Kd.S_drewN | apply Kd.S_drew)); exact HO196.out) hb); have n1_ := Aside0.mk (below_step (by repeat (first | (with_reducible first | exact HB.out | apply below_alloc | apply pw_below_drewN | apply below_drew1) | exact HB.out)) hb); clear HO196; clear HB; have HO196 := n0_; have HB := n1_; clear n0_ n1_; (try clear hb); (try clear hb2); (try clear hk); (try clear hi)) | ((with_reducible refine gate_callee (f := 34) rfl ?_); refine goesL_ (some 21) rfl rfl Try.func34 (by kernel_rfl) rfl #[.slice A0 l0.length c0] rfl (by (try simp only [List.map_toArray, List.map_cons, List.map_nil]); first | done | rfl | (simp only [List.length_drop, List.length_take]; rfl)) ?_; (with_reducible refine (laws_toIntSS.calls k _ _ l0 t199 _ ?side1 ?side2 A6.out).mono ?_); (case side1 => repeat (first | exact (Kd.C_below HR0.out HB.out) | (with_reducible refine Kd.C_alloc ?_ _) | (with_reducible refine Kd.C_drewN ?_ _) | (with_reducible refine Kd.C_drew ?_))); (case side2 => exact HC0.out); rintro e w12 ⟨v200, rfl, ho0, hb⟩; refine ⟨_, rfl, ?_⟩; have n0_ := Aside0.mk (Kd.S_elder' (by (with_reducible repeat (first | apply Kd.S_alloc | apply Kd.S_drewN | apply Kd.S_drew)); exact HO196.out) (Kd.S_base ho0) hb); have n1_ := Aside0.mk (Kd.S_lower (Kd.S_new' ho0 (Kd.S_lt (by (with_reducible repeat (first | apply Kd.S_alloc | apply Kd.S_drewN | apply Kd.S_drew)); exact HO196.out))) (below_size (by repeat (first | (with_reducible first | exact HB.out | apply below_alloc | apply pw_below_drewN | apply below_drew1) | exact HB.out)))); have n2_ := Aside0.mk (below_step (by repeat (first | (with_reducible first | exact HB.out | apply below_alloc | apply pw_below_drewN | apply below_drew1) | exact HB.out)) hb); clear HO196; clear HB; have HO196 := n0_; have HO201 := n1_; have HB := n2_; clear n0_ n1_ n2_; (try clear hb); (try clear hb2); (try clear hk); (try clear hi); (try clear ho0); obtain ⟨Ao13, co13, eo13⟩ := Kd.S_slice HO201.out; subst eo13) | ((with_reducible refine gate_callee (f := 40) rfl ?_); refine goesL_ (some 24) rfl rfl Try.func40 (by kernel_rfl) rfl #[.slice Ao13 t199.length co13] rfl (by (try simp only [List.map_toArray, List.map_cons, List.map_nil]); first | done | rfl | (simp only [List.length_drop, List.length_take]; rfl)) ?_; (with_reducible refine (impl_QuestionNumber.calls k _ _ t199 t202 t203 _ ?side1 ?side2 A7.out).mono ?_); (case side1 => repeat (first | exact (Kd.S_reads' HO201.out).2.2 | (with_reducible refine Kd.C_alloc ?_ _) | (with_reducible refine Kd.C_drewN ?_ _) | (with_reducible refine Kd.C_drew ?_))); (case side2 => exact (Kd.S_reads' HO201.out).2.1); rintro e w14 ⟨rfl, hb⟩; refine ⟨_, rfl, ?_⟩; have n0_ := Aside0.mk (Kd.S_below (by (with_reducible repeat (first | apply Kd.S_alloc | apply Kd.S_drewN | apply Kd.S_drew)); exact HO196.out) hb); have n1_ := Aside0.mk (Kd.S_below (by (with_reducible repeat (first | apply Kd.S_alloc | apply Kd.S_drewN | apply Kd.S_drew)); exact HO201.out) hb); have n2_ := Aside0.mk (below_step (by repeat (first | (with_reducible first | exact HB.out | apply below_alloc | apply pw_below_drewN | apply below_drew1) | exact HB.out)) hb); clear HO196; clear HO201; clear HB; have HO196 := n0_; have HO201 := n1_; have HB := n2_; clear n0_ n1_ n2_; (try clear hb); (try clear hb2); (try clear hk); (try clear hi)))
    (try simp only [Act.put, List.setIfInBounds_toArray, List.set_cons_zero, List.set_cons_succ])
    go_cut [34] (fun v34 wc => ∃ (kq : Nat) (x34_7 : Bool), v34 = .bool x34_7 ∧ Aside0 (laws_FnExactQuestionNumber.j0 kq l0 t199 x34_7 = some r) ∧ Aside0 (kq ≤ k) ∧ Aside0 (Kd.S (Kd.slice 3 (Kd.int .i64)) 28 wc w.heap.size (fun _ => True) (.slice Ao13 t199.length co13) t199) ∧ Aside0 (Below w.heap.size w wc))
    case first =>
      have H := HC8.out
      clear HC8
      by_cases c15 : t202 = t197
      · rw [if_pos c15] at H
        have c15b0 : (t202 == t197) = true := beq_iff_eq.mpr c15
        have c15b1 : (t202 != t197) = false := bne_eq_false_iff_eq.mpr c15
        clear c15
        (first | rw [c15b0] | (simp only [i64_w, i32_w]; rw [c15b0]) | skip)
        have H' := Aside0.mk H
        clear H
        go_wp2
        go_meet
        case rel => exact ⟨_, ((t203 != t198)), (by first | rfl | (simp; done) | (simp [*]; done)), H', ⟨by first | omega | exact Nat.le_refl _⟩, ⟨by (with_reducible repeat (first | apply Kd.S_alloc | apply Kd.S_drewN | apply Kd.S_drew)); exact Kd.S_mono HO201.out (fun _ hk => trivial)⟩, ⟨by repeat (first | (with_reducible first | exact HB.out | apply below_alloc | apply pw_below_drewN | apply below_drew1) | exact HB.out)⟩⟩
      · rw [if_neg c15] at H
        have c15b0 : (t202 == t197) = false := beq_eq_false_iff_ne.mpr c15
        have c15b1 : (t202 != t197) = true := bne_iff_ne.mpr c15
        (first | rw [c15b0] | (simp only [i64_w, i32_w]; rw [c15b0]) | skip)
        have H' := Aside0.mk H
        clear H
        go_wp2
        go_meet
        case rel => exact ⟨_, (true), (by first | rfl | (simp; done) | (simp [*]; done)), H', ⟨by first | omega | exact Nat.le_refl _⟩, ⟨by (with_reducible repeat (first | apply Kd.S_alloc | apply Kd.S_drewN | apply Kd.S_drew)); exact Kd.S_mono HO201.out (fun _ hk => trivial)⟩, ⟨by repeat (first | (with_reducible first | exact HB.out | apply below_alloc | apply pw_below_drewN | apply below_drew1) | exact HB.out)⟩⟩
    case rest =>
      clear HC8
      try clear c1
      try clear p2
      try clear c3
      try clear c3b0
      try clear c4
      try clear c7
      try clear c15
      try clear c15b0
      try clear c15b1
      obtain ⟨kq, x34_7, rfl, HA, HJ7, HO_6, HB⟩ := hcut
      cases kq with
      | zero => exact absurd HA.out (by simp [laws_FnExactQuestionNumber.j0])
      | succ kj7 =>
        have H := HA.out
        clear HA
        simp only [laws_FnExactQuestionNumber.j0] at H
        by_cases c16 : x34_7 = true
        · subst c16
          have H1 : (some false) = some r := by rw [if_pos rfl] at H; exact H
          clear H
          have H := H1
          clear H1
          obtain rfl := Option.some.inj H
          go_wp2
          go_ret
          exact ⟨by first | rfl | (simp [errW_none, errW_some] <;> rfl) | (simp [*, errW_none, errW_some] <;> rfl), by repeat (first | (with_reducible first | exact HB.out | apply below_alloc | apply pw_below_drewN | apply below_drew1) | exact HB.out)⟩
        · replace c16 := Bool.eq_false_iff.mpr c16
          subst c16
          have H1 : ((laws_toIntSS.f kj7 l0).bind fun t204 => ((laws_eqIntSS.f kj7 t199 t204).bind fun t207 => (if t207 = true then (some true) else (some false)))) = some r := by rw [if_neg (show ¬ (false = true) by decide)] at H; exact H
          clear H
          have H := H1
          clear H1
          replace H := Option.bind_eq_some_iff.mp H
          obtain ⟨t204, A170, H⟩ := H
          replace H : ((laws_eqIntSS.f kj7 t199 t204).bind fun t207 => (if t207 = true then (some true) else (some false))) = some r := H
          have A17 := Aside0.mk A170
          clear A170
          replace H := Option.bind_eq_some_iff.mp H
          obtain ⟨t207, A180, H⟩ := H
          replace H : (if t207 = true then (some true) else (some false)) = some r := H
          have A18 := Aside0.mk A180
          clear A180
          by_cases c19 : t207 = true
          · subst c19
            have H1 : (some true) = some r := by rw [if_pos rfl] at H; exact H
            clear H
            have H := H1
            clear H1
            obtain rfl := Option.some.inj H
            go_wp2_with (first | ((with_reducible refine gate_callee (f := 34) rfl ?_); refine goesL_ (some 37) rfl rfl Try.func34 (by kernel_rfl) rfl #[.slice A0 l0.length c0] rfl (by (try simp only [List.map_toArray, List.map_cons, List.map_nil]); first | done | rfl | (simp only [List.length_drop, List.length_take]; rfl)) ?_; (with_reducible refine (laws_toIntSS.calls kj7 _ _ l0 t204 _ ?side1 ?side2 A17.out).mono ?_); (case side1 => repeat (first | exact (Kd.C_below HR0.out HB.out) | (with_reducible refine Kd.C_alloc ?_ _) | (with_reducible refine Kd.C_drewN ?_ _) | (with_reducible refine Kd.C_drew ?_))); (case side2 => exact HC0.out); rintro e w20 ⟨v205, rfl, ho0, hb⟩; refine ⟨_, rfl, ?_⟩; have n0_ := Aside0.mk (Kd.S_elder' (by (with_reducible repeat (first | apply Kd.S_alloc | apply Kd.S_drewN | apply Kd.S_drew)); exact HO_6.out) (Kd.S_base ho0) hb); have n1_ := Aside0.mk (Kd.S_lower (Kd.S_new' ho0 (Kd.S_lt (by (with_reducible repeat (first | apply Kd.S_alloc | apply Kd.S_drewN | apply Kd.S_drew)); exact HO_6.out))) (below_size (by repeat (first | (with_reducible first | exact HB.out | apply below_alloc | apply pw_below_drewN | apply below_drew1) | exact HB.out)))); have n2_ := Aside0.mk (below_step (by repeat (first | (with_reducible first | exact HB.out | apply below_alloc | apply pw_below_drewN | apply below_drew1) | exact HB.out)) hb); clear HO_6; clear HB; have HO_6 := n0_; have HO206 := n1_; have HB := n2_; clear n0_ n1_ n2_; (try clear hb); (try clear hb2); (try clear hk); (try clear hi); (try clear ho0); obtain ⟨Ao21, co21, eo21⟩ := Kd.S_slice HO206.out; subst eo21) | ((with_reducible refine gate_callee (f := 16) rfl ?_); refine goesL_ (some 38) rfl rfl Try.func16 (by kernel_rfl) rfl #[.slice Ao13 t199.length co13, .slice Ao21 t204.length co21] rfl (by (try simp only [List.map_toArray, List.map_cons, List.map_nil]); first | done | rfl | (simp only [List.length_drop, List.length_take]; rfl)) ?_; (with_reducible refine (laws_eqIntSS.calls kj7 _ _ t199 _ _ t204 true _ ?side1 ?side2 ?side3 ?side4 A18.out).mono ?_); (case side1 => repeat (first | exact (Kd.S_reads' HO_6.out).2.2 | (with_reducible refine Kd.C_alloc ?_ _) | (with_reducible refine Kd.C_drewN ?_ _) | (with_reducible refine Kd.C_drew ?_))); (case side2 => exact (Kd.S_reads' HO_6.out).2.1); (case side3 => repeat (first | exact (Kd.S_reads' HO206.out).2.2 | (with_reducible refine Kd.C_alloc ?_ _) | (with_reducible refine Kd.C_drewN ?_ _) | (with_reducible refine Kd.C_drew ?_))); (case side4 => exact (Kd.S_reads' HO206.out).2.1); rintro e w' ⟨rfl, ⟨nd, rfl⟩⟩; refine ⟨_, rfl, ?_⟩))
            go_ret
            exact ⟨by first | rfl | (simp [errW_none, errW_some] <;> rfl) | (simp [*, errW_none, errW_some] <;> rfl), by repeat (first | (with_reducible first | exact HB.out | apply below_alloc | apply pw_below_drewN | apply below_drew1) | exact HB.out)⟩
          · replace c19 := Bool.eq_false_iff.mpr c19
            subst c19
            have H1 : (some false) = some r := by rw [if_neg (show ¬ (false = true) by decide)] at H; exact H
            clear H
            have H := H1
            clear H1
            obtain rfl := Option.some.inj H
            go_wp2_with (first | ((with_reducible refine gate_callee (f := 34) rfl ?_); refine goesL_ (some 37) rfl rfl Try.func34 (by kernel_rfl) rfl #[.slice A0 l0.length c0] rfl (by (try simp only [List.map_toArray, List.map_cons, List.map_nil]); first | done | rfl | (simp only [List.length_drop, List.length_take]; rfl)) ?_; (with_reducible refine (laws_toIntSS.calls kj7 _ _ l0 t204 _ ?side1 ?side2 A17.out).mono ?_); (case side1 => repeat (first | exact (Kd.C_below HR0.out HB.out) | (with_reducible refine Kd.C_alloc ?_ _) | (with_reducible refine Kd.C_drewN ?_ _) | (with_reducible refine Kd.C_drew ?_))); (case side2 => exact HC0.out); rintro e w22 ⟨v205, rfl, ho0, hb⟩; refine ⟨_, rfl, ?_⟩; have n0_ := Aside0.mk (Kd.S_elder' (by (with_reducible repeat (first | apply Kd.S_alloc | apply Kd.S_drewN | apply Kd.S_drew)); exact HO_6.out) (Kd.S_base ho0) hb); have n1_ := Aside0.mk (Kd.S_lower (Kd.S_new' ho0 (Kd.S_lt (by (with_reducible repeat (first | apply Kd.S_alloc | apply Kd.S_drewN | apply Kd.S_drew)); exact HO_6.out))) (below_size (by repeat (first | (with_reducible first | exact HB.out | apply below_alloc | apply pw_below_drewN | apply below_drew1) | exact HB.out)))); have n2_ := Aside0.mk (below_step (by repeat (first | (with_reducible first | exact HB.out | apply below_alloc | apply pw_below_drewN | apply below_drew1) | exact HB.out)) hb); clear HO_6; clear HB; have HO_6 := n0_; have HO206 := n1_; have HB := n2_; clear n0_ n1_ n2_; (try clear hb); (try clear hb2); (try clear hk); (try clear hi); (try clear ho0); obtain ⟨Ao23, co23, eo23⟩ := Kd.S_slice HO206.out; subst eo23) | ((with_reducible refine gate_callee (f := 16) rfl ?_); refine goesL_ (some 38) rfl rfl Try.func16 (by kernel_rfl) rfl #[.slice Ao13 t199.length co13, .slice Ao23 t204.length co23] rfl (by (try simp only [List.map_toArray, List.map_cons, List.map_nil]); first | done | rfl | (simp only [List.length_drop, List.length_take]; rfl)) ?_; (with_reducible refine (laws_eqIntSS.calls kj7 _ _ t199 _ _ t204 false _ ?side1 ?side2 ?side3 ?side4 A18.out).mono ?_); (case side1 => repeat (first | exact (Kd.S_reads' HO_6.out).2.2 | (with_reducible refine Kd.C_alloc ?_ _) | (with_reducible refine Kd.C_drewN ?_ _) | (with_reducible refine Kd.C_drew ?_))); (case side2 => exact (Kd.S_reads' HO_6.out).2.1); (case side3 => repeat (first | exact (Kd.S_reads' HO206.out).2.2 | (with_reducible refine Kd.C_alloc ?_ _) | (with_reducible refine Kd.C_drewN ?_ _) | (with_reducible refine Kd.C_drew ?_))); (case side4 => exact (Kd.S_reads' HO206.out).2.1); rintro e w' ⟨rfl, ⟨nd, rfl⟩⟩; refine ⟨_, rfl, ?_⟩))
            go_ret
            exact ⟨by first | rfl | (simp [errW_none, errW_some] <;> rfl) | (simp [*, errW_none, errW_some] <;> rfl), by repeat (first | (with_reducible first | exact HB.out | apply below_alloc | apply pw_below_drewN | apply below_drew1) | exact HB.out)⟩

end Go.Proofs.Ytddpdeoflaigeaa.PFnExactQuestionNumber
