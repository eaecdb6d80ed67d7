-- Laid for this claim by a program of the session's own (wip/tool/myprint.py).
import Derived.Test.YtddpdeoflaigeaaMFnExactFirstQuestionx0
import Derived.Test.YtddpdeoflaigeaaMFnExactFirstQuestionx1
import Derived.Test.YtddpdeoflaigeaaMFnExactFirstQuestionx6
import Derived.Test.YtddpdeoflaigeaaMFnExactFirstQuestionx7
import Derived.Test.YtddpdeoflaigeaaMFnExactFirstQuestionx8
import Derived.Test.YtddpdeoflaigeaaMFnExactFirstQuestionx9
namespace Go.Proofs.Ytddpdeoflaigeaa.PFnExactFirstQuestion
open Go.RowKit Go.Proofs.YtddpdeoflaigeaaW.PrintWords Go.Proofs.YtddpdeoflaigeaaW.PrintLast Go.Proofs.YtddpdeoflaigeaaW.PrintMore
attribute [local go_sem] max2_int min2_int max_two min_two max_three min_three max_four min_four   -- for this text's walks alone
set_option linter.unusedVariables false
set_option linter.unusedSimpArgs false

/-! ### impl_FirstQuestion: function 42 -/
theorem KW_g {S : List Int} {m gb mb : Nat} {cA : Addr} {nL cC : Nat} {Ah : Option Addr} {ch : Nat} {As : Option Addr} {cs : Nat} {w : World} (h : KW S m gb mb cA nL cC Ah ch As cs w) : w.heap[gb]? = some (.cells #[.slice (some cA) nL cC, .slice As S.length cs, .map (some mb)] 103 (0, 0)) := h.1
theorem KW_s {S : List Int} {m gb mb : Nat} {cA : Addr} {nL cC : Nat} {Ah : Option Addr} {ch : Nat} {As : Option Addr} {cs : Nat} {w : World} (h : KW S m gb mb cA nL cC Ah ch As cs w) : Kd.C (Kd.int .i64) w As S.length S := Kd.F_now h.2.1
def fqs (S : List Int) (m : Nat) : List Nat → Option (Int × Bool)
  | [] => some (0, false)
  | i :: r => if kparts S 0 0 i = true then ((knq true S m 9 (kadd 0 i) 0).bind fun x => (knq true S m 9 (kadd 0 i) (kadd 0 i)).bind fun y => (knq true S m 9 0 0).bind fun z => if wrap64 (1 + if x < y then y else x) = z then some ((i : Int), true) else fqs S m r) else fqs S m r
def impl_FirstQuestion.f (k : Nat) (l0 : List (List Int)) : Option (Int × Bool) := (impl_IsClass.f k l0).bind fun b =>
  if b = true then (if (l0.length : Int) = 1 then some (0, false) else if (0 < l0.length ∧ l0.length ≤ 256) ∧ (rd_L1 l0 0).length ≤ 8 ∧ (∀ r ∈ l0, r.length ≤ 8) then fqs (ksets l0) (rd_L1 l0 0).length (List.range (rd_L1 l0 0).length) else none) else some (0, false)
set_option maxHeartbeats 8000000 in
set_option maxRecDepth 100000 in
theorem impl_FirstQuestion.calls (k : Nat) (A0 : Option Addr) (c0 : Nat) (l0 : List (List Int)) (r1 : Int) (r2 : Bool) (w : World) (hr0 : Kd.C (Kd.slice 3 (Kd.int .i64)) w A0 l0.length l0) (hc0 : l0.length ≤ c0) (h : impl_FirstQuestion.f k l0 = some (r1, r2)) :
    Calls Try.prog 42 #[.slice A0 l0.length c0] w fun e w' => e = .returned (.tuple #[.int .i64 r1, .bool r2]) ∧ Below w.heap.size w w' := by
  have HR0 := Aside0.mk hr0
  have HC0 := Aside0.mk hc0
  unfold impl_FirstQuestion.f at h
  obtain ⟨b, hb, h⟩ := Option.bind_eq_some_iff.mp h
  have HIC := Aside0.mk hb
  clear hr0 hc0 hb
  cases b with
  | false =>
    rw [if_neg (by simp)] at h
    cases h
    go_enter Try.func42, Try.ntmps42
    go_wp2_with (first | (go_at_call 70; (with_reducible refine (impl_IsClass.calls k _ _ l0 false _ HR0.out HC0.out HIC.out).mono ?_); rintro e w2 ⟨rfl, ⟨nd, rfl⟩⟩))
    go_ret2
    exact ⟨rfl, pw_below_drewN (Below.refl _ _) _⟩
  | true =>
    rw [if_pos rfl] at h
    by_cases c9 : (l0.length : Int) = 1
    · rw [if_pos c9] at h
      cases h
      have d9 : ((l0.length : Int) == 1) = true := beq_iff_eq.2 c9
      clear c9
      go_enter Try.func42, Try.ntmps42
      go_wp2_with (first | (go_at_call 70; (with_reducible refine (impl_IsClass.calls k _ _ l0 true _ HR0.out HC0.out HIC.out).mono ?_); rintro e w2 ⟨rfl, ⟨nd, rfl⟩⟩))
      go_ret2
      exact ⟨rfl, pw_below_drewN (Below.refl _ _) _⟩
    rw [if_neg c9] at h
    have d9 : ((l0.length : Int) == 1) = false := beq_eq_false_iff_ne.2 c9
    by_cases c1 : (0 < l0.length ∧ l0.length ≤ 256) ∧ (rd_L1 l0 0).length ≤ 8 ∧ (∀ r ∈ l0, r.length ≤ 8)
    · rw [if_pos c1] at h
      obtain ⟨m, hm_⟩ : ∃ m, (rd_L1 l0 0).length = m := ⟨_, rfl⟩
      have HM8 := Aside0.mk (hm_ ▸ c1.2.1)
      have HC1 := Aside0.mk c1
      have HQ := Aside0.mk (show fqs (ksets l0) m ((List.range m).drop 0) = some (r1, r2) by rw [List.drop_zero, ← hm_]; exact h)
      have HL := Aside0.mk (show (ksets l0).length ≤ 1048576 by rw [ksets_len]; omega)
      have HLP := Aside0.mk c1.1.1
      have hnl : decide ((0 : Int) < (l0.length : Int)) = true := decide_eq_true (by omega)
      have hnl2 : (0 < l0.length) = True := eq_true c1.1.1
      have hnl3 := c1.1.1
      clear h c1 c9
      go_enter Try.func42, Try.ntmps42
      go_wp2_with (first | (go_at_call 70; (with_reducible refine (impl_IsClass.calls k _ _ l0 true _ HR0.out HC0.out HIC.out).mono ?_); rintro e w2 ⟨rfl, ⟨nd, rfl⟩⟩) | (go_at_call 71; (with_reducible refine (impl_newKnowing.calls l0 _ _ _ (Kd.C_below HR0.out (pw_below_drewN (Below.refl _ _) _)) HC0.out HC1.out.1.2 HC1.out.2.2).mono ?_); rintro e w3 ⟨gb, mb, vs, rfl, g1, g2, g3, g4, g5, g6, g7⟩; have hB_ := (show Below w.heap.size w w3 from below_step (pw_below_drewN (Below.refl w.heap.size w) nd) g7); obtain ⟨ad, Ah, ch, As, cs, e_, hne_, hkw_⟩ := kn_start HR0.out HC1.out.1.1 hB_ g2 g4 g5; cases e_; rw [hm_] at hkw_; have HKW := Aside0.mk hkw_; have HM := Aside0.mk (Memo.made (fun a c v => ∃ j, knq true (ksets l0) m j a c = some v) g6); have HB := Aside0.mk hB_; have HNE := Aside0.mk (And.intro g3 (And.intro hne_ g2)); have hcl := hkw_.2.2; clear g1 g2 g3 g4 g5 g6 g7 hne_ hkw_ hB_))
      clear hcl
      go_loopw [23] (fun v23 w' => ∃ j n' : Nat, v23 = .int .i64 (j : Int) ∧ Aside0 (j ≤ m) ∧ Aside0 (fqs (ksets l0) m ((List.range m).drop j) = some (r1, r2)) ∧ Aside0 (KW (ksets l0) m gb mb ad l0.length c0 Ah ch As cs w') ∧ Aside0 (Memo (fun a c v => ∃ j, knq true (ksets l0) m j a c = some v) w' mb n') ∧ Aside0 (n' ≤ j * (3 * kcost 9)) ∧ Aside0 (Below w.heap.size w w')) (fun v23 _ => m - (intOf v23).toNat)
      case atStart => exact ⟨0, 0, rfl, ⟨Nat.zero_le _⟩, HQ, HKW, HM, ⟨Nat.zero_le _⟩, HB⟩
      case round =>
        clear HQ HKW HM HB
        obtain ⟨j, n', rfl, HJ, HQ, HKW, HM, HN, HB⟩ := hrel
        have hm8 := HM8.out
        by_cases cj : j < m
        · have d0 : decide ((j : Int) < (m : Int)) = true := decide_eq_true (by omega)
          have d1 : decide (j < m) = true := decide_eq_true cj
          have hj8 : j < 8 := by omega
          have hjb : (j : Int) ≤ 8 := by omega
          have h0j : (0 : Int) ≤ (j : Int) := by omega
          have hq := HQ.out
          rw [show (List.range m).drop j = j :: (List.range m).drop (j + 1) by rw [List.drop_eq_getElem_cons (by rw [List.length_range]; exact cj), List.getElem_range]] at hq
          unfold fqs at hq
          have HNB := Aside0.mk (show n' + 3 * kcost 9 ≤ (j + 1) * (3 * kcost 9) ∧ (j + 1) * (3 * kcost 9) ≤ 8 * (3 * kcost 9) from ⟨by rw [Nat.add_mul, Nat.one_mul]; have := HN.out; omega, Nat.mul_le_mul_right _ (by omega)⟩)
          have HJL := Aside0.mk cj
          clear HQ HN cj hm8
          obtain ⟨x, hx⟩ : ∃ x, kadd 0 j = x := ⟨_, rfl⟩
          by_cases cp : kparts (ksets l0) 0 0 j = true
          · rw [if_pos cp] at hq
            obtain ⟨u_, hu_, hq⟩ := Option.bind_eq_some_iff.mp hq
            obtain ⟨v_, hv_, hq⟩ := Option.bind_eq_some_iff.mp hq
            obtain ⟨z_, hz_, hq⟩ := Option.bind_eq_some_iff.mp hq
            rw [hx] at hu_ hv_
            have HX_ := Aside0.mk hu_
            have HY_ := Aside0.mk hv_
            have HZ_ := Aside0.mk hz_
            have HQ := Aside0.mk hq
            clear hq hu_ hv_ hz_
            go_wp2_with (first | (go_at_call 83; (with_reducible refine (impl_knowing_parts.calls (ksets l0) 0 0 j hj8 gb _ _ As cs _ (KW_g HKW.out) (KW_s HKW.out) HL.out).mono ?_); rintro e w5 ⟨rfl, hb⟩; have n0_ := Aside0.mk (KW.below HKW.out hb); have n1_ := Aside0.mk (Memo.below HM.out hb); have n2_ := Aside0.mk (below_step HB.out hb); clear HKW HM HB; have HKW := n0_; have HM := n1_; have HB := n2_; clear n0_ n1_ n2_; clear hb))
            have HA := Aside0.mk (blk_alloc (blk_new w5 (.cells #[.int .i64 x, .int .i64 0] 81)) (.cells #[.int .i64 x, .int .i64 x] 81))
            have HC := Aside0.mk (show ((w5.alloc (.cells #[.int .i64 x, .int .i64 0] 81)).alloc (.cells #[.int .i64 x, .int .i64 x] 81)).heap[w5.heap.size + 1]? = some (.cells #[.int .i64 x, .int .i64 x] 81 (0, 0)) by simpa using blk_new (w5.alloc (.cells #[.int .i64 x, .int .i64 0] 81)) (.cells #[.int .i64 x, .int .i64 x] 81))
            have hlt5 : mb < w5.heap.size := by obtain ⟨D, h1_, _⟩ := HM.out; exact h1_.lt
            have HNA := Aside0.mk (And.intro (show w5.heap.size ≠ mb by omega) (show w5.heap.size + 1 ≠ mb by omega))
            have n0_ := Aside0.mk (KW.below HKW.out (below_alloc (below_alloc (Below.refl w5.heap.size w5) (.cells #[.int .i64 x, .int .i64 0] 81)) (.cells #[.int .i64 x, .int .i64 x] 81)))
            have n1_ := Aside0.mk (Memo.below HM.out (below_alloc (below_alloc (Below.refl w5.heap.size w5) (.cells #[.int .i64 x, .int .i64 0] 81)) (.cells #[.int .i64 x, .int .i64 x] 81)))
            have n2_ := Aside0.mk (below_step HB.out (below_alloc (below_alloc (Below.refl w5.heap.size w5) (.cells #[.int .i64 x, .int .i64 0] 81)) (.cells #[.int .i64 x, .int .i64 x] 81)))
            clear HKW HM HB
            have HKW := n0_
            have HM := n1_
            have HB := n2_
            clear n0_ n1_ n2_
            generalize (w5.alloc (.cells #[.int .i64 x, .int .i64 0] 81)).alloc (.cells #[.int .i64 x, .int .i64 x] 81) = w6 at HKW HM HB HA HC ⊢
            generalize w5.heap.size + 1 = b7 at HC HNA ⊢
            generalize w5.heap.size = b6 at HA HNA ⊢
            clear hlt5
            by_cases ce : wrap64 (1 + if u_ < v_ then v_ else u_) = z_
            · have b0 : (wrap64 (1 + if u_ < v_ then v_ else u_) == z_) = true := beq_iff_eq.2 ce
              have b1 : (IntKind.i64.wrap (1 + if u_ < v_ then v_ else u_) == z_) = true := by rw [i64_w]; exact b0
              have hq := HQ.out
              rw [if_pos ce] at hq
              simp only [Option.some.injEq, Prod.mk.injEq] at hq
              obtain ⟨rfl, rfl⟩ := hq
              clear ce HQ
              have n0_ := Aside0.mk (KW.below HKW.out (below_drew1 (Below.refl _ _)))
              have n1_ := Aside0.mk (Memo.drew HM.out)
              have n2_ := Aside0.mk (below_drew1 HB.out)
              have n3_ := Aside0.mk (blk_drew HA.out)
              have n4_ := Aside0.mk (blk_drew HC.out)
              clear HKW HM HB HA HC
              have HKW := n0_
              have HM := n1_
              have HB := n2_
              have HA := n3_
              have HC := n4_
              clear n0_ n1_ n2_ n3_ n4_
              refine start_ (n := 15) (S := fun w' => w'.cell? ⟨b6, 0, none⟩ = some (.int .i64 x) ∧ w'.cell? ⟨b6, 1, none⟩ = some (.int .i64 0) ∧ w'.cell? ⟨b7, 0, none⟩ = some (.int .i64 x) ∧ w'.cell? ⟨b7, 1, none⟩ = some (.int .i64 x)) (ds := []) #[false, false, false, false, false, false, false, false, false, false, false, false, false, false, false] (by kernel_rfl) rfl rfl ⟨(blk_cell HA.out 0).trans rfl, (blk_cell HA.out 1).trans rfl, (blk_cell HC.out 0).trans rfl, (blk_cell HC.out 1).trans rfl⟩ (fun hHeld => ?_)
              generalize w6.drew = w7 at HKW HM HB HA HC hHeld ⊢
              refine pure_ (i := 0) (N := some 34) (v := ?_) (a' := ?_) #[true, false, false, false, false, false, false, false, false, false, false, false, false, false, false] rfl rfl (by kernel_rfl) (fun _ _ _ h => h) (Or.inl ⟨by rfl, ?_⟩) ?_ ?_
              rotate_left
              · intro w'
                go_simp
                with_reducible rfl
              rotate_left
              · simp only [Act.put, List.setIfInBounds_toArray, List.set_cons_zero, List.set_cons_succ, i64_w, i32_w]
                rfl
              refine pure_ (i := 1) (N := some 35) (v := ?_) (a' := ?_) #[true, true, false, false, false, false, false, false, false, false, false, false, false, false, false] rfl rfl (by kernel_rfl) (fun _ _ _ h => h) (Or.inl ⟨by rfl, ?_⟩) ?_ ?_
              rotate_left
              · intro w'
                go_simp
                with_reducible rfl
              rotate_left
              · simp only [Act.put, List.setIfInBounds_toArray, List.set_cons_zero, List.set_cons_succ, i64_w, i32_w]
                rfl
              refine pure_ (i := 2) (N := some 36) (v := ?_) (a' := ?_) #[true, true, true, false, false, false, false, false, false, false, false, false, false, false, false] rfl rfl (by kernel_rfl) (fun _ _ _ h => h) (Or.inl ⟨by rfl, ?_⟩) ?_ ?_
              rotate_left
              · intro w'
                go_simp
                with_reducible rfl
              rotate_left
              · simp only [Act.put, List.setIfInBounds_toArray, List.set_cons_zero, List.set_cons_succ, i64_w, i32_w]
                rfl
              refine pure_ (i := 5) (N := some 39) (v := ?_) (a' := ?_) #[true, true, true, false, false, true, false, false, false, false, false, false, false, false, false] rfl rfl (by kernel_rfl) (fun _ _ _ h => h) (Or.inl ⟨by rfl, ?_⟩) ?_ ?_
              rotate_left
              · intro w'
                go_simp
                with_reducible rfl
              rotate_left
              · simp only [Act.put, List.setIfInBounds_toArray, List.set_cons_zero, List.set_cons_succ, i64_w, i32_w]
                rfl
              refine pure_ (i := 10) (N := some 44) (v := ?_) (a' := ?_) #[true, true, true, false, false, true, false, false, false, false, true, false, false, false, false] rfl rfl (by kernel_rfl) (fun _ _ _ h => h) (Or.inl ⟨by rfl, ?_⟩) ?_ ?_
              rotate_left
              · intro w'
                go_simp
                with_reducible rfl
              rotate_left
              · simp only [Act.put, List.setIfInBounds_toArray, List.set_cons_zero, List.set_cons_succ, i64_w, i32_w]
                rfl
              refine pure_ (i := 11) (N := some 45) (v := ?_) (a' := ?_) #[true, true, true, false, false, true, false, false, false, false, true, true, false, false, false] rfl rfl (by kernel_rfl) (fun _ _ _ h => h) (Or.inl ⟨by rfl, ?_⟩) ?_ ?_
              rotate_left
              · intro w'
                go_simp
                with_reducible rfl
              rotate_left
              · simp only [Act.put, List.setIfInBounds_toArray, List.set_cons_zero, List.set_cons_succ, i64_w, i32_w]
                rfl
              refine take_ (i := 3) (N := some 37) (v := ?_) (a' := ?_) #[true, true, true, true, false, true, false, false, false, false, true, true, false, false, false] rfl rfl (by kernel_rfl) (fun _ _ _ h => h) (Or.inl ⟨by rfl, ?_⟩) hHeld ?_ ?_
              rotate_left
              · rintro w' ⟨s0, s1, s2, s3⟩
                first | (go_simp; with_reducible rfl) | (simp only [add_plain] at s0 s1 s2 s3; go_simp; with_reducible rfl)
              rotate_left
              · simp only [Act.put, List.setIfInBounds_toArray, List.set_cons_zero, List.set_cons_succ, i64_w, i32_w]
                rfl
              refine take_ (i := 6) (N := some 40) (v := ?_) (a' := ?_) #[true, true, true, true, false, true, true, false, false, false, true, true, false, false, false] rfl rfl (by kernel_rfl) (fun _ _ _ h => h) (Or.inl ⟨by rfl, ?_⟩) hHeld ?_ ?_
              rotate_left
              · rintro w' ⟨s0, s1, s2, s3⟩
                first | (go_simp; with_reducible rfl) | (simp only [add_plain] at s0 s1 s2 s3; go_simp; with_reducible rfl)
              rotate_left
              · simp only [Act.put, List.setIfInBounds_toArray, List.set_cons_zero, List.set_cons_succ, i64_w, i32_w]
                rfl
              refine one_ (i := 4) (N := some 38) #[true, true, true, true, true, true, true, false, false, false, true, true, false, false, false] rfl rfl (by kernel_rfl) (by decide) (fun K hK => ?_)
              refine goes_ Try.func79 (by kernel_rfl) rfl #[.pointer (some ⟨gb, 0, none⟩), .agg #[.int .i64 x, .int .i64 0]] (by rfl) rfl rfl (by simp only [List.map_toArray, List.map_cons, List.map_nil]; rfl) ?_
              with_reducible refine (impl_knowing_questions.calls (ksets l0) m gb mb ad l0.length c0 Ah ch As cs HM8.out HNE.out.1 HNE.out.2.1 HL.out HLP.out 9 x 0 u_ _ _ HX_.out HKW.out HM.out (by have := HNB.out; have := kcost9; omega)).mono ?_
              rintro e w8 ⟨rfl, hg, hm⟩
              refine ⟨_, rfl, ?_⟩
              have n0_ := Aside0.mk (KW.grown HKW.out HNE.out.1 HNE.out.2.1 hg)
              have n1_ := Aside0.mk (hm)
              have n2_ := Aside0.mk (kn_below HB.out HNE.out.2.2 hg)
              have n3_ := Aside0.mk (kgrown_blk HA.out hg HNA.out.1)
              have n4_ := Aside0.mk (kgrown_blk HC.out hg HNA.out.2)
              clear HKW HM HB HA HC
              have HKW := n0_
              have HM := n1_
              have HB := n2_
              have HA := n3_
              have HC := n4_
              clear n0_ n1_ n2_ n3_ n4_
              clear hg hm
              refine hK.out _ _ ⟨(blk_cell HA.out 0).trans rfl, (blk_cell HA.out 1).trans rfl, (blk_cell HC.out 0).trans rfl, (blk_cell HC.out 1).trans rfl⟩ (fun hHeld => ?_)
              clear hK K
              refine norm_ (a' := ?_) ?_ ?_
              rotate_left
              · show Act.put _ (some 38) _ = _
                simp only [Act.put, List.setIfInBounds_toArray, List.set_cons_zero, List.set_cons_succ, i64_w, i32_w]
                rfl
              refine one_ (i := 7) (N := some 41) #[true, true, true, true, true, true, true, true, false, false, true, true, false, false, false] rfl rfl (by kernel_rfl) (by decide) (fun K hK => ?_)
              refine goes_ Try.func79 (by kernel_rfl) rfl #[.pointer (some ⟨gb, 0, none⟩), .agg #[.int .i64 x, .int .i64 x]] (by rfl) rfl rfl (by simp only [List.map_toArray, List.map_cons, List.map_nil]; rfl) ?_
              with_reducible refine (impl_knowing_questions.calls (ksets l0) m gb mb ad l0.length c0 Ah ch As cs HM8.out HNE.out.1 HNE.out.2.1 HL.out HLP.out 9 x x v_ _ _ HY_.out HKW.out HM.out (by have := HNB.out; have := kcost9; omega)).mono ?_
              rintro e w9 ⟨rfl, hg, hm⟩
              refine ⟨_, rfl, ?_⟩
              have n0_ := Aside0.mk (KW.grown HKW.out HNE.out.1 HNE.out.2.1 hg)
              have n1_ := Aside0.mk (hm)
              have n2_ := Aside0.mk (kn_below HB.out HNE.out.2.2 hg)
              have n3_ := Aside0.mk (kgrown_blk HA.out hg HNA.out.1)
              have n4_ := Aside0.mk (kgrown_blk HC.out hg HNA.out.2)
              clear HKW HM HB HA HC
              have HKW := n0_
              have HM := n1_
              have HB := n2_
              have HA := n3_
              have HC := n4_
              clear n0_ n1_ n2_ n3_ n4_
              clear hg hm
              refine hK.out _ _ ⟨(blk_cell HA.out 0).trans rfl, (blk_cell HA.out 1).trans rfl, (blk_cell HC.out 0).trans rfl, (blk_cell HC.out 1).trans rfl⟩ (fun hHeld => ?_)
              clear hK K
              refine norm_ (a' := ?_) ?_ ?_
              rotate_left
              · show Act.put _ (some 41) _ = _
                simp only [Act.put, List.setIfInBounds_toArray, List.set_cons_zero, List.set_cons_succ, i64_w, i32_w]
                rfl
              refine pure_ (i := 8) (N := some 42) (v := ?_) (a' := ?_) #[true, true, true, true, true, true, true, true, true, false, true, true, false, false, false] rfl rfl (by kernel_rfl) (fun _ _ _ h => h) (Or.inl ⟨by rfl, ?_⟩) ?_ ?_
              rotate_left
              · intro w'
                go_simp
                with_reducible rfl
              rotate_left
              · simp only [Act.put, List.setIfInBounds_toArray, List.set_cons_zero, List.set_cons_succ, i64_w, i32_w]
                rfl
              refine pure_ (i := 9) (N := some 43) (v := ?_) (a' := ?_) #[true, true, true, true, true, true, true, true, true, true, true, true, false, false, false] rfl rfl (by kernel_rfl) (fun _ _ _ h => h) (Or.inl ⟨by rfl, ?_⟩) ?_ ?_
              rotate_left
              · intro w'
                go_simp
                with_reducible rfl
              rotate_left
              · simp only [Act.put, List.setIfInBounds_toArray, List.set_cons_zero, List.set_cons_succ, i64_w, i32_w]
                rfl
              refine one_ (i := 12) (N := some 46) #[true, true, true, true, true, true, true, true, true, true, true, true, true, false, false] rfl rfl (by kernel_rfl) (by decide) (fun K hK => ?_)
              refine goes_ Try.func79 (by kernel_rfl) rfl #[.pointer (some ⟨gb, 0, none⟩), .agg #[.int .i64 0, .int .i64 0]] (by rfl) rfl rfl (by simp only [List.map_toArray, List.map_cons, List.map_nil]; rfl) ?_
              with_reducible refine (impl_knowing_questions.calls (ksets l0) m gb mb ad l0.length c0 Ah ch As cs HM8.out HNE.out.1 HNE.out.2.1 HL.out HLP.out 9 0 0 z_ _ _ HZ_.out HKW.out HM.out (by have := HNB.out; have := kcost9; omega)).mono ?_
              rintro e wA ⟨rfl, hg, hm⟩
              refine ⟨_, rfl, ?_⟩
              have n0_ := Aside0.mk (KW.grown HKW.out HNE.out.1 HNE.out.2.1 hg)
              have n1_ := Aside0.mk (hm)
              have n2_ := Aside0.mk (kn_below HB.out HNE.out.2.2 hg)
              have n3_ := Aside0.mk (kgrown_blk HA.out hg HNA.out.1)
              have n4_ := Aside0.mk (kgrown_blk HC.out hg HNA.out.2)
              clear HKW HM HB HA HC
              have HKW := n0_
              have HM := n1_
              have HB := n2_
              have HA := n3_
              have HC := n4_
              clear n0_ n1_ n2_ n3_ n4_
              clear hg hm
              refine hK.out _ _ ⟨(blk_cell HA.out 0).trans rfl, (blk_cell HA.out 1).trans rfl, (blk_cell HC.out 0).trans rfl, (blk_cell HC.out 1).trans rfl⟩ (fun hHeld => ?_)
              clear hK K
              refine norm_ (a' := ?_) ?_ ?_
              rotate_left
              · show Act.put _ (some 46) _ = _
                simp only [Act.put, List.setIfInBounds_toArray, List.set_cons_zero, List.set_cons_succ, i64_w, i32_w]
                rfl
              refine pure_ (i := 13) (N := some 47) (v := ?_) (a' := ?_) #[true, true, true, true, true, true, true, true, true, true, true, true, true, true, false] rfl rfl (by kernel_rfl) (fun _ _ _ h => h) (Or.inl ⟨by rfl, ?_⟩) ?_ ?_
              rotate_left
              · intro w'
                go_simp
                with_reducible rfl
              rotate_left
              · simp only [Act.put, List.setIfInBounds_toArray, List.set_cons_zero, List.set_cons_succ, i64_w, i32_w]
                rfl
              refine pure_ (i := 14) (N := some 48) (v := ?_) (a' := ?_) #[true, true, true, true, true, true, true, true, true, true, true, true, true, true, true] rfl rfl (by kernel_rfl) (fun _ _ _ h => h) (Or.inl ⟨by rfl, ?_⟩) ?_ ?_
              rotate_left
              · intro w'
                go_simp
                with_reducible rfl
              rotate_left
              · simp only [Act.put, List.setIfInBounds_toArray, List.set_cons_zero, List.set_cons_succ, i64_w, i32_w]
                rfl
              refine done_ (by kernel_rfl) ?_
              go_wp2
              all_goals go_ret2
              all_goals exact ⟨rfl, HB.out⟩
            · have b0 : (wrap64 (1 + if u_ < v_ then v_ else u_) == z_) = false := beq_eq_false_iff_ne.2 ce
              have b1 : (IntKind.i64.wrap (1 + if u_ < v_ then v_ else u_) == z_) = false := by rw [i64_w]; exact b0
              have hq := HQ.out
              rw [if_neg ce] at hq
              have HQ2 := Aside0.mk hq
              clear ce HQ hq
              have n0_ := Aside0.mk (KW.below HKW.out (below_drew1 (Below.refl _ _)))
              have n1_ := Aside0.mk (Memo.drew HM.out)
              have n2_ := Aside0.mk (below_drew1 HB.out)
              have n3_ := Aside0.mk (blk_drew HA.out)
              have n4_ := Aside0.mk (blk_drew HC.out)
              clear HKW HM HB HA HC
              have HKW := n0_
              have HM := n1_
              have HB := n2_
              have HA := n3_
              have HC := n4_
              clear n0_ n1_ n2_ n3_ n4_
              refine start_ (n := 15) (S := fun w' => w'.cell? ⟨b6, 0, none⟩ = some (.int .i64 x) ∧ w'.cell? ⟨b6, 1, none⟩ = some (.int .i64 0) ∧ w'.cell? ⟨b7, 0, none⟩ = some (.int .i64 x) ∧ w'.cell? ⟨b7, 1, none⟩ = some (.int .i64 x)) (ds := []) #[false, false, false, false, false, false, false, false, false, false, false, false, false, false, false] (by kernel_rfl) rfl rfl ⟨(blk_cell HA.out 0).trans rfl, (blk_cell HA.out 1).trans rfl, (blk_cell HC.out 0).trans rfl, (blk_cell HC.out 1).trans rfl⟩ (fun hHeld => ?_)
              generalize w6.drew = w7 at HKW HM HB HA HC hHeld ⊢
              refine pure_ (i := 0) (N := some 34) (v := ?_) (a' := ?_) #[true, false, false, false, false, false, false, false, false, false, false, false, false, false, false] rfl rfl (by kernel_rfl) (fun _ _ _ h => h) (Or.inl ⟨by rfl, ?_⟩) ?_ ?_
              rotate_left
              · intro w'
                go_simp
                with_reducible rfl
              rotate_left
              · simp only [Act.put, List.setIfInBounds_toArray, List.set_cons_zero, List.set_cons_succ, i64_w, i32_w]
                rfl
              refine pure_ (i := 1) (N := some 35) (v := ?_) (a' := ?_) #[true, true, false, false, false, false, false, false, false, false, false, false, false, false, false] rfl rfl (by kernel_rfl) (fun _ _ _ h => h) (Or.inl ⟨by rfl, ?_⟩) ?_ ?_
              rotate_left
              · intro w'
                go_simp
                with_reducible rfl
              rotate_left
              · simp only [Act.put, List.setIfInBounds_toArray, List.set_cons_zero, List.set_cons_succ, i64_w, i32_w]
                rfl
              refine pure_ (i := 2) (N := some 36) (v := ?_) (a' := ?_) #[true, true, true, false, false, false, false, false, false, false, false, false, false, false, false] rfl rfl (by kernel_rfl) (fun _ _ _ h => h) (Or.inl ⟨by rfl, ?_⟩) ?_ ?_
              rotate_left
              · intro w'
                go_simp
                with_reducible rfl
              rotate_left
              · simp only [Act.put, List.setIfInBounds_toArray, List.set_cons_zero, List.set_cons_succ, i64_w, i32_w]
                rfl
              refine pure_ (i := 5) (N := some 39) (v := ?_) (a' := ?_) #[true, true, true, false, false, true, false, false, false, false, false, false, false, false, false] rfl rfl (by kernel_rfl) (fun _ _ _ h => h) (Or.inl ⟨by rfl, ?_⟩) ?_ ?_
              rotate_left
              · intro w'
                go_simp
                with_reducible rfl
              rotate_left
              · simp only [Act.put, List.setIfInBounds_toArray, List.set_cons_zero, List.set_cons_succ, i64_w, i32_w]
                rfl
              refine pure_ (i := 10) (N := some 44) (v := ?_) (a' := ?_) #[true, true, true, false, false, true, false, false, false, false, true, false, false, false, false] rfl rfl (by kernel_rfl) (fun _ _ _ h => h) (Or.inl ⟨by rfl, ?_⟩) ?_ ?_
              rotate_left
              · intro w'
                go_simp
                with_reducible rfl
              rotate_left
              · simp only [Act.put, List.setIfInBounds_toArray, List.set_cons_zero, List.set_cons_succ, i64_w, i32_w]
                rfl
              refine pure_ (i := 11) (N := some 45) (v := ?_) (a' := ?_) #[true, true, true, false, false, true, false, false, false, false, true, true, false, false, false] rfl rfl (by kernel_rfl) (fun _ _ _ h => h) (Or.inl ⟨by rfl, ?_⟩) ?_ ?_
              rotate_left
              · intro w'
                go_simp
                with_reducible rfl
              rotate_left
              · simp only [Act.put, List.setIfInBounds_toArray, List.set_cons_zero, List.set_cons_succ, i64_w, i32_w]
                rfl
              refine take_ (i := 3) (N := some 37) (v := ?_) (a' := ?_) #[true, true, true, true, false, true, false, false, false, false, true, true, false, false, false] rfl rfl (by kernel_rfl) (fun _ _ _ h => h) (Or.inl ⟨by rfl, ?_⟩) hHeld ?_ ?_
              rotate_left
              · rintro w' ⟨s0, s1, s2, s3⟩
                first | (go_simp; with_reducible rfl) | (simp only [add_plain] at s0 s1 s2 s3; go_simp; with_reducible rfl)
              rotate_left
              · simp only [Act.put, List.setIfInBounds_toArray, List.set_cons_zero, List.set_cons_succ, i64_w, i32_w]
                rfl
              refine take_ (i := 6) (N := some 40) (v := ?_) (a' := ?_) #[true, true, true, true, false, true, true, false, false, false, true, true, false, false, false] rfl rfl (by kernel_rfl) (fun _ _ _ h => h) (Or.inl ⟨by rfl, ?_⟩) hHeld ?_ ?_
              rotate_left
              · rintro w' ⟨s0, s1, s2, s3⟩
                first | (go_simp; with_reducible rfl) | (simp only [add_plain] at s0 s1 s2 s3; go_simp; with_reducible rfl)
              rotate_left
              · simp only [Act.put, List.setIfInBounds_toArray, List.set_cons_zero, List.set_cons_succ, i64_w, i32_w]
                rfl
              refine one_ (i := 4) (N := some 38) #[true, true, true, true, true, true, true, false, false, false, true, true, false, false, false] rfl rfl (by kernel_rfl) (by decide) (fun K hK => ?_)
              refine goes_ Try.func79 (by kernel_rfl) rfl #[.pointer (some ⟨gb, 0, none⟩), .agg #[.int .i64 x, .int .i64 0]] (by rfl) rfl rfl (by simp only [List.map_toArray, List.map_cons, List.map_nil]; rfl) ?_
              with_reducible refine (impl_knowing_questions.calls (ksets l0) m gb mb ad l0.length c0 Ah ch As cs HM8.out HNE.out.1 HNE.out.2.1 HL.out HLP.out 9 x 0 u_ _ _ HX_.out HKW.out HM.out (by have := HNB.out; have := kcost9; omega)).mono ?_
              rintro e w8 ⟨rfl, hg, hm⟩
              refine ⟨_, rfl, ?_⟩
              have n0_ := Aside0.mk (KW.grown HKW.out HNE.out.1 HNE.out.2.1 hg)
              have n1_ := Aside0.mk (hm)
              have n2_ := Aside0.mk (kn_below HB.out HNE.out.2.2 hg)
              have n3_ := Aside0.mk (kgrown_blk HA.out hg HNA.out.1)
              have n4_ := Aside0.mk (kgrown_blk HC.out hg HNA.out.2)
              clear HKW HM HB HA HC
              have HKW := n0_
              have HM := n1_
              have HB := n2_
              have HA := n3_
              have HC := n4_
              clear n0_ n1_ n2_ n3_ n4_
              clear hg hm
              refine hK.out _ _ ⟨(blk_cell HA.out 0).trans rfl, (blk_cell HA.out 1).trans rfl, (blk_cell HC.out 0).trans rfl, (blk_cell HC.out 1).trans rfl⟩ (fun hHeld => ?_)
              clear hK K
              refine norm_ (a' := ?_) ?_ ?_
              rotate_left
              · show Act.put _ (some 38) _ = _
                simp only [Act.put, List.setIfInBounds_toArray, List.set_cons_zero, List.set_cons_succ, i64_w, i32_w]
                rfl
              refine one_ (i := 7) (N := some 41) #[true, true, true, true, true, true, true, true, false, false, true, true, false, false, false] rfl rfl (by kernel_rfl) (by decide) (fun K hK => ?_)
              refine goes_ Try.func79 (by kernel_rfl) rfl #[.pointer (some ⟨gb, 0, none⟩), .agg #[.int .i64 x, .int .i64 x]] (by rfl) rfl rfl (by simp only [List.map_toArray, List.map_cons, List.map_nil]; rfl) ?_
              with_reducible refine (impl_knowing_questions.calls (ksets l0) m gb mb ad l0.length c0 Ah ch As cs HM8.out HNE.out.1 HNE.out.2.1 HL.out HLP.out 9 x x v_ _ _ HY_.out HKW.out HM.out (by have := HNB.out; have := kcost9; omega)).mono ?_
              rintro e w9 ⟨rfl, hg, hm⟩
              refine ⟨_, rfl, ?_⟩
              have n0_ := Aside0.mk (KW.grown HKW.out HNE.out.1 HNE.out.2.1 hg)
              have n1_ := Aside0.mk (hm)
              have n2_ := Aside0.mk (kn_below HB.out HNE.out.2.2 hg)
              have n3_ := Aside0.mk (kgrown_blk HA.out hg HNA.out.1)
              have n4_ := Aside0.mk (kgrown_blk HC.out hg HNA.out.2)
              clear HKW HM HB HA HC
              have HKW := n0_
              have HM := n1_
              have HB := n2_
              have HA := n3_
              have HC := n4_
              clear n0_ n1_ n2_ n3_ n4_
              clear hg hm
              refine hK.out _ _ ⟨(blk_cell HA.out 0).trans rfl, (blk_cell HA.out 1).trans rfl, (blk_cell HC.out 0).trans rfl, (blk_cell HC.out 1).trans rfl⟩ (fun hHeld => ?_)
              clear hK K
              refine norm_ (a' := ?_) ?_ ?_
              rotate_left
              · show Act.put _ (some 41) _ = _
                simp only [Act.put, List.setIfInBounds_toArray, List.set_cons_zero, List.set_cons_succ, i64_w, i32_w]
                rfl
              refine pure_ (i := 8) (N := some 42) (v := ?_) (a' := ?_) #[true, true, true, true, true, true, true, true, true, false, true, true, false, false, false] rfl rfl (by kernel_rfl) (fun _ _ _ h => h) (Or.inl ⟨by rfl, ?_⟩) ?_ ?_
              rotate_left
              · intro w'
                go_simp
                with_reducible rfl
              rotate_left
              · simp only [Act.put, List.setIfInBounds_toArray, List.set_cons_zero, List.set_cons_succ, i64_w, i32_w]
                rfl
              refine pure_ (i := 9) (N := some 43) (v := ?_) (a' := ?_) #[true, true, true, true, true, true, true, true, true, true, true, true, false, false, false] rfl rfl (by kernel_rfl) (fun _ _ _ h => h) (Or.inl ⟨by rfl, ?_⟩) ?_ ?_
              rotate_left
              · intro w'
                go_simp
                with_reducible rfl
              rotate_left
              · simp only [Act.put, List.setIfInBounds_toArray, List.set_cons_zero, List.set_cons_succ, i64_w, i32_w]
                rfl
              refine one_ (i := 12) (N := some 46) #[true, true, true, true, true, true, true, true, true, true, true, true, true, false, false] rfl rfl (by kernel_rfl) (by decide) (fun K hK => ?_)
              refine goes_ Try.func79 (by kernel_rfl) rfl #[.pointer (some ⟨gb, 0, none⟩), .agg #[.int .i64 0, .int .i64 0]] (by rfl) rfl rfl (by simp only [List.map_toArray, List.map_cons, List.map_nil]; rfl) ?_
              with_reducible refine (impl_knowing_questions.calls (ksets l0) m gb mb ad l0.length c0 Ah ch As cs HM8.out HNE.out.1 HNE.out.2.1 HL.out HLP.out 9 0 0 z_ _ _ HZ_.out HKW.out HM.out (by have := HNB.out; have := kcost9; omega)).mono ?_
              rintro e wA ⟨rfl, hg, hm⟩
              refine ⟨_, rfl, ?_⟩
              have n0_ := Aside0.mk (KW.grown HKW.out HNE.out.1 HNE.out.2.1 hg)
              have n1_ := Aside0.mk (hm)
              have n2_ := Aside0.mk (kn_below HB.out HNE.out.2.2 hg)
              have n3_ := Aside0.mk (kgrown_blk HA.out hg HNA.out.1)
              have n4_ := Aside0.mk (kgrown_blk HC.out hg HNA.out.2)
              clear HKW HM HB HA HC
              have HKW := n0_
              have HM := n1_
              have HB := n2_
              have HA := n3_
              have HC := n4_
              clear n0_ n1_ n2_ n3_ n4_
              clear hg hm
              refine hK.out _ _ ⟨(blk_cell HA.out 0).trans rfl, (blk_cell HA.out 1).trans rfl, (blk_cell HC.out 0).trans rfl, (blk_cell HC.out 1).trans rfl⟩ (fun hHeld => ?_)
              clear hK K
              refine norm_ (a' := ?_) ?_ ?_
              rotate_left
              · show Act.put _ (some 46) _ = _
                simp only [Act.put, List.setIfInBounds_toArray, List.set_cons_zero, List.set_cons_succ, i64_w, i32_w]
                rfl
              refine pure_ (i := 13) (N := some 47) (v := ?_) (a' := ?_) #[true, true, true, true, true, true, true, true, true, true, true, true, true, true, false] rfl rfl (by kernel_rfl) (fun _ _ _ h => h) (Or.inl ⟨by rfl, ?_⟩) ?_ ?_
              rotate_left
              · intro w'
                go_simp
                with_reducible rfl
              rotate_left
              · simp only [Act.put, List.setIfInBounds_toArray, List.set_cons_zero, List.set_cons_succ, i64_w, i32_w]
                rfl
              refine pure_ (i := 14) (N := some 48) (v := ?_) (a' := ?_) #[true, true, true, true, true, true, true, true, true, true, true, true, true, true, true] rfl rfl (by kernel_rfl) (fun _ _ _ h => h) (Or.inl ⟨by rfl, ?_⟩) ?_ ?_
              rotate_left
              · intro w'
                go_simp
                with_reducible rfl
              rotate_left
              · simp only [Act.put, List.setIfInBounds_toArray, List.set_cons_zero, List.set_cons_succ, i64_w, i32_w]
                rfl
              refine done_ (by kernel_rfl) ?_
              go_wp2
              go_roundw
              case rel => exact ⟨j + 1, _, by go_num, ⟨HJL.out⟩, HQ2, HKW, HM, ⟨by have := HNB.out; omega⟩, HB⟩
              case measure => have := HJL.out; simp [intOf]; omega
          · rw [if_neg cp] at hq
            have cp' : kparts (ksets l0) 0 0 j = false := by simpa using cp
            have HQ := Aside0.mk hq
            clear hq cp
            go_wp2_with (first | (go_at_call 83; (with_reducible refine (impl_knowing_parts.calls (ksets l0) 0 0 j hj8 gb _ _ As cs _ (KW_g HKW.out) (KW_s HKW.out) HL.out).mono ?_); rintro e w5 ⟨rfl, hb⟩; have n0_ := Aside0.mk (KW.below HKW.out hb); have n1_ := Aside0.mk (Memo.below HM.out hb); have n2_ := Aside0.mk (below_step HB.out hb); clear HKW HM HB; have HKW := n0_; have HM := n1_; have HB := n2_; clear n0_ n1_ n2_; clear hb))
            refine start_ (n := 15) (S := fun w' => True) (ds := []) #[false, false, false, false, false, false, false, false, false, false, false, false, false, false, false] (by kernel_rfl) rfl rfl trivial (fun hHeld => ?_)
            refine pure_ (i := 0) (N := some 34) (v := ?_) (a' := ?_) #[true, false, false, false, false, false, false, false, false, false, false, false, false, false, false] rfl rfl (by kernel_rfl) (fun _ _ _ h => h) (Or.inl ⟨by rfl, ?_⟩) ?_ ?_
            rotate_left
            · intro w'
              go_simp
              with_reducible rfl
            rotate_left
            · simp only [Act.put, List.setIfInBounds_toArray, List.set_cons_zero, List.set_cons_succ, i64_w, i32_w]
              rfl
            refine pure_ (i := 1) (N := some 35) (v := ?_) (a' := ?_) #[true, true, false, false, false, false, false, false, false, false, false, false, false, false, false] rfl rfl (by kernel_rfl) (fun _ _ _ h => h) (Or.inl ⟨by rfl, ?_⟩) ?_ ?_
            rotate_left
            · intro w'
              go_simp
              with_reducible rfl
            rotate_left
            · simp only [Act.put, List.setIfInBounds_toArray, List.set_cons_zero, List.set_cons_succ, i64_w, i32_w]
              rfl
            refine pure_ (i := 2) (N := some 36) (v := undef) (a' := ?_) #[true, true, true, false, false, false, false, false, false, false, false, false, false, false, false] rfl rfl (by kernel_rfl) (fun _ _ _ h => h) (Or.inr ⟨by rfl, rfl⟩) ?_ ?_
            rotate_left
            · simp only [Act.put, List.setIfInBounds_toArray, List.set_cons_zero, List.set_cons_succ, i64_w, i32_w]
              rfl
            refine pure_ (i := 3) (N := some 37) (v := undef) (a' := ?_) #[true, true, true, true, false, false, false, false, false, false, false, false, false, false, false] rfl rfl (by kernel_rfl) (fun _ _ _ h => h) (Or.inr ⟨by rfl, rfl⟩) ?_ ?_
            rotate_left
            · simp only [Act.put, List.setIfInBounds_toArray, List.set_cons_zero, List.set_cons_succ, i64_w, i32_w]
              rfl
            refine pure_ (i := 4) (N := some 38) (v := undef) (a' := ?_) #[true, true, true, true, true, false, false, false, false, false, false, false, false, false, false] rfl rfl (by kernel_rfl) (fun _ _ _ h => h) (Or.inr ⟨by rfl, rfl⟩) ?_ ?_
            rotate_left
            · simp only [Act.put, List.setIfInBounds_toArray, List.set_cons_zero, List.set_cons_succ, i64_w, i32_w]
              rfl
            refine pure_ (i := 5) (N := some 39) (v := undef) (a' := ?_) #[true, true, true, true, true, true, false, false, false, false, false, false, false, false, false] rfl rfl (by kernel_rfl) (fun _ _ _ h => h) (Or.inr ⟨by rfl, rfl⟩) ?_ ?_
            rotate_left
            · simp only [Act.put, List.setIfInBounds_toArray, List.set_cons_zero, List.set_cons_succ, i64_w, i32_w]
              rfl
            refine pure_ (i := 6) (N := some 40) (v := undef) (a' := ?_) #[true, true, true, true, true, true, true, false, false, false, false, false, false, false, false] rfl rfl (by kernel_rfl) (fun _ _ _ h => h) (Or.inr ⟨by rfl, rfl⟩) ?_ ?_
            rotate_left
            · simp only [Act.put, List.setIfInBounds_toArray, List.set_cons_zero, List.set_cons_succ, i64_w, i32_w]
              rfl
            refine pure_ (i := 7) (N := some 41) (v := undef) (a' := ?_) #[true, true, true, true, true, true, true, true, false, false, false, false, false, false, false] rfl rfl (by kernel_rfl) (fun _ _ _ h => h) (Or.inr ⟨by rfl, rfl⟩) ?_ ?_
            rotate_left
            · simp only [Act.put, List.setIfInBounds_toArray, List.set_cons_zero, List.set_cons_succ, i64_w, i32_w]
              rfl
            refine pure_ (i := 8) (N := some 42) (v := undef) (a' := ?_) #[true, true, true, true, true, true, true, true, true, false, false, false, false, false, false] rfl rfl (by kernel_rfl) (fun _ _ _ h => h) (Or.inr ⟨by rfl, rfl⟩) ?_ ?_
            rotate_left
            · simp only [Act.put, List.setIfInBounds_toArray, List.set_cons_zero, List.set_cons_succ, i64_w, i32_w]
              rfl
            refine pure_ (i := 9) (N := some 43) (v := undef) (a' := ?_) #[true, true, true, true, true, true, true, true, true, true, false, false, false, false, false] rfl rfl (by kernel_rfl) (fun _ _ _ h => h) (Or.inr ⟨by rfl, rfl⟩) ?_ ?_
            rotate_left
            · simp only [Act.put, List.setIfInBounds_toArray, List.set_cons_zero, List.set_cons_succ, i64_w, i32_w]
              rfl
            refine pure_ (i := 10) (N := some 44) (v := undef) (a' := ?_) #[true, true, true, true, true, true, true, true, true, true, true, false, false, false, false] rfl rfl (by kernel_rfl) (fun _ _ _ h => h) (Or.inr ⟨by rfl, rfl⟩) ?_ ?_
            rotate_left
            · simp only [Act.put, List.setIfInBounds_toArray, List.set_cons_zero, List.set_cons_succ, i64_w, i32_w]
              rfl
            refine pure_ (i := 11) (N := some 45) (v := undef) (a' := ?_) #[true, true, true, true, true, true, true, true, true, true, true, true, false, false, false] rfl rfl (by kernel_rfl) (fun _ _ _ h => h) (Or.inr ⟨by rfl, rfl⟩) ?_ ?_
            rotate_left
            · simp only [Act.put, List.setIfInBounds_toArray, List.set_cons_zero, List.set_cons_succ, i64_w, i32_w]
              rfl
            refine pure_ (i := 12) (N := some 46) (v := undef) (a' := ?_) #[true, true, true, true, true, true, true, true, true, true, true, true, true, false, false] rfl rfl (by kernel_rfl) (fun _ _ _ h => h) (Or.inr ⟨by rfl, rfl⟩) ?_ ?_
            rotate_left
            · simp only [Act.put, List.setIfInBounds_toArray, List.set_cons_zero, List.set_cons_succ, i64_w, i32_w]
              rfl
            refine pure_ (i := 13) (N := some 47) (v := undef) (a' := ?_) #[true, true, true, true, true, true, true, true, true, true, true, true, true, true, false] rfl rfl (by kernel_rfl) (fun _ _ _ h => h) (Or.inr ⟨by rfl, rfl⟩) ?_ ?_
            rotate_left
            · simp only [Act.put, List.setIfInBounds_toArray, List.set_cons_zero, List.set_cons_succ, i64_w, i32_w]
              rfl
            refine pure_ (i := 14) (N := some 48) (v := ?_) (a' := ?_) #[true, true, true, true, true, true, true, true, true, true, true, true, true, true, true] rfl rfl (by kernel_rfl) (fun _ _ _ h => h) (Or.inl ⟨by rfl, ?_⟩) ?_ ?_
            rotate_left
            · intro w'
              go_simp
              with_reducible rfl
            rotate_left
            · simp only [Act.put, List.setIfInBounds_toArray, List.set_cons_zero, List.set_cons_succ, i64_w, i32_w]
              rfl
            refine done_ (by kernel_rfl) ?_
            go_wp2
            go_roundw
            case rel => exact ⟨j + 1, n', by go_num, ⟨HJL.out⟩, HQ, ⟨KW.below HKW.out (by repeat (first | exact Below.refl _ _ | apply below_drew1 | apply below_alloc))⟩, ⟨Memo.below HM.out (by repeat (first | exact Below.refl _ _ | apply below_drew1 | apply below_alloc))⟩, ⟨by have := HNB.out; omega⟩, ⟨by repeat (first | exact HB.out | apply below_drew1 | apply below_alloc)⟩⟩
            case measure => have := HJL.out; simp [intOf]; omega
        · have d0 : decide ((j : Int) < (m : Int)) = false := decide_eq_false (by omega)
          have d1 : decide (j < m) = false := decide_eq_false cj
          have e : j = m := by have := HJ.out; omega
          have hq := HQ.out
          rw [e, List.drop_of_length_le (by simp)] at hq
          simp only [fqs, Option.some.injEq, Prod.mk.injEq] at hq
          obtain ⟨rfl, rfl⟩ := hq
          clear e cj hm8 HQ
          go_wp2
          go_ret2
          exact ⟨rfl, HB.out⟩
    · rw [if_neg c1] at h; cases h
theorem impl_FirstQuestion.mono : ∀ a0 k, LeO (impl_FirstQuestion.f k a0) (impl_FirstQuestion.f (k + 1) a0) := by
  intro a0 k
  unfold impl_FirstQuestion.f
  exact LeO.bind (impl_IsClass.mono _ k) fun _ => LeO.refl _

/-! ### laws_FnExactFirstQuestion: function 8 -/
def laws_FnExactFirstQuestion.j0 : Nat → List (List Int) → List (List Int) → Bool → Option (Bool)
  | 0, _, _, _ => none
  | k + 1, x0, x6, x34 => if x34 = true then (some false) else ((laws_toIntSS.f k x0).bind fun t215 => ((laws_eqIntSS.f k x6 t215).bind fun t218 => (if t218 = true then (some true) else (some false))))
def laws_FnExactFirstQuestion.f (k : Nat) (l0 : List (List Int)) : Option (Bool) := (laws_szIntSS.f k l0 1048576).bind fun t204 => (if t204 < 0 then (some true) else ((laws_toIntSS.f k l0).bind fun t205 => ((spec_FirstQuestion.f k t205).bind fun bt208 => ((laws_toIntSS.f k l0).bind fun t210 => ((impl_FirstQuestion.f k t210).bind fun bt213 => (if bt213.1 = bt208.1 then (laws_FnExactFirstQuestion.j0 k l0 t210 (bt213.2 != bt208.2)) else (laws_FnExactFirstQuestion.j0 k l0 t210 true)))))))
theorem laws_FnExactFirstQuestion.mono_l : ∀ k, (∀ y0 y1 y2, LeO (laws_FnExactFirstQuestion.j0 k y0 y1 y2) (laws_FnExactFirstQuestion.j0 (k + 1) y0 y1 y2))
  | 0 => fun _ _ _ r h => by simp [laws_FnExactFirstQuestion.j0] at h
  | k + 1 => by
    have ih0 := laws_FnExactFirstQuestion.mono_l k
    · intro y0 y1 y2
      unfold laws_FnExactFirstQuestion.j0
      repeat' first
      | (with_reducible exact ih0 _ _ _)
      | (with_reducible exact impl_FirstQuestion.mono _ _)
      | (with_reducible exact laws_eqIntSS.mono _ _ _)
      | (with_reducible exact laws_szIntSS.mono _ _ _)
      | (with_reducible exact laws_toIntSS.mono _ _)
      | (with_reducible exact spec_FirstQuestion.mono _ _)
      | (with_reducible exact LeO.refl _)
      | (with_reducible exact LeO.none _)
      | (with_reducible refine LeO.ite ?_ ?_)
      | (with_reducible refine LeO.bind ?_ (fun _ => ?_))
      | exact ih0 _ _ _
      | exact impl_FirstQuestion.mono _ _
      | exact laws_eqIntSS.mono _ _ _
      | exact laws_szIntSS.mono _ _ _
      | exact laws_toIntSS.mono _ _
      | exact spec_FirstQuestion.mono _ _
      | exact LeO.none _
      | refine LeO.ite ?_ ?_
      | refine LeO.bind ?_ (fun _ => ?_)
theorem laws_FnExactFirstQuestion.mono : ∀ a0 k, LeO (laws_FnExactFirstQuestion.f k a0) (laws_FnExactFirstQuestion.f (k + 1) a0) := by
  intro a0 k
  have ih0 := laws_FnExactFirstQuestion.mono_l k
  unfold laws_FnExactFirstQuestion.f
  repeat' first
      | (with_reducible exact ih0 _ _ _)
      | (with_reducible exact impl_FirstQuestion.mono _ _)
      | (with_reducible exact laws_eqIntSS.mono _ _ _)
      | (with_reducible exact laws_szIntSS.mono _ _ _)
      | (with_reducible exact laws_toIntSS.mono _ _)
      | (with_reducible exact spec_FirstQuestion.mono _ _)
      | (with_reducible exact LeO.refl _)
      | (with_reducible exact LeO.none _)
      | (with_reducible refine LeO.ite ?_ ?_)
      | (with_reducible refine LeO.bind ?_ (fun _ => ?_))
      | exact ih0 _ _ _
      | exact impl_FirstQuestion.mono _ _
      | exact laws_eqIntSS.mono _ _ _
      | exact laws_szIntSS.mono _ _ _
      | exact laws_toIntSS.mono _ _
      | exact spec_FirstQuestion.mono _ _
      | exact LeO.none _
      | refine LeO.ite ?_ ?_
      | refine LeO.bind ?_ (fun _ => ?_)
set_option maxHeartbeats 8000000 in
set_option maxRecDepth 100000 in
theorem laws_FnExactFirstQuestion.calls (k : Nat) (A0 : Option Addr) (c0 : Nat) (l0 : List (List Int)) (r : Bool) (w : World) (hr0 : Kd.C (Kd.slice 3 (Kd.int .i64)) w A0 l0.length l0) (hc0 : l0.length ≤ c0) (h : laws_FnExactFirstQuestion.f k l0 = some r) :
    Calls Try.prog 8 #[.slice A0 l0.length c0] w fun e w' => e = .returned (.bool r) ∧ Below w.heap.size w w' := by
  have HR0 := Aside0.mk hr0
  have HC0 := Aside0.mk hc0
  clear hr0 hc0
  have HB := Aside0.mk (Below.refl w.heap.size w)
  have H : ((laws_szIntSS.f k l0 1048576).bind fun t204 => (if t204 < 0 then (some true) else ((laws_toIntSS.f k l0).bind fun t205 => ((spec_FirstQuestion.f k t205).bind fun bt208 => ((laws_toIntSS.f k l0).bind fun t210 => ((impl_FirstQuestion.f k t210).bind fun bt213 => (if bt213.1 = bt208.1 then (laws_FnExactFirstQuestion.j0 k l0 t210 (bt213.2 != bt208.2)) else (laws_FnExactFirstQuestion.j0 k l0 t210 true)))))))) = some r := h
  clear h
  replace H := Option.bind_eq_some_iff.mp H
  obtain ⟨t204, A20, H⟩ := H
  replace H : (if t204 < 0 then (some true) else ((laws_toIntSS.f k l0).bind fun t205 => ((spec_FirstQuestion.f k t205).bind fun bt208 => ((laws_toIntSS.f k l0).bind fun t210 => ((impl_FirstQuestion.f k t210).bind fun bt213 => (if bt213.1 = bt208.1 then (laws_FnExactFirstQuestion.j0 k l0 t210 (bt213.2 != bt208.2)) else (laws_FnExactFirstQuestion.j0 k l0 t210 true))))))) = some r := H
  have A2 := Aside0.mk A20
  clear A20
  by_cases c3 : t204 < 0
  · rw [if_pos c3] at H
    have c3b0 : decide (t204 < 0) = true := decide_eq_true c3
    clear c3
    obtain rfl := Option.some.inj H
    go_enter Try.func8, Try.ntmps8
    go_wp2_with (first | ((with_reducible refine gate_callee (f := 32) rfl ?_); refine goesL_ (some 11) rfl rfl Try.func32 (by kernel_rfl) rfl #[.slice A0 l0.length c0, .int .i64 1048576] rfl (by (try simp only [List.map_toArray, List.map_cons, List.map_nil]); first | done | rfl | (simp only [List.length_drop, List.length_take]; rfl)) ?_; (with_reducible refine (laws_szIntSS.calls k _ _ l0 1048576 t204 _ ?side1 ?side2 A2.out).mono ?_); (case side1 => repeat (first | exact HR0.out | (with_reducible refine Kd.C_alloc ?_ _) | (with_reducible refine Kd.C_drewN ?_ _) | (with_reducible refine Kd.C_drew ?_))); (case side2 => exact HC0.out); rintro e w' ⟨rfl, ⟨nd, rfl⟩⟩; refine ⟨_, rfl, ?_⟩))
    go_ret
    exact ⟨by first | rfl | (simp [errW_none, errW_some] <;> rfl) | (simp [*, errW_none, errW_some] <;> rfl), by repeat (first | (with_reducible first | exact HB.out | apply below_alloc | apply pw_below_drewN | apply below_drew1) | exact HB.out)⟩
  · rw [if_neg c3] at H
    have c3b0 : decide (t204 < 0) = false := decide_eq_false c3
    clear c3
    replace H := Option.bind_eq_some_iff.mp H
    obtain ⟨t205, A40, H⟩ := H
    replace H : ((spec_FirstQuestion.f k t205).bind fun bt208 => ((laws_toIntSS.f k l0).bind fun t210 => ((impl_FirstQuestion.f k t210).bind fun bt213 => (if bt213.1 = bt208.1 then (laws_FnExactFirstQuestion.j0 k l0 t210 (bt213.2 != bt208.2)) else (laws_FnExactFirstQuestion.j0 k l0 t210 true))))) = some r := H
    have A4 := Aside0.mk A40
    clear A40
    replace H := Option.bind_eq_some_iff.mp H
    obtain ⟨⟨t208, t209⟩, A50, H⟩ := H
    replace H : ((laws_toIntSS.f k l0).bind fun t210 => ((impl_FirstQuestion.f k t210).bind fun bt213 => (if bt213.1 = t208 then (laws_FnExactFirstQuestion.j0 k l0 t210 (bt213.2 != t209)) else (laws_FnExactFirstQuestion.j0 k l0 t210 true)))) = some r := H
    have A5 := Aside0.mk A50
    clear A50
    replace H := Option.bind_eq_some_iff.mp H
    obtain ⟨t210, A60, H⟩ := H
    replace H : ((impl_FirstQuestion.f k t210).bind fun bt213 => (if bt213.1 = t208 then (laws_FnExactFirstQuestion.j0 k l0 t210 (bt213.2 != t209)) else (laws_FnExactFirstQuestion.j0 k l0 t210 true))) = some r := H
    have A6 := Aside0.mk A60
    clear A60
    replace H := Option.bind_eq_some_iff.mp H
    obtain ⟨⟨t213, t214⟩, A70, H⟩ := H
    replace H : (if t213 = t208 then (laws_FnExactFirstQuestion.j0 k l0 t210 (t214 != t209)) else (laws_FnExactFirstQuestion.j0 k l0 t210 true)) = some r := H
    have A7 := Aside0.mk A70
    clear A70
    have HC8 := Aside0.mk H
    clear H
    go_enter Try.func8, Try.ntmps8
    go_upto_region 8 with (first | ((with_reducible refine gate_callee (f := 32) rfl ?_); refine goesL_ (some 11) rfl rfl Try.func32 (by kernel_rfl) rfl #[.slice A0 l0.length c0, .int .i64 1048576] rfl (by (try simp only [List.map_toArray, List.map_cons, List.map_nil]); first | done | rfl | (simp only [List.length_drop, List.length_take]; rfl)) ?_; (with_reducible refine (laws_szIntSS.calls k _ _ l0 1048576 t204 _ ?side1 ?side2 A2.out).mono ?_); (case side1 => repeat (first | exact HR0.out | (with_reducible refine Kd.C_alloc ?_ _) | (with_reducible refine Kd.C_drewN ?_ _) | (with_reducible refine Kd.C_drew ?_))); (case side2 => exact HC0.out); rintro e w' ⟨rfl, ⟨nd, rfl⟩⟩; refine ⟨_, rfl, ?_⟩) | ((with_reducible refine gate_callee (f := 34) rfl ?_); refine goesL_ (some 16) rfl rfl Try.func34 (by kernel_rfl) rfl #[.slice A0 l0.length c0] rfl (by (try simp only [List.map_toArray, List.map_cons, List.map_nil]); first | done | rfl | (simp only [List.length_drop, List.length_take]; rfl)) ?_; (with_reducible refine (laws_toIntSS.calls k _ _ l0 t205 _ ?side1 ?side2 A4.out).mono ?_); (case side1 => repeat (first | exact HR0.out | (with_reducible refine Kd.C_alloc ?_ _) | (with_reducible refine Kd.C_drewN ?_ _) | (with_reducible refine Kd.C_drew ?_))); (case side2 => exact HC0.out); rintro e w9 ⟨v206, rfl, ho0, hb⟩; refine ⟨_, rfl, ?_⟩; have n0_ := Aside0.mk (Kd.S_lower ho0 (below_size (by repeat (first | (with_reducible first | exact HB.out | apply below_alloc | apply pw_below_drewN | apply below_drew1) | exact HB.out)))); have n1_ := Aside0.mk (below_step (by repeat (first | (with_reducible first | exact HB.out | apply below_alloc | apply pw_below_drewN | apply below_drew1) | exact HB.out)) hb); clear HB; have HO207 := n0_; have HB := n1_; clear n0_ n1_; (try clear hb); (try clear hb2); (try clear hk); (try clear hi); (try clear ho0); obtain ⟨Ao10, co10, eo10⟩ := Kd.S_slice HO207.out; subst eo10) | ((with_reducible refine gate_callee (f := 41) rfl ?_); refine goesL_ (some 17) rfl rfl Try.func41 (by kernel_rfl) rfl #[.slice Ao10 t205.length co10] rfl (by (try simp only [List.map_toArray, List.map_cons, List.map_nil]); first | done | rfl | (simp only [List.length_drop, List.length_take]; rfl)) ?_; (with_reducible refine (spec_FirstQuestion.calls k _ _ t205 t208 t209 _ ?side1 ?side2 A5.out).mono ?_); (case side1 => repeat (first | exact (Kd.S_reads' HO207.out).2.2 | (with_reducible refine Kd.C_alloc ?_ _) | (with_reducible refine Kd.C_drewN ?_ _) | (with_reducible refine Kd.C_drew ?_))); (case side2 => exact (Kd.S_reads' HO207.out).2.1); rintro e w11 ⟨rfl, hb⟩; refine ⟨_, rfl, ?_⟩; have n0_ := Aside0.mk (Kd.S_below (by (with_reducible repeat (first | apply Kd.S_alloc | apply Kd.S_drewN | apply Kd.S_drew)); exact HO207.out) hb); have n1_ := Aside0.mk (below_step (by repeat (first | (with_reducible first | exact HB.out | apply below_alloc | apply pw_below_drewN | apply below_drew1) | exact HB.out)) hb); clear HO207; clear HB; have HO207 := n0_; have HB := n1_; clear n0_ n1_; (try clear hb); (try clear hb2); (try clear hk); (try clear hi)) | ((with_reducible refine gate_callee (f := 34) rfl ?_); refine goesL_ (some 21) rfl rfl Try.func34 (by kernel_rfl) rfl #[.slice A0 l0.length c0] rfl (by (try simp only [List.map_toArray, List.map_cons, List.map_nil]); first | done | rfl | (simp only [List.length_drop, List.length_take]; rfl)) ?_; (with_reducible refine (laws_toIntSS.calls k _ _ l0 t210 _ ?side1 ?side2 A6.out).mono ?_); (case side1 => repeat (first | exact (Kd.C_below HR0.out HB.out) | (with_reducible refine Kd.C_alloc ?_ _) | (with_reducible refine Kd.C_drewN ?_ _) | (with_reducible refine Kd.C_drew ?_))); (case side2 => exact HC0.out); rintro e w12 ⟨v211, rfl, ho0, hb⟩; refine ⟨_, rfl, ?_⟩; have n0_ := Aside0.mk (Kd.S_elder' (by (with_reducible repeat (first | apply Kd.S_alloc | apply Kd.S_drewN | apply Kd.S_drew)); exact HO207.out) (Kd.S_base ho0) hb); have n1_ := Aside0.mk (Kd.S_lower (Kd.S_new' ho0 (Kd.S_lt (by (with_reducible repeat (first | apply Kd.S_alloc | apply Kd.S_drewN | apply Kd.S_drew)); exact HO207.out))) (below_size (by repeat (first | (with_reducible first | exact HB.out | apply below_alloc | apply pw_below_drewN | apply below_drew1) | exact HB.out)))); have n2_ := Aside0.mk (below_step (by repeat (first | (with_reducible first | exact HB.out | apply below_alloc | apply pw_below_drewN | apply below_drew1) | exact HB.out)) hb); clear HO207; clear HB; have HO207 := n0_; have HO212 := n1_; have HB := n2_; clear n0_ n1_ n2_; (try clear hb); (try clear hb2); (try clear hk); (try clear hi); (try clear ho0); obtain ⟨Ao13, co13, eo13⟩ := Kd.S_slice HO212.out; subst eo13) | ((with_reducible refine gate_callee (f := 42) rfl ?_); refine goesL_ (some 24) rfl rfl Try.func42 (by kernel_rfl) rfl #[.slice Ao13 t210.length co13] rfl (by (try simp only [List.map_toArray, List.map_cons, List.map_nil]); first | done | rfl | (simp only [List.length_drop, List.length_take]; rfl)) ?_; (with_reducible refine (impl_FirstQuestion.calls k _ _ t210 t213 t214 _ ?side1 ?side2 A7.out).mono ?_); (case side1 => repeat (first | exact (Kd.S_reads' HO212.out).2.2 | (with_reducible refine Kd.C_alloc ?_ _) | (with_reducible refine Kd.C_drewN ?_ _) | (with_reducible refine Kd.C_drew ?_))); (case side2 => exact (Kd.S_reads' HO212.out).2.1); rintro e w14 ⟨rfl, hb⟩; refine ⟨_, rfl, ?_⟩; have n0_ := Aside0.mk (Kd.S_below (by (with_reducible repeat (first | apply Kd.S_alloc | apply Kd.S_drewN | apply Kd.S_drew)); exact HO207.out) hb); have n1_ := Aside0.mk (Kd.S_below (by (with_reducible repeat (first | apply Kd.S_alloc | apply Kd.S_drewN | apply Kd.S_drew)); exact HO212.out) hb); have n2_ := Aside0.mk (below_step (by repeat (first | (with_reducible first | exact HB.out | apply below_alloc | apply pw_below_drewN | apply below_drew1) | exact HB.out)) hb); clear HO207; clear HO212; clear HB; have HO207 := n0_; have HO212 := n1_; have HB := n2_; clear n0_ n1_ n2_; (try clear hb); (try clear hb2); (try clear hk); (try clear hi)))
    (try simp only [Act.put, List.setIfInBounds_toArray, List.set_cons_zero, List.set_cons_succ])
    go_cut [34] (fun v34 wc => ∃ (kq : Nat) (x34_7 : Bool), v34 = .bool x34_7 ∧ Aside0 (laws_FnExactFirstQuestion.j0 kq l0 t210 x34_7 = some r) ∧ Aside0 (kq ≤ k) ∧ Aside0 (Kd.S (Kd.slice 3 (Kd.int .i64)) 28 wc w.heap.size (fun _ => True) (.slice Ao13 t210.length co13) t210) ∧ Aside0 (Below w.heap.size w wc))
    case first =>
      have H := HC8.out
      clear HC8
      by_cases c15 : t213 = t208
      · rw [if_pos c15] at H
        have c15b0 : (t213 == t208) = true := beq_iff_eq.mpr c15
        have c15b1 : (t213 != t208) = false := bne_eq_false_iff_eq.mpr c15
        clear c15
        (first | rw [c15b0] | (simp only [i64_w, i32_w]; rw [c15b0]) | skip)
        have H' := Aside0.mk H
        clear H
        go_wp2
        go_meet
        case rel => exact ⟨_, ((t214 != t209)), (by first | rfl | (simp; done) | (simp [*]; done)), H', ⟨by first | omega | exact Nat.le_refl _⟩, ⟨by (with_reducible repeat (first | apply Kd.S_alloc | apply Kd.S_drewN | apply Kd.S_drew)); exact Kd.S_mono HO212.out (fun _ hk => trivial)⟩, ⟨by repeat (first | (with_reducible first | exact HB.out | apply below_alloc | apply pw_below_drewN | apply below_drew1) | exact HB.out)⟩⟩
      · rw [if_neg c15] at H
        have c15b0 : (t213 == t208) = false := beq_eq_false_iff_ne.mpr c15
        have c15b1 : (t213 != t208) = true := bne_iff_ne.mpr c15
        (first | rw [c15b0] | (simp only [i64_w, i32_w]; rw [c15b0]) | skip)
        have H' := Aside0.mk H
        clear H
        go_wp2
        go_meet
        case rel => exact ⟨_, (true), (by first | rfl | (simp; done) | (simp [*]; done)), H', ⟨by first | omega | exact Nat.le_refl _⟩, ⟨by (with_reducible repeat (first | apply Kd.S_alloc | apply Kd.S_drewN | apply Kd.S_drew)); exact Kd.S_mono HO212.out (fun _ hk => trivial)⟩, ⟨by repeat (first | (with_reducible first | exact HB.out | apply below_alloc | apply pw_below_drewN | apply below_drew1) | exact HB.out)⟩⟩
    case rest =>
      clear HC8
      try clear c1
      try clear p2
      try clear c3
      try clear c3b0
      try clear c4
      try clear c8
      try clear c15
      try clear c15b0
      try clear c15b1
      obtain ⟨kq, x34_7, rfl, HA, HJ7, HO_6, HB⟩ := hcut
      cases kq with
      | zero => exact absurd HA.out (by simp [laws_FnExactFirstQuestion.j0])
      | succ kj7 =>
        have H := HA.out
        clear HA
        simp only [laws_FnExactFirstQuestion.j0] at H
        by_cases c16 : x34_7 = true
        · subst c16
          have H1 : (some false) = some r := by rw [if_pos rfl] at H; exact H
          clear H
          have H := H1
          clear H1
          obtain rfl := Option.some.inj H
          go_wp2
          go_ret
          exact ⟨by first | rfl | (simp [errW_none, errW_some] <;> rfl) | (simp [*, errW_none, errW_some] <;> rfl), by repeat (first | (with_reducible first | exact HB.out | apply below_alloc | apply pw_below_drewN | apply below_drew1) | exact HB.out)⟩
        · replace c16 := Bool.eq_false_iff.mpr c16
          subst c16
          have H1 : ((laws_toIntSS.f kj7 l0).bind fun t215 => ((laws_eqIntSS.f kj7 t210 t215).bind fun t218 => (if t218 = true then (some true) else (some false)))) = some r := by rw [if_neg (show ¬ (false = true) by decide)] at H; exact H
          clear H
          have H := H1
          clear H1
          replace H := Option.bind_eq_some_iff.mp H
          obtain ⟨t215, A170, H⟩ := H
          replace H : ((laws_eqIntSS.f kj7 t210 t215).bind fun t218 => (if t218 = true then (some true) else (some false))) = some r := H
          have A17 := Aside0.mk A170
          clear A170
          replace H := Option.bind_eq_some_iff.mp H
          obtain ⟨t218, A180, H⟩ := H
          replace H : (if t218 = true then (some true) else (some false)) = some r := H
          have A18 := Aside0.mk A180
          clear A180
          by_cases c19 : t218 = true
          · subst c19
            have H1 : (some true) = some r := by rw [if_pos rfl] at H; exact H
            clear H
            have H := H1
            clear H1
            obtain rfl := Option.some.inj H
            go_wp2_with (first | ((with_reducible refine gate_callee (f := 34) rfl ?_); refine goesL_ (some 37) rfl rfl Try.func34 (by kernel_rfl) rfl #[.slice A0 l0.length c0] rfl (by (try simp only [List.map_toArray, List.map_cons, List.map_nil]); first | done | rfl | (simp only [List.length_drop, List.length_take]; rfl)) ?_; (with_reducible refine (laws_toIntSS.calls kj7 _ _ l0 t215 _ ?side1 ?side2 A17.out).mono ?_); (case side1 => repeat (first | exact (Kd.C_below HR0.out HB.out) | (with_reducible refine Kd.C_alloc ?_ _) | (with_reducible refine Kd.C_drewN ?_ _) | (with_reducible refine Kd.C_drew ?_))); (case side2 => exact HC0.out); rintro e w20 ⟨v216, rfl, ho0, hb⟩; refine ⟨_, rfl, ?_⟩; have n0_ := Aside0.mk (Kd.S_elder' (by (with_reducible repeat (first | apply Kd.S_alloc | apply Kd.S_drewN | apply Kd.S_drew)); exact HO_6.out) (Kd.S_base ho0) hb); have n1_ := Aside0.mk (Kd.S_lower (Kd.S_new' ho0 (Kd.S_lt (by (with_reducible repeat (first | apply Kd.S_alloc | apply Kd.S_drewN | apply Kd.S_drew)); exact HO_6.out))) (below_size (by repeat (first | (with_reducible first | exact HB.out | apply below_alloc | apply pw_below_drewN | apply below_drew1) | exact HB.out)))); have n2_ := Aside0.mk (below_step (by repeat (first | (with_reducible first | exact HB.out | apply below_alloc | apply pw_below_drewN | apply below_drew1) | exact HB.out)) hb); clear HO_6; clear HB; have HO_6 := n0_; have HO217 := n1_; have HB := n2_; clear n0_ n1_ n2_; (try clear hb); (try clear hb2); (try clear hk); (try clear hi); (try clear ho0); obtain ⟨Ao21, co21, eo21⟩ := Kd.S_slice HO217.out; subst eo21) | ((with_reducible refine gate_callee (f := 16) rfl ?_); refine goesL_ (some 38) rfl rfl Try.func16 (by kernel_rfl) rfl #[.slice Ao13 t210.length co13, .slice Ao21 t215.length co21] rfl (by (try simp only [List.map_toArray, List.map_cons, List.map_nil]); first | done | rfl | (simp only [List.length_drop, List.length_take]; rfl)) ?_; (with_reducible refine (laws_eqIntSS.calls kj7 _ _ t210 _ _ t215 true _ ?side1 ?side2 ?side3 ?side4 A18.out).mono ?_); (case side1 => repeat (first | exact (Kd.S_reads' HO_6.out).2.2 | (with_reducible refine Kd.C_alloc ?_ _) | (with_reducible refine Kd.C_drewN ?_ _) | (with_reducible refine Kd.C_drew ?_))); (case side2 => exact (Kd.S_reads' HO_6.out).2.1); (case side3 => repeat (first | exact (Kd.S_reads' HO217.out).2.2 | (with_reducible refine Kd.C_alloc ?_ _) | (with_reducible refine Kd.C_drewN ?_ _) | (with_reducible refine Kd.C_drew ?_))); (case side4 => exact (Kd.S_reads' HO217.out).2.1); rintro e w' ⟨rfl, ⟨nd, rfl⟩⟩; refine ⟨_, rfl, ?_⟩))
            go_ret
            exact ⟨by first | rfl | (simp [errW_none, errW_some] <;> rfl) | (simp [*, errW_none, errW_some] <;> rfl), by repeat (first | (with_reducible first | exact HB.out | apply below_alloc | apply pw_below_drewN | apply below_drew1) | exact HB.out)⟩
          · replace c19 := Bool.eq_false_iff.mpr c19
            subst c19
            have H1 : (some false) = some r := by rw [if_neg (show ¬ (false = true) by decide)] at H; exact H
            clear H
            have H := H1
            clear H1
            obtain rfl := Option.some.inj H
            go_wp2_with (first | ((with_reducible refine gate_callee (f := 34) rfl ?_); refine goesL_ (some 37) rfl rfl Try.func34 (by kernel_rfl) rfl #[.slice A0 l0.length c0] rfl (by (try simp only [List.map_toArray, List.map_cons, List.map_nil]); first | done | rfl | (simp only [List.length_drop, List.length_take]; rfl)) ?_; (with_reducible refine (laws_toIntSS.calls kj7 _ _ l0 t215 _ ?side1 ?side2 A17.out).mono ?_); (case side1 => repeat (first | exact (Kd.C_below HR0.out HB.out) | (with_reducible refine Kd.C_alloc ?_ _) | (with_reducible refine Kd.C_drewN ?_ _) | (with_reducible refine Kd.C_drew ?_))); (case side2 => exact HC0.out); rintro e w22 ⟨v216, rfl, ho0, hb⟩; refine ⟨_, rfl, ?_⟩; have n0_ := Aside0.mk (Kd.S_elder' (by (with_reducible repeat (first | apply Kd.S_alloc | apply Kd.S_drewN | apply Kd.S_drew)); exact HO_6.out) (Kd.S_base ho0) hb); have n1_ := Aside0.mk (Kd.S_lower (Kd.S_new' ho0 (Kd.S_lt (by (with_reducible repeat (first | apply Kd.S_alloc | apply Kd.S_drewN | apply Kd.S_drew)); exact HO_6.out))) (below_size (by repeat (first | (with_reducible first | exact HB.out | apply below_alloc | apply pw_below_drewN | apply below_drew1) | exact HB.out)))); have n2_ := Aside0.mk (below_step (by repeat (first | (with_reducible first | exact HB.out | apply below_alloc | apply pw_below_drewN | apply below_drew1) | exact HB.out)) hb); clear HO_6; clear HB; have HO_6 := n0_; have HO217 := n1_; have HB := n2_; clear n0_ n1_ n2_; (try clear hb); (try clear hb2); (try clear hk); (try clear hi); (try clear ho0); obtain ⟨Ao23, co23, eo23⟩ := Kd.S_slice HO217.out; subst eo23) | ((with_reducible refine gate_callee (f := 16) rfl ?_); refine goesL_ (some 38) rfl rfl Try.func16 (by kernel_rfl) rfl #[.slice Ao13 t210.length co13, .slice Ao23 t215.length co23] rfl (by (try simp only [List.map_toArray, List.map_cons, List.map_nil]); first | done | rfl | (simp only [List.length_drop, List.length_take]; rfl)) ?_; (with_reducible refine (laws_eqIntSS.calls kj7 _ _ t210 _ _ t215 false _ ?side1 ?side2 ?side3 ?side4 A18.out).mono ?_); (case side1 => repeat (first | exact (Kd.S_reads' HO_6.out).2.2 | (with_reducible refine Kd.C_alloc ?_ _) | (with_reducible refine Kd.C_drewN ?_ _) | (with_reducible refine Kd.C_drew ?_))); (case side2 => exact (Kd.S_reads' HO_6.out).2.1); (case side3 => repeat (first | exact (Kd.S_reads' HO217.out).2.2 | (with_reducible refine Kd.C_alloc ?_ _) | (with_reducible refine Kd.C_drewN ?_ _) | (with_reducible refine Kd.C_drew ?_))); (case side4 => exact (Kd.S_reads' HO217.out).2.1); rintro e w' ⟨rfl, ⟨nd, rfl⟩⟩; refine ⟨_, rfl, ?_⟩))
            go_ret
            exact ⟨by first | rfl | (simp [errW_none, errW_some] <;> rfl) | (simp [*, errW_none, errW_some] <;> rfl), by repeat (first | (with_reducible first | exact HB.out | apply below_alloc | apply pw_below_drewN | apply below_drew1) | exact HB.out)⟩

end Go.Proofs.Ytddpdeoflaigeaa.PFnExactFirstQuestion
