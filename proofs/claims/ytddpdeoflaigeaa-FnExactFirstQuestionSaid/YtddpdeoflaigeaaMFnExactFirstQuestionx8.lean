-- Laid for this claim by a program of the session's own (wip/tool/myprint.py).
import Derived.Test.YtddpdeoflaigeaaMFnExactFirstQuestionx0
import Derived.Test.YtddpdeoflaigeaaMFnExactFirstQuestionx7
namespace Go.Proofs.Ytddpdeoflaigeaa.PFnExactFirstQuestion
open Go.RowKit Go.Proofs.YtddpdeoflaigeaaW.PrintWords Go.Proofs.YtddpdeoflaigeaaW.PrintLast Go.Proofs.YtddpdeoflaigeaaW.PrintMore
attribute [local go_sem] max2_int min2_int max_two min_two max_three min_three max_four min_four   -- for this text's walks alone
set_option linter.unusedVariables false
set_option linter.unusedSimpArgs false

/-! ### impl_knowing_parts: function 83 -/
/-- The places told when a place more is told. -/
def kadd (a : Int) (i : Nat) : Int := Go.bits .or .i64 a ((2 ^ i : Nat) : Int)
/-- Is a place told, and are there hypotheses for both labels? -/
def kparts (S : List Int) (a c : Int) (i : Nat) : Bool :=
  (Go.bits .and .i64 (shr .i64 a (i : Int)) 1 == 0) && (decide (0 < kleft S (kadd a i) c) && decide (0 < kleft S (kadd a i) (kadd c i)))
theorem results_cct {P : Program} {fn : Func} {p p' u : Tmp} {ty ty' : TypeId} (h : fn.results = #[.cell p ty, .cell p' ty', .tmp u]) (tmps : Array Value) (w : World) (g g' : Nat) (t t' : TypeId) (cs cs' : Array Value) (fr fr' : Nat × Nat) (d d' : TypeDesc)
    (hp : tmps.getD p undef = .pointer (some ⟨g, 0, none⟩)) (hg : w.heap[g]? = some (.cells cs t fr))
    (hu : P.underlying ty = some d) (hd : (match d with | .struct _ | .array _ _ => true | _ => false) = true) (hi : (P.info? ty).map (·.size) = some cs.size)
    (hp' : tmps.getD p' undef = .pointer (some ⟨g', 0, none⟩)) (hg' : w.heap[g']? = some (.cells cs' t' fr'))
    (hu' : P.underlying ty' = some d') (hd' : (match d' with | .struct _ | .array _ _ => true | _ => false) = true) (hi' : (P.info? ty').map (·.size) = some cs'.size) :
    (results fn tmps).run P w = .ok (.tuple #[.agg cs, .agg cs', tmps.getD u undef]) w := by
  have h1 : tmps[p]?.getD undef = .pointer (some ⟨g, 0, none⟩) := by simpa using hp
  have h2 : tmps[p']?.getD undef = .pointer (some ⟨g', 0, none⟩) := by simpa using hp'
  simp [results, h, h1, h2, asAddr, run_loadVar_row w g t ty cs fr d hg hu hd hi, run_loadVar_row w g' t' ty' cs' fr' d' hg' hu' hd' hi']
set_option maxHeartbeats 8000000 in
set_option maxRecDepth 100000 in
theorem impl_knowing_parts.calls (S : List Int) (a c : Int) (i : Nat) (hi : i < 8) (gb : Nat) (cl mv : Value) (As : Option Addr) (cs : Nat) (w : World)
    (hg : w.heap[gb]? = some (.cells #[cl, .slice As S.length cs, mv] 103 (0, 0))) (hs : Kd.C (Kd.int .i64) w As S.length S) (hl : S.length ≤ 1048576) :
    Calls Try.prog 83 #[.pointer (some ⟨gb, 0, none⟩), .agg #[.int .i64 a, .int .i64 c], .int .i64 (i : Int)] w fun e w' =>
      e = .returned (.tuple #[.agg #[.int .i64 (kadd a i), .int .i64 c], .agg #[.int .i64 (kadd a i), .int .i64 (kadd c i)], .bool (kparts S a c i)]) ∧ Below w.heap.size w w' := by
  have HG := Aside0.mk hg
  have HS := Aside0.mk hs
  have HL := Aside0.mk hl
  have h0i : (0 : Int) ≤ (i : Int) := by omega
  have d0 : decide (0 ≤ (i : Int)) = true := decide_eq_true h0i
  obtain ⟨pw, hpw⟩ : ∃ p, 2 ^ i = p := ⟨_, rfl⟩
  have hcast : ((2 : Int) ^ i) = (pw : Int) := by rw [← hpw]; simp
  have hpb : pw ≤ 256 := by rw [← hpw]; exact Nat.pow_le_pow_right (n := 2) (by decide) (Nat.le_of_lt hi)
  have hsh : Go.IntKind.i64.wrap (1 * 2 ^ min (i : Int).toNat 64) = (pw : Int) := by
    rw [Int.toNat_natCast, show min i 64 = i by omega, Int.one_mul, IntKind.wrap_i64, hcast]
    omega
  have hsh2 : Go.IntKind.i64.wrap (2 ^ i) = (pw : Int) := by rw [IntKind.wrap_i64, hcast]; omega
  have hsh3 : wrap64 (2 ^ i) = (pw : Int) := by rw [hcast]; unfold wrap64; omega
  have hwp : wrap64 (pw : Int) = (pw : Int) := by unfold wrap64; omega
  have hsh4 : shl .i64 1 (i : Int) = (pw : Int) := by unfold shl; exact hsh
  have hsr : shr .i64 a (i : Int) = a / (pw : Int) := by unfold shr; rw [Int.toNat_natCast, show min i IntKind.i64.bits = i from Nat.min_eq_left (show i ≤ 64 by omega), hcast]
  have HX := Aside0.mk (show kadd a i = Go.bits .or .i64 a (pw : Int) by unfold kadd; rw [hpw])
  have HY := Aside0.mk (show kadd c i = Go.bits .or .i64 c (pw : Int) by unfold kadd; rw [hpw])
  obtain ⟨x, hx⟩ : ∃ x, Go.bits .or .i64 a (pw : Int) = x := ⟨_, rfl⟩
  obtain ⟨y, hy⟩ : ∃ y, Go.bits .or .i64 c (pw : Int) = y := ⟨_, rfl⟩
  have HP := Aside0.mk (show kparts S a c i = ((Go.bits .and .i64 (shr .i64 a (i : Int)) 1 == 0) && (decide (0 < kleft S x c) && decide (0 < kleft S x y))) by unfold kparts; rw [HX.out, HY.out, hx, hy])
  rw [HX.out, HY.out, hx, hy]
  clear hg hs hl HX HY
  go_enter Try.func83, Try.ntmps83
  go_wp2
  have HK := Aside0.mk (blk_alloc (blk_alloc (blk_new w (.cells #[.int .i64 a, .int .i64 c] 81)) (.cells #[.int .i64 0, .int .i64 0] 81)) (.cells #[.int .i64 0, .int .i64 0] 81))
  have H6 := Aside0.mk (blk_alloc (show ((w.alloc (.cells #[.int .i64 a, .int .i64 c] 81)).alloc (.cells #[.int .i64 0, .int .i64 0] 81)).heap[w.heap.size + 1]? = some (.cells #[.int .i64 0, .int .i64 0] 81 (0, 0)) by simpa using blk_new (w.alloc (.cells #[.int .i64 a, .int .i64 c] 81)) (.cells #[.int .i64 0, .int .i64 0] 81)) (.cells #[.int .i64 0, .int .i64 0] 81))
  have H7 := Aside0.mk (show (((w.alloc (.cells #[.int .i64 a, .int .i64 c] 81)).alloc (.cells #[.int .i64 0, .int .i64 0] 81)).alloc (.cells #[.int .i64 0, .int .i64 0] 81)).heap[w.heap.size + 1 + 1]? = some (.cells #[.int .i64 0, .int .i64 0] 81 (0, 0)) by simpa using blk_new ((w.alloc (.cells #[.int .i64 a, .int .i64 c] 81)).alloc (.cells #[.int .i64 0, .int .i64 0] 81)) (.cells #[.int .i64 0, .int .i64 0] 81))
  have HB := Aside0.mk (below_alloc (below_alloc (below_alloc (Below.refl w.heap.size w) (.cells #[.int .i64 a, .int .i64 c] 81)) (.cells #[.int .i64 0, .int .i64 0] 81)) (.cells #[.int .i64 0, .int .i64 0] 81))
  generalize ((w.alloc (.cells #[.int .i64 a, .int .i64 c] 81)).alloc (.cells #[.int .i64 0, .int .i64 0] 81)).alloc (.cells #[.int .i64 0, .int .i64 0] 81) = w3 at HK H6 H7 HB ⊢
  have n0_ := Aside0.mk (blk_drew HK.out)
  have n1_ := Aside0.mk (blk_drew H6.out)
  have n2_ := Aside0.mk (blk_drew H7.out)
  have n3_ := Aside0.mk (below_drew1 HB.out)
  clear HK H6 H7 HB
  have HK := n0_
  have H6 := n1_
  have H7 := n2_
  have HB := n3_
  clear n0_ n1_ n2_ n3_
  refine start_ (n := 23) (S := fun w' => w'.cell? ⟨w.heap.size, 0, none⟩ = some (.int .i64 a) ∧ w'.cell? ⟨w.heap.size, 1, none⟩ = some (.int .i64 c)) (ds := []) #[false, false, false, false, false, false, false, false, false, false, false, false, false, false, false, false, false, false, false, false, false, false, false] (by kernel_rfl) rfl rfl ⟨(blk_cell HK.out 0).trans rfl, (blk_cell HK.out 1).trans rfl⟩ (fun hHeld => ?_)
  generalize w3.drew = w4 at HK H6 H7 HB hHeld ⊢
  refine pure_ (i := 0) (N := some 11) (v := ?_) (a' := ?_) #[true, false, false, false, false, false, false, false, false, false, false, false, false, false, false, false, false, false, false, false, false, false, false] rfl rfl (by kernel_rfl) (fun _ _ _ h => h) (Or.inl ⟨by rfl, ?_⟩) ?_ ?_
  rotate_left
  · intro w'
    go_simp
    with_reducible rfl
  rotate_left
  · simp only [Act.put, List.setIfInBounds_toArray, List.set_cons_zero, List.set_cons_succ, i64_w, i32_w]
    rfl
  refine pure_ (i := 2) (N := some 13) (v := ?_) (a' := ?_) #[true, false, true, false, false, false, false, false, false, false, false, false, false, false, false, false, false, false, false, false, false, false, false] rfl rfl (by kernel_rfl) (fun _ _ _ h => h) (Or.inl ⟨by rfl, ?_⟩) ?_ ?_
  rotate_left
  · intro w'
    go_simp
    with_reducible rfl
  rotate_left
  · simp only [Act.put, List.setIfInBounds_toArray, List.set_cons_zero, List.set_cons_succ, i64_w, i32_w]
    rfl
  refine pure_ (i := 3) (N := some 14) (v := ?_) (a' := ?_) #[true, false, true, true, false, false, false, false, false, false, false, false, false, false, false, false, false, false, false, false, false, false, false] rfl rfl (by kernel_rfl) (fun _ _ _ h => h) (Or.inl ⟨by rfl, ?_⟩) ?_ ?_
  rotate_left
  · intro w'
    go_simp
    with_reducible rfl
  rotate_left
  · simp only [Act.put, List.setIfInBounds_toArray, List.set_cons_zero, List.set_cons_succ, i64_w, i32_w]
    rfl
  refine pure_ (i := 5) (N := some 16) (v := ?_) (a' := ?_) #[true, false, true, true, false, true, false, false, false, false, false, false, false, false, false, false, false, false, false, false, false, false, false] rfl rfl (by kernel_rfl) (fun _ _ _ h => h) (Or.inl ⟨by rfl, ?_⟩) ?_ ?_
  rotate_left
  · intro w'
    go_simp
    with_reducible rfl
  rotate_left
  · simp only [Act.put, List.setIfInBounds_toArray, List.set_cons_zero, List.set_cons_succ, i64_w, i32_w]
    rfl
  refine pure_ (i := 8) (N := some 19) (v := ?_) (a' := ?_) #[true, false, true, true, false, true, false, false, true, false, false, false, false, false, false, false, false, false, false, false, false, false, false] rfl rfl (by kernel_rfl) (fun _ _ _ h => h) (Or.inl ⟨by rfl, ?_⟩) ?_ ?_
  rotate_left
  · intro w'
    go_simp
    with_reducible rfl
  rotate_left
  · simp only [Act.put, List.setIfInBounds_toArray, List.set_cons_zero, List.set_cons_succ, i64_w, i32_w]
    rfl
  refine pure_ (i := 10) (N := some 21) (v := ?_) (a' := ?_) #[true, false, true, true, false, true, false, false, true, false, true, false, false, false, false, false, false, false, false, false, false, false, false] rfl rfl (by kernel_rfl) (fun _ _ _ h => h) (Or.inl ⟨by rfl, ?_⟩) ?_ ?_
  rotate_left
  · intro w'
    go_simp
    with_reducible rfl
  rotate_left
  · simp only [Act.put, List.setIfInBounds_toArray, List.set_cons_zero, List.set_cons_succ, i64_w, i32_w]
    rfl
  refine pure_ (i := 11) (N := some 22) (v := ?_) (a' := ?_) #[true, false, true, true, false, true, false, false, true, false, true, true, false, false, false, false, false, false, false, false, false, false, false] rfl rfl (by kernel_rfl) (fun _ _ _ h => h) (Or.inl ⟨by rfl, ?_⟩) ?_ ?_
  rotate_left
  · intro w'
    go_simp
    with_reducible rfl
  rotate_left
  · simp only [Act.put, List.setIfInBounds_toArray, List.set_cons_zero, List.set_cons_succ, i64_w, i32_w]
    rfl
  refine pure_ (i := 13) (N := some 24) (v := ?_) (a' := ?_) #[true, false, true, true, false, true, false, false, true, false, true, true, false, true, false, false, false, false, false, false, false, false, false] rfl rfl (by kernel_rfl) (fun _ _ _ h => h) (Or.inl ⟨by rfl, ?_⟩) ?_ ?_
  rotate_left
  · intro w'
    go_simp
    with_reducible rfl
  rotate_left
  · simp only [Act.put, List.setIfInBounds_toArray, List.set_cons_zero, List.set_cons_succ, i64_w, i32_w]
    rfl
  refine pure_ (i := 15) (N := some 26) (v := ?_) (a' := ?_) #[true, false, true, true, false, true, false, false, true, false, true, true, false, true, false, true, false, false, false, false, false, false, false] rfl rfl (by kernel_rfl) (fun _ _ _ h => h) (Or.inl ⟨by rfl, ?_⟩) ?_ ?_
  rotate_left
  · intro w'
    go_simp
    with_reducible rfl
  rotate_left
  · simp only [Act.put, List.setIfInBounds_toArray, List.set_cons_zero, List.set_cons_succ, i64_w, i32_w]
    rfl
  refine pure_ (i := 16) (N := some 27) (v := ?_) (a' := ?_) #[true, false, true, true, false, true, false, false, true, false, true, true, false, true, false, true, true, false, false, false, false, false, false] rfl rfl (by kernel_rfl) (fun _ _ _ h => h) (Or.inl ⟨by rfl, ?_⟩) ?_ ?_
  rotate_left
  · intro w'
    go_simp
    with_reducible rfl
  rotate_left
  · simp only [Act.put, List.setIfInBounds_toArray, List.set_cons_zero, List.set_cons_succ, i64_w, i32_w]
    rfl
  refine take_ (i := 1) (N := some 12) (v := ?_) (a' := ?_) #[true, true, true, true, false, true, false, false, true, false, true, true, false, true, false, true, true, false, false, false, false, false, false] rfl rfl (by kernel_rfl) (fun _ _ _ h => h) (Or.inl ⟨by rfl, ?_⟩) hHeld ?_ ?_
  rotate_left
  · rintro w' ⟨s0, s1⟩
    first | (go_simp; with_reducible rfl) | (simp only [add_plain] at s0 s1; go_simp; with_reducible rfl)
  rotate_left
  · simp only [Act.put, List.setIfInBounds_toArray, List.set_cons_zero, List.set_cons_succ, i64_w, i32_w]
    rfl
  refine pure_ (i := 4) (N := some 15) (v := ?_) (a' := ?_) #[true, true, true, true, true, true, false, false, true, false, true, true, false, true, false, true, true, false, false, false, false, false, false] rfl rfl (by kernel_rfl) (fun _ _ _ h => h) (Or.inl ⟨by rfl, ?_⟩) ?_ ?_
  rotate_left
  · intro w'
    go_simp
    with_reducible rfl
  rotate_left
  · simp only [Act.put, List.setIfInBounds_toArray, List.set_cons_zero, List.set_cons_succ, i64_w, i32_w]
    rfl
  refine take_ (i := 6) (N := some 17) (v := ?_) (a' := ?_) #[true, true, true, true, true, true, true, false, true, false, true, true, false, true, false, true, true, false, false, false, false, false, false] rfl rfl (by kernel_rfl) (fun _ _ _ h => h) (Or.inl ⟨by rfl, ?_⟩) hHeld ?_ ?_
  rotate_left
  · rintro w' ⟨s0, s1⟩
    first | (go_simp; with_reducible rfl) | (simp only [add_plain] at s0 s1; go_simp; with_reducible rfl)
  rotate_left
  · simp only [Act.put, List.setIfInBounds_toArray, List.set_cons_zero, List.set_cons_succ, i64_w, i32_w]
    rfl
  refine pure_ (i := 7) (N := some 18) (v := ?_) (a' := ?_) #[true, true, true, true, true, true, true, true, true, false, true, true, false, true, false, true, true, false, false, false, false, false, false] rfl rfl (by kernel_rfl) (fun _ _ _ h => h) (Or.inl ⟨by rfl, ?_⟩) ?_ ?_
  rotate_left
  · intro w'
    go_simp
    with_reducible rfl
  rotate_left
  · simp only [Act.put, List.setIfInBounds_toArray, List.set_cons_zero, List.set_cons_succ, i64_w, i32_w]
    rfl
  refine take_ (i := 9) (N := some 20) (v := ?_) (a' := ?_) #[true, true, true, true, true, true, true, true, true, true, true, true, false, true, false, true, true, false, false, false, false, false, false] rfl rfl (by kernel_rfl) (fun _ _ _ h => h) (Or.inl ⟨by rfl, ?_⟩) hHeld ?_ ?_
  rotate_left
  · rintro w' ⟨s0, s1⟩
    first | (go_simp; with_reducible rfl) | (simp only [add_plain] at s0 s1; go_simp; with_reducible rfl)
  rotate_left
  · simp only [Act.put, List.setIfInBounds_toArray, List.set_cons_zero, List.set_cons_succ, i64_w, i32_w]
    rfl
  refine pure_ (i := 12) (N := some 23) (v := ?_) (a' := ?_) #[true, true, true, true, true, true, true, true, true, true, true, true, true, true, false, true, true, false, false, false, false, false, false] rfl rfl (by kernel_rfl) (fun _ _ _ h => h) (Or.inl ⟨by rfl, ?_⟩) ?_ ?_
  rotate_left
  · intro w'
    go_simp
    with_reducible rfl
  rotate_left
  · simp only [Act.put, List.setIfInBounds_toArray, List.set_cons_zero, List.set_cons_succ, i64_w, i32_w]
    rfl
  refine take_ (i := 14) (N := some 25) (v := ?_) (a' := ?_) #[true, true, true, true, true, true, true, true, true, true, true, true, true, true, true, true, true, false, false, false, false, false, false] rfl rfl (by kernel_rfl) (fun _ _ _ h => h) (Or.inl ⟨by rfl, ?_⟩) hHeld ?_ ?_
  rotate_left
  · rintro w' ⟨s0, s1⟩
    first | (go_simp; with_reducible rfl) | (simp only [add_plain] at s0 s1; go_simp; with_reducible rfl)
  rotate_left
  · simp only [Act.put, List.setIfInBounds_toArray, List.set_cons_zero, List.set_cons_succ, i64_w, i32_w]
    rfl
  refine pure_ (i := 17) (N := some 28) (v := ?_) (a' := ?_) #[true, true, true, true, true, true, true, true, true, true, true, true, true, true, true, true, true, true, false, false, false, false, false] rfl rfl (by kernel_rfl) (fun _ _ _ h => h) (Or.inl ⟨by rfl, ?_⟩) ?_ ?_
  rotate_left
  · intro w'
    go_simp
    with_reducible rfl
  rotate_left
  · simp only [Act.put, List.setIfInBounds_toArray, List.set_cons_zero, List.set_cons_succ, i64_w, i32_w]
    rfl
  refine pure_ (i := 18) (N := some 29) (v := ?_) (a' := ?_) #[true, true, true, true, true, true, true, true, true, true, true, true, true, true, true, true, true, true, true, false, false, false, false] rfl rfl (by kernel_rfl) (fun _ _ _ h => h) (Or.inl ⟨by rfl, ?_⟩) ?_ ?_
  rotate_left
  · intro w'
    go_simp
    with_reducible rfl
  rotate_left
  · simp only [Act.put, List.setIfInBounds_toArray, List.set_cons_zero, List.set_cons_succ, i64_w, i32_w]
    rfl
  refine join_ (σ := Nat × Nat) 2 #[true, true, true, true, true, true, true, true, true, true, true, true, true, true, true, true, true, true, true, true, true, false, false] (fun s => [(9, .pointer (some ⟨s.1, 0, none⟩)), (10, .pointer (some ⟨s.2, 0, none⟩))]) (fun s w' => w'.heap[s.1]? = some (.cells #[.int .i64 0, .int .i64 0] 81 (0, 0)) ∧ w'.heap[s.2]? = some (.cells #[.int .i64 0, .int .i64 0] 81 (0, 0)) ∧ w4.heap.size ≤ s.1 ∧ w4.heap.size ≤ s.2 ∧ s.1 ≠ s.2 ∧ Below w4.heap.size w4 w') ?_ ?_
  rotate_left
  · intro hCont
    refine two_ (i := 19) (j := 20) (Ni := some 9) (Nj := some 10) #[true, true, true, true, true, true, true, true, true, true, true, true, true, true, true, true, true, true, true, true, false, false, false] #[true, true, true, true, true, true, true, true, true, true, true, true, true, true, true, true, true, true, true, false, true, false, false] rfl rfl rfl rfl (by kernel_rfl) (by decide) (by decide) (fun K hK => ?_) (fun K hK => ?_)
    · skip
      refine value_ (w1 := ?_) (v := ?_) (by rfl) rfl ?_ ?_
      rotate_left 2
      · go_simp
        constructor
        · rfl
        · rfl
      refine hK.out _ _ ⟨(blk_cell (((below_alloc (Below.refl w4.heap.size w4) (.cells #[.int .i64 0, .int .i64 0] 81)).block _ (blk_lt HK.out)).trans HK.out) 0).trans rfl, (blk_cell (((below_alloc (Below.refl w4.heap.size w4) (.cells #[.int .i64 0, .int .i64 0] 81)).block _ (blk_lt HK.out)).trans HK.out) 1).trans rfl⟩ (fun hHeld => ?_)
      clear hK K
      refine norm_ (a' := ?_) ?_ ?_
      rotate_left
      · show Act.put _ (some 9) _ = _
        simp only [Act.put, List.setIfInBounds_toArray, List.set_cons_zero, List.set_cons_succ, i64_w, i32_w]
        rfl
      refine one_ (i := 20) (N := some 10) #[true, true, true, true, true, true, true, true, true, true, true, true, true, true, true, true, true, true, true, true, true, false, false] rfl rfl (by kernel_rfl) (by decide) (fun K hK => ?_)
      refine value_ (w1 := ?_) (v := ?_) (by rfl) rfl ?_ ?_
      rotate_left 2
      · go_simp
        constructor
        · rfl
        · rfl
      refine hK.out _ _ ⟨(blk_cell (((below_alloc (below_alloc (Below.refl w4.heap.size w4) (.cells #[.int .i64 0, .int .i64 0] 81)) (.cells #[.int .i64 0, .int .i64 0] 81)).block _ (blk_lt HK.out)).trans HK.out) 0).trans rfl, (blk_cell (((below_alloc (below_alloc (Below.refl w4.heap.size w4) (.cells #[.int .i64 0, .int .i64 0] 81)) (.cells #[.int .i64 0, .int .i64 0] 81)).block _ (blk_lt HK.out)).trans HK.out) 1).trans rfl⟩ (fun hHeld => ?_)
      clear hK K
      refine norm_ (a' := ?_) ?_ ?_
      rotate_left
      · show Act.put _ (some 10) _ = _
        simp only [Act.put, List.setIfInBounds_toArray, List.set_cons_zero, List.set_cons_succ, i64_w, i32_w]
        rfl
      exact norm_ (by simp only [putAll, Act.put, List.setIfInBounds_toArray, List.set_cons_zero, List.set_cons_succ]) (hCont (w4.heap.size, w4.heap.size + 1) _ ⟨blk_alloc (blk_new w4 _) _, by simpa using blk_new (w4.alloc _) _, by simp, by simp, by simp, (below_alloc (below_alloc (Below.refl w4.heap.size w4) (.cells #[.int .i64 0, .int .i64 0] 81)) (.cells #[.int .i64 0, .int .i64 0] 81))⟩)
    · skip
      refine value_ (w1 := ?_) (v := ?_) (by rfl) rfl ?_ ?_
      rotate_left 2
      · go_simp
        constructor
        · rfl
        · rfl
      refine hK.out _ _ ⟨(blk_cell (((below_alloc (Below.refl w4.heap.size w4) (.cells #[.int .i64 0, .int .i64 0] 81)).block _ (blk_lt HK.out)).trans HK.out) 0).trans rfl, (blk_cell (((below_alloc (Below.refl w4.heap.size w4) (.cells #[.int .i64 0, .int .i64 0] 81)).block _ (blk_lt HK.out)).trans HK.out) 1).trans rfl⟩ (fun hHeld => ?_)
      clear hK K
      refine norm_ (a' := ?_) ?_ ?_
      rotate_left
      · show Act.put _ (some 10) _ = _
        simp only [Act.put, List.setIfInBounds_toArray, List.set_cons_zero, List.set_cons_succ, i64_w, i32_w]
        rfl
      refine one_ (i := 19) (N := some 9) #[true, true, true, true, true, true, true, true, true, true, true, true, true, true, true, true, true, true, true, true, true, false, false] rfl rfl (by kernel_rfl) (by decide) (fun K hK => ?_)
      refine value_ (w1 := ?_) (v := ?_) (by rfl) rfl ?_ ?_
      rotate_left 2
      · go_simp
        constructor
        · rfl
        · rfl
      refine hK.out _ _ ⟨(blk_cell (((below_alloc (below_alloc (Below.refl w4.heap.size w4) (.cells #[.int .i64 0, .int .i64 0] 81)) (.cells #[.int .i64 0, .int .i64 0] 81)).block _ (blk_lt HK.out)).trans HK.out) 0).trans rfl, (blk_cell (((below_alloc (below_alloc (Below.refl w4.heap.size w4) (.cells #[.int .i64 0, .int .i64 0] 81)) (.cells #[.int .i64 0, .int .i64 0] 81)).block _ (blk_lt HK.out)).trans HK.out) 1).trans rfl⟩ (fun hHeld => ?_)
      clear hK K
      refine norm_ (a' := ?_) ?_ ?_
      rotate_left
      · show Act.put _ (some 9) _ = _
        simp only [Act.put, List.setIfInBounds_toArray, List.set_cons_zero, List.set_cons_succ, i64_w, i32_w]
        rfl
      exact norm_ (by simp only [putAll, Act.put, List.setIfInBounds_toArray, List.set_cons_zero, List.set_cons_succ]) (hCont (w4.heap.size + 1, w4.heap.size) _ ⟨by simpa using blk_new (w4.alloc _) _, blk_alloc (blk_new w4 _) _, by simp, by simp, by simp, (below_alloc (below_alloc (Below.refl w4.heap.size w4) (.cells #[.int .i64 0, .int .i64 0] 81)) (.cells #[.int .i64 0, .int .i64 0] 81))⟩)
  rintro ⟨bA, bB⟩ w5 ⟨f1, f2, f3, f4, f5, f6⟩
  dsimp only at f1 f2 f3 f4 f5
  have hz := blk_lt H7.out
  have HN := Aside0.mk (And.intro (show w.heap.size + 1 + 1 < bA by omega) (And.intro (show w.heap.size + 1 + 1 < bB by omega) (And.intro f5 trivial)))
  have HA := Aside0.mk f1
  have HBk := Aside0.mk f2
  have hK1 := Aside0.mk ((f6.block _ (blk_lt HK.out)).trans HK.out)
  have h61 := Aside0.mk ((f6.block _ (blk_lt H6.out)).trans H6.out)
  have h71 := Aside0.mk ((f6.block _ (blk_lt H7.out)).trans H7.out)
  have hb1 := Aside0.mk (below_step HB.out f6)
  clear HK H6 H7 HB
  have HK := hK1
  have H6 := h61
  have H7 := h71
  have HB := hb1
  clear hK1 h61 h71 hb1 f3 f4 f5 f6 hz
  have hHeld := (show w5.cell? ⟨w.heap.size, 0, none⟩ = some (.int .i64 a) ∧ w5.cell? ⟨w.heap.size, 1, none⟩ = some (.int .i64 c) from ⟨(blk_cell HK.out 0).trans rfl, (blk_cell HK.out 1).trans rfl⟩)
  have hcA0 := (blk_cell HA.out 0).trans (show _ = some (Value.int .i64 0) from rfl)
  have hcA1 := (blk_cell HA.out 1).trans (show _ = some (Value.int .i64 0) from rfl)
  have hfA0 := blk_frozen HA.out 0
  have hfA1 := blk_frozen HA.out 1
  clear f1 f2
  refine norm_ (a' := ?_) ?_ ?_
  rotate_left
  · simp only [putAll, Act.put, List.setIfInBounds_toArray, List.set_cons_zero, List.set_cons_succ]
    rfl
  refine one_ (i := 21) (N := none) #[true, true, true, true, true, true, true, true, true, true, true, true, true, true, true, true, true, true, true, true, true, true, false] rfl rfl (by kernel_rfl) (by decide) (fun K hK => ?_)
  refine skip_ (w1 := ?_) (by rfl) rfl ?_ ?_
  rotate_left
  · go_simp
    rfl
  have hA1 := Aside0.mk (blk_put (blk_put HA.out 0 (.int .i64 x) rfl) 1 (.int .i64 c) rfl)
  have hB1 := Aside0.mk (blk_far (p := ⟨bA, 1, none⟩) (blk_far (p := ⟨bA, 0, none⟩) HBk.out HN.out.2.2.1.symm (.int .i64 x)) HN.out.2.2.1.symm (.int .i64 c))
  have hK1 := Aside0.mk (blk_far (p := ⟨bA, 1, none⟩) (blk_far (p := ⟨bA, 0, none⟩) HK.out (show w.heap.size ≠ bA by have := HN.out.1; omega) (.int .i64 x)) (show w.heap.size ≠ bA by have := HN.out.1; omega) (.int .i64 c))
  have h61 := Aside0.mk (blk_far (p := ⟨bA, 1, none⟩) (blk_far (p := ⟨bA, 0, none⟩) H6.out (show w.heap.size + 1 ≠ bA by have := HN.out.1; omega) (.int .i64 x)) (show w.heap.size + 1 ≠ bA by have := HN.out.1; omega) (.int .i64 c))
  have h71 := Aside0.mk (blk_far (p := ⟨bA, 1, none⟩) (blk_far (p := ⟨bA, 0, none⟩) H7.out (show w.heap.size + 1 + 1 ≠ bA by have := HN.out.1; omega) (.int .i64 x)) (show w.heap.size + 1 + 1 ≠ bA by have := HN.out.1; omega) (.int .i64 c))
  have hb1 := Aside0.mk (below_set (j := 1) (v := .int .i64 c) (below_set (j := 0) (v := .int .i64 x) HB.out (show w.heap.size ≤ bA by have := HN.out.1; omega)) (show w.heap.size ≤ bA by have := HN.out.1; omega))
  clear HA HBk HK H6 H7 HB hcA0 hcA1 hfA0 hfA1
  have HA := hA1
  have HBk := hB1
  have HK := hK1
  have H6 := h61
  have H7 := h71
  have HB := hb1
  clear hA1 hB1 hK1 h61 h71 hb1
  have hcB0 := (blk_cell HBk.out 0).trans (show _ = some (Value.int .i64 0) from rfl)
  have hcB1 := (blk_cell HBk.out 1).trans (show _ = some (Value.int .i64 0) from rfl)
  have hfB0 := blk_frozen HBk.out 0
  have hfB1 := blk_frozen HBk.out 1
  refine hK.out _ _ ⟨(blk_cell HK.out 0).trans rfl, (blk_cell HK.out 1).trans rfl⟩ (fun hHeld => ?_)
  clear hK K
  refine one_ (i := 22) (N := none) #[true, true, true, true, true, true, true, true, true, true, true, true, true, true, true, true, true, true, true, true, true, true, true] rfl rfl (by kernel_rfl) (by decide) (fun K hK => ?_)
  refine skip_ (w1 := ?_) (by rfl) rfl ?_ ?_
  rotate_left
  · go_simp
    rfl
  have hA1 := Aside0.mk (blk_far (p := ⟨bB, 1, none⟩) (blk_far (p := ⟨bB, 0, none⟩) HA.out HN.out.2.2.1 (.int .i64 x)) HN.out.2.2.1 (.int .i64 y))
  have hB1 := Aside0.mk (blk_put (blk_put HBk.out 0 (.int .i64 x) rfl) 1 (.int .i64 y) rfl)
  have hK1 := Aside0.mk (blk_far (p := ⟨bB, 1, none⟩) (blk_far (p := ⟨bB, 0, none⟩) HK.out (show w.heap.size ≠ bB by have := HN.out.2.1; omega) (.int .i64 x)) (show w.heap.size ≠ bB by have := HN.out.2.1; omega) (.int .i64 y))
  have h61 := Aside0.mk (blk_far (p := ⟨bB, 1, none⟩) (blk_far (p := ⟨bB, 0, none⟩) H6.out (show w.heap.size + 1 ≠ bB by have := HN.out.2.1; omega) (.int .i64 x)) (show w.heap.size + 1 ≠ bB by have := HN.out.2.1; omega) (.int .i64 y))
  have h71 := Aside0.mk (blk_far (p := ⟨bB, 1, none⟩) (blk_far (p := ⟨bB, 0, none⟩) H7.out (show w.heap.size + 1 + 1 ≠ bB by have := HN.out.2.1; omega) (.int .i64 x)) (show w.heap.size + 1 + 1 ≠ bB by have := HN.out.2.1; omega) (.int .i64 y))
  have hb1 := Aside0.mk (below_set (j := 1) (v := .int .i64 y) (below_set (j := 0) (v := .int .i64 x) HB.out (show w.heap.size ≤ bB by have := HN.out.2.1; omega)) (show w.heap.size ≤ bB by have := HN.out.2.1; omega))
  clear HA HBk HK H6 H7 HB hcB0 hcB1 hfB0 hfB1
  have HA := hA1
  have HBk := hB1
  have HK := hK1
  have H6 := h61
  have H7 := h71
  have HB := hb1
  clear hA1 hB1 hK1 h61 h71 hb1
  refine hK.out _ _ ⟨(blk_cell HK.out 0).trans rfl, (blk_cell HK.out 1).trans rfl⟩ (fun hHeld => ?_)
  clear hK K
  refine done_ (by kernel_rfl) ?_
  clear hHeld
  generalize (((w5.setCell ⟨bA, 0, none⟩ (.int .i64 x)).setCell ⟨bA, 1, none⟩ (.int .i64 c)).setCell ⟨bB, 0, none⟩ (.int .i64 x)).setCell ⟨bB, 1, none⟩ (.int .i64 y) = wq at HA HBk HK H6 H7 HB ⊢
  go_wp2
  obtain ⟨q, hq⟩ : ∃ q, Go.bits .and .i64 (a / (pw : Int)) 1 = q := ⟨_, rfl⟩
  rw [hsr, hq] at HP
  by_cases cq : q = 0
  · have b0 : (q == 0) = true := beq_iff_eq.2 cq
    by_cases c1 : 0 < kleft S x c
    · have b1 : decide (0 < kleft S x c) = true := decide_eq_true c1
      by_cases c2 : 0 < kleft S x y
      · have b2 : decide (0 < kleft S x y) = true := decide_eq_true c2
        have n0_ := Aside0.mk (blk_drew HK.out)
        have n1_ := Aside0.mk (blk_drew H6.out)
        have n2_ := Aside0.mk (blk_drew H7.out)
        have n3_ := Aside0.mk (blk_drew HA.out)
        have n4_ := Aside0.mk (blk_drew HBk.out)
        have n5_ := Aside0.mk (below_drew1 HB.out)
        clear HK H6 H7 HA HBk HB
        have HK := n0_
        have H6 := n1_
        have H7 := n2_
        have HA := n3_
        have HBk := n4_
        have HB := n5_
        clear n0_ n1_ n2_ n3_ n4_ n5_
        refine start_ (n := 23) (S := fun w' => w'.cell? ⟨w.heap.size, 0, none⟩ = some (.int .i64 a) ∧ w'.cell? ⟨bA, 0, none⟩ = some (.int .i64 x) ∧ w'.cell? ⟨bA, 1, none⟩ = some (.int .i64 c) ∧ w'.cell? ⟨bB, 0, none⟩ = some (.int .i64 x) ∧ w'.cell? ⟨bB, 1, none⟩ = some (.int .i64 y)) (ds := []) #[false, false, false, false, false, false, false, false, false, false, false, false, false, false, false, false, false, false, false, false, false, false, false] (by kernel_rfl) rfl rfl ⟨(blk_cell HK.out 0).trans rfl, (blk_cell HA.out 0).trans rfl, (blk_cell HA.out 1).trans rfl, (blk_cell HBk.out 0).trans rfl, (blk_cell HBk.out 1).trans rfl⟩ (fun hHeld => ?_)
        generalize wq.drew = w6 at HK H6 H7 HA HBk HB hHeld ⊢
        refine pure_ (i := 2) (N := some 32) (v := ?_) (a' := ?_) #[false, false, true, false, false, false, false, false, false, false, false, false, false, false, false, false, false, false, false, false, false, false, false] rfl rfl (by kernel_rfl) (fun _ _ _ h => h) (Or.inl ⟨by rfl, ?_⟩) ?_ ?_
        rotate_left
        · intro w'
          go_simp
          with_reducible rfl
        rotate_left
        · simp only [Act.put, List.setIfInBounds_toArray, List.set_cons_zero, List.set_cons_succ, i64_w, i32_w]
          rfl
        refine pure_ (i := 4) (N := some 34) (v := ?_) (a' := ?_) #[false, false, true, false, true, false, false, false, false, false, false, false, false, false, false, false, false, false, false, false, false, false, false] rfl rfl (by kernel_rfl) (fun _ _ _ h => h) (Or.inl ⟨by rfl, ?_⟩) ?_ ?_
        rotate_left
        · intro w'
          go_simp
          with_reducible rfl
        rotate_left
        · simp only [Act.put, List.setIfInBounds_toArray, List.set_cons_zero, List.set_cons_succ, i64_w, i32_w]
          rfl
        refine take_ (i := 0) (N := some 30) (v := ?_) (a' := ?_) #[true, false, true, false, true, false, false, false, false, false, false, false, false, false, false, false, false, false, false, false, false, false, false] rfl rfl (by kernel_rfl) (fun _ _ _ h => h) (Or.inl ⟨by rfl, ?_⟩) hHeld ?_ ?_
        rotate_left
        · rintro w' ⟨s0, s1, s2, s3, s4⟩
          first | (go_simp; with_reducible rfl) | (simp only [add_plain] at s0 s1 s2 s3 s4; go_simp; with_reducible rfl)
        rotate_left
        · simp only [Act.put, List.setIfInBounds_toArray, List.set_cons_zero, List.set_cons_succ, i64_w, i32_w]
          rfl
        refine take_ (i := 1) (N := some 31) (v := ?_) (a' := ?_) #[true, true, true, false, true, false, false, false, false, false, false, false, false, false, false, false, false, false, false, false, false, false, false] rfl rfl (by kernel_rfl) (fun _ _ _ h => h) (Or.inl ⟨by rfl, ?_⟩) hHeld ?_ ?_
        rotate_left
        · rintro w' ⟨s0, s1, s2, s3, s4⟩
          first | (go_simp; with_reducible rfl) | (simp only [add_plain] at s0 s1 s2 s3 s4; go_simp; with_reducible rfl)
        rotate_left
        · simp only [Act.put, List.setIfInBounds_toArray, List.set_cons_zero, List.set_cons_succ, i64_w, i32_w]
          rfl
        refine take_ (i := 3) (N := some 33) (v := ?_) (a' := ?_) #[true, true, true, true, true, false, false, false, false, false, false, false, false, false, false, false, false, false, false, false, false, false, false] rfl rfl (by kernel_rfl) (fun _ _ _ h => h) (Or.inl ⟨by rfl, ?_⟩) hHeld ?_ ?_
        rotate_left
        · rintro w' ⟨s0, s1, s2, s3, s4⟩
          first | (go_simp; with_reducible rfl) | (simp only [add_plain] at s0 s1 s2 s3 s4; go_simp; with_reducible rfl)
        rotate_left
        · simp only [Act.put, List.setIfInBounds_toArray, List.set_cons_zero, List.set_cons_succ, i64_w, i32_w]
          rfl
        refine pure_ (i := 5) (N := some 35) (v := ?_) (a' := ?_) #[true, true, true, true, true, true, false, false, false, false, false, false, false, false, false, false, false, false, false, false, false, false, false] rfl rfl (by kernel_rfl) (fun _ _ _ h => h) (Or.inl ⟨by rfl, ?_⟩) ?_ ?_
        rotate_left
        · intro w'
          go_simp
          with_reducible rfl
        rotate_left
        · simp only [Act.put, List.setIfInBounds_toArray, List.set_cons_zero, List.set_cons_succ, i64_w, i32_w]
          rfl
        refine pure_ (i := 6) (N := some 36) (v := ?_) (a' := ?_) #[true, true, true, true, true, true, true, false, false, false, false, false, false, false, false, false, false, false, false, false, false, false, false] rfl rfl (by kernel_rfl) (fun _ _ _ h => h) (Or.inl ⟨by rfl, ?_⟩) ?_ ?_
        rotate_left
        · intro w'
          go_simp
          with_reducible rfl
        rotate_left
        · simp only [Act.put, List.setIfInBounds_toArray, List.set_cons_zero, List.set_cons_succ, i64_w, i32_w]
          rfl
        refine pure_ (i := 7) (N := some 37) (v := ?_) (a' := ?_) #[true, true, true, true, true, true, true, true, false, false, false, false, false, false, false, false, false, false, false, false, false, false, false] rfl rfl (by kernel_rfl) (fun _ _ _ h => h) (Or.inl ⟨by rfl, ?_⟩) ?_ ?_
        rotate_left
        · intro w'
          go_simp
          with_reducible rfl
        rotate_left
        · simp only [Act.put, List.setIfInBounds_toArray, List.set_cons_zero, List.set_cons_succ, i64_w, i32_w]
          rfl
        refine pure_ (i := 8) (N := some 38) (v := ?_) (a' := ?_) #[true, true, true, true, true, true, true, true, true, false, false, false, false, false, false, false, false, false, false, false, false, false, false] rfl rfl (by kernel_rfl) (fun _ _ _ h => h) (Or.inl ⟨by rfl, ?_⟩) ?_ ?_
        rotate_left
        · intro w'
          go_simp
          with_reducible rfl
        rotate_left
        · simp only [Act.put, List.setIfInBounds_toArray, List.set_cons_zero, List.set_cons_succ, i64_w, i32_w]
          rfl
        refine pure_ (i := 9) (N := some 39) (v := ?_) (a' := ?_) #[true, true, true, true, true, true, true, true, true, true, false, false, false, false, false, false, false, false, false, false, false, false, false] rfl rfl (by kernel_rfl) (fun _ _ _ h => h) (Or.inl ⟨by rfl, ?_⟩) ?_ ?_
        rotate_left
        · intro w'
          go_simp
          with_reducible rfl
        rotate_left
        · simp only [Act.put, List.setIfInBounds_toArray, List.set_cons_zero, List.set_cons_succ, i64_w, i32_w]
          rfl
        refine take_ (i := 10) (N := some 40) (v := ?_) (a' := ?_) #[true, true, true, true, true, true, true, true, true, true, true, false, false, false, false, false, false, false, false, false, false, false, false] rfl rfl (by kernel_rfl) (fun _ _ _ h => h) (Or.inl ⟨by rfl, ?_⟩) hHeld ?_ ?_
        rotate_left
        · rintro w' ⟨s0, s1, s2, s3, s4⟩
          first | (go_simp; with_reducible rfl) | (simp only [add_plain] at s0 s1 s2 s3 s4; go_simp; with_reducible rfl)
        rotate_left
        · simp only [Act.put, List.setIfInBounds_toArray, List.set_cons_zero, List.set_cons_succ, i64_w, i32_w]
          rfl
        refine one_ (i := 11) (N := some 41) #[true, true, true, true, true, true, true, true, true, true, true, true, false, false, false, false, false, false, false, false, false, false, false] rfl rfl (by kernel_rfl) (by decide) (fun K hK => ?_)
        refine goes_ Try.func114 (by kernel_rfl) rfl #[.pointer (some ⟨gb, 0, none⟩), .agg #[.int .i64 x, .int .i64 c]] (by rfl) rfl rfl (by simp only [List.map_toArray, List.map_cons, List.map_nil]; rfl) ?_
        with_reducible refine (impl_knowing_left.calls S x c gb cl mv As cs _ ((HB.out.block _ (blk_lt HG.out)).trans HG.out) (Kd.C_below HS.out HB.out) HL.out).mono ?_
        rintro e w7 ⟨rfl, hb⟩
        refine ⟨_, rfl, ?_⟩
        have n0_ := Aside0.mk ((hb.block _ (blk_lt HK.out)).trans HK.out)
        have n1_ := Aside0.mk ((hb.block _ (blk_lt HA.out)).trans HA.out)
        have n2_ := Aside0.mk ((hb.block _ (blk_lt HBk.out)).trans HBk.out)
        have n3_ := Aside0.mk ((hb.block _ (blk_lt H6.out)).trans H6.out)
        have n4_ := Aside0.mk ((hb.block _ (blk_lt H7.out)).trans H7.out)
        have n5_ := Aside0.mk (below_step HB.out hb)
        clear HK HA HBk H6 H7 HB
        have HK := n0_
        have HA := n1_
        have HBk := n2_
        have H6 := n3_
        have H7 := n4_
        have HB := n5_
        clear n0_ n1_ n2_ n3_ n4_ n5_
        clear hb
        refine hK.out _ _ ⟨(blk_cell HK.out 0).trans rfl, (blk_cell HA.out 0).trans rfl, (blk_cell HA.out 1).trans rfl, (blk_cell HBk.out 0).trans rfl, (blk_cell HBk.out 1).trans rfl⟩ (fun hHeld => ?_)
        clear hK K
        refine norm_ (a' := ?_) ?_ ?_
        rotate_left
        · show Act.put _ (some 41) _ = _
          simp only [Act.put, List.setIfInBounds_toArray, List.set_cons_zero, List.set_cons_succ, i64_w, i32_w]
          rfl
        refine pure_ (i := 12) (N := some 42) (v := ?_) (a' := ?_) #[true, true, true, true, true, true, true, true, true, true, true, true, true, false, false, false, false, false, false, false, false, false, false] rfl rfl (by kernel_rfl) (fun _ _ _ h => h) (Or.inl ⟨by rfl, ?_⟩) ?_ ?_
        rotate_left
        · intro w'
          go_simp
          with_reducible rfl
        rotate_left
        · simp only [Act.put, List.setIfInBounds_toArray, List.set_cons_zero, List.set_cons_succ, i64_w, i32_w]
          rfl
        refine pure_ (i := 13) (N := some 43) (v := ?_) (a' := ?_) #[true, true, true, true, true, true, true, true, true, true, true, true, true, true, false, false, false, false, false, false, false, false, false] rfl rfl (by kernel_rfl) (fun _ _ _ h => h) (Or.inl ⟨by rfl, ?_⟩) ?_ ?_
        rotate_left
        · intro w'
          go_simp
          with_reducible rfl
        rotate_left
        · simp only [Act.put, List.setIfInBounds_toArray, List.set_cons_zero, List.set_cons_succ, i64_w, i32_w]
          rfl
        refine pure_ (i := 14) (N := some 44) (v := ?_) (a' := ?_) #[true, true, true, true, true, true, true, true, true, true, true, true, true, true, true, false, false, false, false, false, false, false, false] rfl rfl (by kernel_rfl) (fun _ _ _ h => h) (Or.inl ⟨by rfl, ?_⟩) ?_ ?_
        rotate_left
        · intro w'
          go_simp
          with_reducible rfl
        rotate_left
        · simp only [Act.put, List.setIfInBounds_toArray, List.set_cons_zero, List.set_cons_succ, i64_w, i32_w]
          rfl
        refine pure_ (i := 15) (N := some 45) (v := ?_) (a' := ?_) #[true, true, true, true, true, true, true, true, true, true, true, true, true, true, true, true, false, false, false, false, false, false, false] rfl rfl (by kernel_rfl) (fun _ _ _ h => h) (Or.inl ⟨by rfl, ?_⟩) ?_ ?_
        rotate_left
        · intro w'
          go_simp
          with_reducible rfl
        rotate_left
        · simp only [Act.put, List.setIfInBounds_toArray, List.set_cons_zero, List.set_cons_succ, i64_w, i32_w]
          rfl
        refine take_ (i := 16) (N := some 46) (v := ?_) (a' := ?_) #[true, true, true, true, true, true, true, true, true, true, true, true, true, true, true, true, true, false, false, false, false, false, false] rfl rfl (by kernel_rfl) (fun _ _ _ h => h) (Or.inl ⟨by rfl, ?_⟩) hHeld ?_ ?_
        rotate_left
        · rintro w' ⟨s0, s1, s2, s3, s4⟩
          first | (go_simp; with_reducible rfl) | (simp only [add_plain] at s0 s1 s2 s3 s4; go_simp; with_reducible rfl)
        rotate_left
        · simp only [Act.put, List.setIfInBounds_toArray, List.set_cons_zero, List.set_cons_succ, i64_w, i32_w]
          rfl
        refine one_ (i := 17) (N := some 47) #[true, true, true, true, true, true, true, true, true, true, true, true, true, true, true, true, true, true, false, false, false, false, false] rfl rfl (by kernel_rfl) (by decide) (fun K hK => ?_)
        refine goes_ Try.func114 (by kernel_rfl) rfl #[.pointer (some ⟨gb, 0, none⟩), .agg #[.int .i64 x, .int .i64 y]] (by rfl) rfl rfl (by simp only [List.map_toArray, List.map_cons, List.map_nil]; rfl) ?_
        with_reducible refine (impl_knowing_left.calls S x y gb cl mv As cs _ ((HB.out.block _ (blk_lt HG.out)).trans HG.out) (Kd.C_below HS.out HB.out) HL.out).mono ?_
        rintro e w8 ⟨rfl, hb⟩
        refine ⟨_, rfl, ?_⟩
        have n0_ := Aside0.mk ((hb.block _ (blk_lt HK.out)).trans HK.out)
        have n1_ := Aside0.mk ((hb.block _ (blk_lt HA.out)).trans HA.out)
        have n2_ := Aside0.mk ((hb.block _ (blk_lt HBk.out)).trans HBk.out)
        have n3_ := Aside0.mk ((hb.block _ (blk_lt H6.out)).trans H6.out)
        have n4_ := Aside0.mk ((hb.block _ (blk_lt H7.out)).trans H7.out)
        have n5_ := Aside0.mk (below_step HB.out hb)
        clear HK HA HBk H6 H7 HB
        have HK := n0_
        have HA := n1_
        have HBk := n2_
        have H6 := n3_
        have H7 := n4_
        have HB := n5_
        clear n0_ n1_ n2_ n3_ n4_ n5_
        clear hb
        refine hK.out _ _ ⟨(blk_cell HK.out 0).trans rfl, (blk_cell HA.out 0).trans rfl, (blk_cell HA.out 1).trans rfl, (blk_cell HBk.out 0).trans rfl, (blk_cell HBk.out 1).trans rfl⟩ (fun hHeld => ?_)
        clear hK K
        refine norm_ (a' := ?_) ?_ ?_
        rotate_left
        · show Act.put _ (some 47) _ = _
          simp only [Act.put, List.setIfInBounds_toArray, List.set_cons_zero, List.set_cons_succ, i64_w, i32_w]
          rfl
        refine pure_ (i := 18) (N := some 48) (v := ?_) (a' := ?_) #[true, true, true, true, true, true, true, true, true, true, true, true, true, true, true, true, true, true, true, false, false, false, false] rfl rfl (by kernel_rfl) (fun _ _ _ h => h) (Or.inl ⟨by rfl, ?_⟩) ?_ ?_
        rotate_left
        · intro w'
          go_simp
          with_reducible rfl
        rotate_left
        · simp only [Act.put, List.setIfInBounds_toArray, List.set_cons_zero, List.set_cons_succ, i64_w, i32_w]
          rfl
        refine pure_ (i := 19) (N := some 49) (v := ?_) (a' := ?_) #[true, true, true, true, true, true, true, true, true, true, true, true, true, true, true, true, true, true, true, true, false, false, false] rfl rfl (by kernel_rfl) (fun _ _ _ h => h) (Or.inl ⟨by rfl, ?_⟩) ?_ ?_
        rotate_left
        · intro w'
          go_simp
          with_reducible rfl
        rotate_left
        · simp only [Act.put, List.setIfInBounds_toArray, List.set_cons_zero, List.set_cons_succ, i64_w, i32_w]
          rfl
        refine one_ (i := 20) (N := none) #[true, true, true, true, true, true, true, true, true, true, true, true, true, true, true, true, true, true, true, true, true, false, false] rfl rfl (by kernel_rfl) (by decide) (fun K hK => ?_)
        have hc0 := (blk_cell H6.out 0).trans (show _ = some (Value.int .i64 0) from rfl)
        have hc1 := (blk_cell H6.out 1).trans (show _ = some (Value.int .i64 0) from rfl)
        have hf0 := blk_frozen H6.out 0
        have hf1 := blk_frozen H6.out 1
        refine skip_ (w1 := ?_) (by rfl) rfl ?_ ?_
        rotate_left
        · go_simp
          rfl
        have n0_ := Aside0.mk (blk_put (blk_put H6.out 0 (.int .i64 x) rfl) 1 (.int .i64 c) rfl)
        have n1_ := Aside0.mk (blk_far (p := ⟨w.heap.size + 1, 1, none⟩) (blk_far (p := ⟨w.heap.size + 1, 0, none⟩) HK.out (show (w.heap.size : Nat) ≠ w.heap.size + 1 by have := HN.out.1; have := HN.out.2.1; omega) (.int .i64 x)) (show (w.heap.size : Nat) ≠ w.heap.size + 1 by have := HN.out.1; have := HN.out.2.1; omega) (.int .i64 c))
        have n2_ := Aside0.mk (blk_far (p := ⟨w.heap.size + 1, 1, none⟩) (blk_far (p := ⟨w.heap.size + 1, 0, none⟩) HA.out (show (bA : Nat) ≠ w.heap.size + 1 by have := HN.out.1; have := HN.out.2.1; omega) (.int .i64 x)) (show (bA : Nat) ≠ w.heap.size + 1 by have := HN.out.1; have := HN.out.2.1; omega) (.int .i64 c))
        have n3_ := Aside0.mk (blk_far (p := ⟨w.heap.size + 1, 1, none⟩) (blk_far (p := ⟨w.heap.size + 1, 0, none⟩) HBk.out (show (bB : Nat) ≠ w.heap.size + 1 by have := HN.out.1; have := HN.out.2.1; omega) (.int .i64 x)) (show (bB : Nat) ≠ w.heap.size + 1 by have := HN.out.1; have := HN.out.2.1; omega) (.int .i64 c))
        have n4_ := Aside0.mk (blk_far (p := ⟨w.heap.size + 1, 1, none⟩) (blk_far (p := ⟨w.heap.size + 1, 0, none⟩) H7.out (show (w.heap.size + 1 + 1 : Nat) ≠ w.heap.size + 1 by have := HN.out.1; have := HN.out.2.1; omega) (.int .i64 x)) (show (w.heap.size + 1 + 1 : Nat) ≠ w.heap.size + 1 by have := HN.out.1; have := HN.out.2.1; omega) (.int .i64 c))
        have n5_ := Aside0.mk (below_set (j := 1) (v := .int .i64 c) (below_set (j := 0) (v := .int .i64 x) HB.out (show w.heap.size ≤ w.heap.size + 1 by omega)) (show w.heap.size ≤ w.heap.size + 1 by omega))
        clear H6 HK HA HBk H7 HB
        have H6 := n0_
        have HK := n1_
        have HA := n2_
        have HBk := n3_
        have H7 := n4_
        have HB := n5_
        clear n0_ n1_ n2_ n3_ n4_ n5_
        clear hc0 hc1 hf0 hf1
        refine hK.out _ _ ⟨(blk_cell HK.out 0).trans rfl, (blk_cell HA.out 0).trans rfl, (blk_cell HA.out 1).trans rfl, (blk_cell HBk.out 0).trans rfl, (blk_cell HBk.out 1).trans rfl⟩ (fun hHeld => ?_)
        clear hK K
        refine one_ (i := 21) (N := none) #[true, true, true, true, true, true, true, true, true, true, true, true, true, true, true, true, true, true, true, true, true, true, false] rfl rfl (by kernel_rfl) (by decide) (fun K hK => ?_)
        have hc0 := (blk_cell H7.out 0).trans (show _ = some (Value.int .i64 0) from rfl)
        have hc1 := (blk_cell H7.out 1).trans (show _ = some (Value.int .i64 0) from rfl)
        have hf0 := blk_frozen H7.out 0
        have hf1 := blk_frozen H7.out 1
        refine skip_ (w1 := ?_) (by rfl) rfl ?_ ?_
        rotate_left
        · go_simp
          rfl
        have n0_ := Aside0.mk (blk_put (blk_put H7.out 0 (.int .i64 x) rfl) 1 (.int .i64 y) rfl)
        have n1_ := Aside0.mk (blk_far (p := ⟨w.heap.size + 1 + 1, 1, none⟩) (blk_far (p := ⟨w.heap.size + 1 + 1, 0, none⟩) HK.out (show (w.heap.size : Nat) ≠ w.heap.size + 1 + 1 by have := HN.out.1; have := HN.out.2.1; omega) (.int .i64 x)) (show (w.heap.size : Nat) ≠ w.heap.size + 1 + 1 by have := HN.out.1; have := HN.out.2.1; omega) (.int .i64 y))
        have n2_ := Aside0.mk (blk_far (p := ⟨w.heap.size + 1 + 1, 1, none⟩) (blk_far (p := ⟨w.heap.size + 1 + 1, 0, none⟩) HA.out (show (bA : Nat) ≠ w.heap.size + 1 + 1 by have := HN.out.1; have := HN.out.2.1; omega) (.int .i64 x)) (show (bA : Nat) ≠ w.heap.size + 1 + 1 by have := HN.out.1; have := HN.out.2.1; omega) (.int .i64 y))
        have n3_ := Aside0.mk (blk_far (p := ⟨w.heap.size + 1 + 1, 1, none⟩) (blk_far (p := ⟨w.heap.size + 1 + 1, 0, none⟩) HBk.out (show (bB : Nat) ≠ w.heap.size + 1 + 1 by have := HN.out.1; have := HN.out.2.1; omega) (.int .i64 x)) (show (bB : Nat) ≠ w.heap.size + 1 + 1 by have := HN.out.1; have := HN.out.2.1; omega) (.int .i64 y))
        have n4_ := Aside0.mk (blk_far (p := ⟨w.heap.size + 1 + 1, 1, none⟩) (blk_far (p := ⟨w.heap.size + 1 + 1, 0, none⟩) H6.out (show (w.heap.size + 1 : Nat) ≠ w.heap.size + 1 + 1 by have := HN.out.1; have := HN.out.2.1; omega) (.int .i64 x)) (show (w.heap.size + 1 : Nat) ≠ w.heap.size + 1 + 1 by have := HN.out.1; have := HN.out.2.1; omega) (.int .i64 y))
        have n5_ := Aside0.mk (below_set (j := 1) (v := .int .i64 y) (below_set (j := 0) (v := .int .i64 x) HB.out (show w.heap.size ≤ w.heap.size + 1 + 1 by omega)) (show w.heap.size ≤ w.heap.size + 1 + 1 by omega))
        clear H7 HK HA HBk H6 HB
        have H7 := n0_
        have HK := n1_
        have HA := n2_
        have HBk := n3_
        have H6 := n4_
        have HB := n5_
        clear n0_ n1_ n2_ n3_ n4_ n5_
        clear hc0 hc1 hf0 hf1
        refine hK.out _ _ ⟨(blk_cell HK.out 0).trans rfl, (blk_cell HA.out 0).trans rfl, (blk_cell HA.out 1).trans rfl, (blk_cell HBk.out 0).trans rfl, (blk_cell HBk.out 1).trans rfl⟩ (fun hHeld => ?_)
        clear hK K
        refine pure_ (i := 22) (N := some 8) (v := ?_) (a' := ?_) #[true, true, true, true, true, true, true, true, true, true, true, true, true, true, true, true, true, true, true, true, true, true, true] rfl rfl (by kernel_rfl) (fun _ _ _ h => h) (Or.inl ⟨by rfl, ?_⟩) ?_ ?_
        rotate_left
        · intro w'
          go_simp
          with_reducible rfl
        rotate_left
        · simp only [Act.put, List.setIfInBounds_toArray, List.set_cons_zero, List.set_cons_succ, i64_w, i32_w]
          rfl
        refine done_ (by kernel_rfl) ?_
        go_wp2
        refine bodyPost_ret (results_cct rfl _ _ (w.heap.size + 1) (w.heap.size + 1 + 1) 81 81 #[.int .i64 x, .int .i64 c] #[.int .i64 x, .int .i64 y] (0, 0) (0, 0) _ _ rfl H6.out Try.underlying81 rfl (by kernel_rfl) rfl H7.out Try.underlying81 rfl (by kernel_rfl)) rfl ?_
        exact ⟨by rw [HP.out, b0, b1, b2]; rfl, HB.out⟩
      · have b2 : decide (0 < kleft S x y) = false := decide_eq_false c2
        have n0_ := Aside0.mk (blk_drew HK.out)
        have n1_ := Aside0.mk (blk_drew H6.out)
        have n2_ := Aside0.mk (blk_drew H7.out)
        have n3_ := Aside0.mk (blk_drew HA.out)
        have n4_ := Aside0.mk (blk_drew HBk.out)
        have n5_ := Aside0.mk (below_drew1 HB.out)
        clear HK H6 H7 HA HBk HB
        have HK := n0_
        have H6 := n1_
        have H7 := n2_
        have HA := n3_
        have HBk := n4_
        have HB := n5_
        clear n0_ n1_ n2_ n3_ n4_ n5_
        refine start_ (n := 23) (S := fun w' => w'.cell? ⟨w.heap.size, 0, none⟩ = some (.int .i64 a) ∧ w'.cell? ⟨bA, 0, none⟩ = some (.int .i64 x) ∧ w'.cell? ⟨bA, 1, none⟩ = some (.int .i64 c) ∧ w'.cell? ⟨bB, 0, none⟩ = some (.int .i64 x) ∧ w'.cell? ⟨bB, 1, none⟩ = some (.int .i64 y)) (ds := []) #[false, false, false, false, false, false, false, false, false, false, false, false, false, false, false, false, false, false, false, false, false, false, false] (by kernel_rfl) rfl rfl ⟨(blk_cell HK.out 0).trans rfl, (blk_cell HA.out 0).trans rfl, (blk_cell HA.out 1).trans rfl, (blk_cell HBk.out 0).trans rfl, (blk_cell HBk.out 1).trans rfl⟩ (fun hHeld => ?_)
        generalize wq.drew = w6 at HK H6 H7 HA HBk HB hHeld ⊢
        refine pure_ (i := 2) (N := some 32) (v := ?_) (a' := ?_) #[false, false, true, false, false, false, false, false, false, false, false, false, false, false, false, false, false, false, false, false, false, false, false] rfl rfl (by kernel_rfl) (fun _ _ _ h => h) (Or.inl ⟨by rfl, ?_⟩) ?_ ?_
        rotate_left
        · intro w'
          go_simp
          with_reducible rfl
        rotate_left
        · simp only [Act.put, List.setIfInBounds_toArray, List.set_cons_zero, List.set_cons_succ, i64_w, i32_w]
          rfl
        refine pure_ (i := 4) (N := some 34) (v := ?_) (a' := ?_) #[false, false, true, false, true, false, false, false, false, false, false, false, false, false, false, false, false, false, false, false, false, false, false] rfl rfl (by kernel_rfl) (fun _ _ _ h => h) (Or.inl ⟨by rfl, ?_⟩) ?_ ?_
        rotate_left
        · intro w'
          go_simp
          with_reducible rfl
        rotate_left
        · simp only [Act.put, List.setIfInBounds_toArray, List.set_cons_zero, List.set_cons_succ, i64_w, i32_w]
          rfl
        refine take_ (i := 0) (N := some 30) (v := ?_) (a' := ?_) #[true, false, true, false, true, false, false, false, false, false, false, false, false, false, false, false, false, false, false, false, false, false, false] rfl rfl (by kernel_rfl) (fun _ _ _ h => h) (Or.inl ⟨by rfl, ?_⟩) hHeld ?_ ?_
        rotate_left
        · rintro w' ⟨s0, s1, s2, s3, s4⟩
          first | (go_simp; with_reducible rfl) | (simp only [add_plain] at s0 s1 s2 s3 s4; go_simp; with_reducible rfl)
        rotate_left
        · simp only [Act.put, List.setIfInBounds_toArray, List.set_cons_zero, List.set_cons_succ, i64_w, i32_w]
          rfl
        refine take_ (i := 1) (N := some 31) (v := ?_) (a' := ?_) #[true, true, true, false, true, false, false, false, false, false, false, false, false, false, false, false, false, false, false, false, false, false, false] rfl rfl (by kernel_rfl) (fun _ _ _ h => h) (Or.inl ⟨by rfl, ?_⟩) hHeld ?_ ?_
        rotate_left
        · rintro w' ⟨s0, s1, s2, s3, s4⟩
          first | (go_simp; with_reducible rfl) | (simp only [add_plain] at s0 s1 s2 s3 s4; go_simp; with_reducible rfl)
        rotate_left
        · simp only [Act.put, List.setIfInBounds_toArray, List.set_cons_zero, List.set_cons_succ, i64_w, i32_w]
          rfl
        refine take_ (i := 3) (N := some 33) (v := ?_) (a' := ?_) #[true, true, true, true, true, false, false, false, false, false, false, false, false, false, false, false, false, false, false, false, false, false, false] rfl rfl (by kernel_rfl) (fun _ _ _ h => h) (Or.inl ⟨by rfl, ?_⟩) hHeld ?_ ?_
        rotate_left
        · rintro w' ⟨s0, s1, s2, s3, s4⟩
          first | (go_simp; with_reducible rfl) | (simp only [add_plain] at s0 s1 s2 s3 s4; go_simp; with_reducible rfl)
        rotate_left
        · simp only [Act.put, List.setIfInBounds_toArray, List.set_cons_zero, List.set_cons_succ, i64_w, i32_w]
          rfl
        refine pure_ (i := 5) (N := some 35) (v := ?_) (a' := ?_) #[true, true, true, true, true, true, false, false, false, false, false, false, false, false, false, false, false, false, false, false, false, false, false] rfl rfl (by kernel_rfl) (fun _ _ _ h => h) (Or.inl ⟨by rfl, ?_⟩) ?_ ?_
        rotate_left
        · intro w'
          go_simp
          with_reducible rfl
        rotate_left
        · simp only [Act.put, List.setIfInBounds_toArray, List.set_cons_zero, List.set_cons_succ, i64_w, i32_w]
          rfl
        refine pure_ (i := 6) (N := some 36) (v := ?_) (a' := ?_) #[true, true, true, true, true, true, true, false, false, false, false, false, false, false, false, false, false, false, false, false, false, false, false] rfl rfl (by kernel_rfl) (fun _ _ _ h => h) (Or.inl ⟨by rfl, ?_⟩) ?_ ?_
        rotate_left
        · intro w'
          go_simp
          with_reducible rfl
        rotate_left
        · simp only [Act.put, List.setIfInBounds_toArray, List.set_cons_zero, List.set_cons_succ, i64_w, i32_w]
          rfl
        refine pure_ (i := 7) (N := some 37) (v := ?_) (a' := ?_) #[true, true, true, true, true, true, true, true, false, false, false, false, false, false, false, false, false, false, false, false, false, false, false] rfl rfl (by kernel_rfl) (fun _ _ _ h => h) (Or.inl ⟨by rfl, ?_⟩) ?_ ?_
        rotate_left
        · intro w'
          go_simp
          with_reducible rfl
        rotate_left
        · simp only [Act.put, List.setIfInBounds_toArray, List.set_cons_zero, List.set_cons_succ, i64_w, i32_w]
          rfl
        refine pure_ (i := 8) (N := some 38) (v := ?_) (a' := ?_) #[true, true, true, true, true, true, true, true, true, false, false, false, false, false, false, false, false, false, false, false, false, false, false] rfl rfl (by kernel_rfl) (fun _ _ _ h => h) (Or.inl ⟨by rfl, ?_⟩) ?_ ?_
        rotate_left
        · intro w'
          go_simp
          with_reducible rfl
        rotate_left
        · simp only [Act.put, List.setIfInBounds_toArray, List.set_cons_zero, List.set_cons_succ, i64_w, i32_w]
          rfl
        refine pure_ (i := 9) (N := some 39) (v := ?_) (a' := ?_) #[true, true, true, true, true, true, true, true, true, true, false, false, false, false, false, false, false, false, false, false, false, false, false] rfl rfl (by kernel_rfl) (fun _ _ _ h => h) (Or.inl ⟨by rfl, ?_⟩) ?_ ?_
        rotate_left
        · intro w'
          go_simp
          with_reducible rfl
        rotate_left
        · simp only [Act.put, List.setIfInBounds_toArray, List.set_cons_zero, List.set_cons_succ, i64_w, i32_w]
          rfl
        refine take_ (i := 10) (N := some 40) (v := ?_) (a' := ?_) #[true, true, true, true, true, true, true, true, true, true, true, false, false, false, false, false, false, false, false, false, false, false, false] rfl rfl (by kernel_rfl) (fun _ _ _ h => h) (Or.inl ⟨by rfl, ?_⟩) hHeld ?_ ?_
        rotate_left
        · rintro w' ⟨s0, s1, s2, s3, s4⟩
          first | (go_simp; with_reducible rfl) | (simp only [add_plain] at s0 s1 s2 s3 s4; go_simp; with_reducible rfl)
        rotate_left
        · simp only [Act.put, List.setIfInBounds_toArray, List.set_cons_zero, List.set_cons_succ, i64_w, i32_w]
          rfl
        refine one_ (i := 11) (N := some 41) #[true, true, true, true, true, true, true, true, true, true, true, true, false, false, false, false, false, false, false, false, false, false, false] rfl rfl (by kernel_rfl) (by decide) (fun K hK => ?_)
        refine goes_ Try.func114 (by kernel_rfl) rfl #[.pointer (some ⟨gb, 0, none⟩), .agg #[.int .i64 x, .int .i64 c]] (by rfl) rfl rfl (by simp only [List.map_toArray, List.map_cons, List.map_nil]; rfl) ?_
        with_reducible refine (impl_knowing_left.calls S x c gb cl mv As cs _ ((HB.out.block _ (blk_lt HG.out)).trans HG.out) (Kd.C_below HS.out HB.out) HL.out).mono ?_
        rintro e w7 ⟨rfl, hb⟩
        refine ⟨_, rfl, ?_⟩
        have n0_ := Aside0.mk ((hb.block _ (blk_lt HK.out)).trans HK.out)
        have n1_ := Aside0.mk ((hb.block _ (blk_lt HA.out)).trans HA.out)
        have n2_ := Aside0.mk ((hb.block _ (blk_lt HBk.out)).trans HBk.out)
        have n3_ := Aside0.mk ((hb.block _ (blk_lt H6.out)).trans H6.out)
        have n4_ := Aside0.mk ((hb.block _ (blk_lt H7.out)).trans H7.out)
        have n5_ := Aside0.mk (below_step HB.out hb)
        clear HK HA HBk H6 H7 HB
        have HK := n0_
        have HA := n1_
        have HBk := n2_
        have H6 := n3_
        have H7 := n4_
        have HB := n5_
        clear n0_ n1_ n2_ n3_ n4_ n5_
        clear hb
        refine hK.out _ _ ⟨(blk_cell HK.out 0).trans rfl, (blk_cell HA.out 0).trans rfl, (blk_cell HA.out 1).trans rfl, (blk_cell HBk.out 0).trans rfl, (blk_cell HBk.out 1).trans rfl⟩ (fun hHeld => ?_)
        clear hK K
        refine norm_ (a' := ?_) ?_ ?_
        rotate_left
        · show Act.put _ (some 41) _ = _
          simp only [Act.put, List.setIfInBounds_toArray, List.set_cons_zero, List.set_cons_succ, i64_w, i32_w]
          rfl
        refine pure_ (i := 12) (N := some 42) (v := ?_) (a' := ?_) #[true, true, true, true, true, true, true, true, true, true, true, true, true, false, false, false, false, false, false, false, false, false, false] rfl rfl (by kernel_rfl) (fun _ _ _ h => h) (Or.inl ⟨by rfl, ?_⟩) ?_ ?_
        rotate_left
        · intro w'
          go_simp
          with_reducible rfl
        rotate_left
        · simp only [Act.put, List.setIfInBounds_toArray, List.set_cons_zero, List.set_cons_succ, i64_w, i32_w]
          rfl
        refine pure_ (i := 13) (N := some 43) (v := ?_) (a' := ?_) #[true, true, true, true, true, true, true, true, true, true, true, true, true, true, false, false, false, false, false, false, false, false, false] rfl rfl (by kernel_rfl) (fun _ _ _ h => h) (Or.inl ⟨by rfl, ?_⟩) ?_ ?_
        rotate_left
        · intro w'
          go_simp
          with_reducible rfl
        rotate_left
        · simp only [Act.put, List.setIfInBounds_toArray, List.set_cons_zero, List.set_cons_succ, i64_w, i32_w]
          rfl
        refine pure_ (i := 14) (N := some 44) (v := ?_) (a' := ?_) #[true, true, true, true, true, true, true, true, true, true, true, true, true, true, true, false, false, false, false, false, false, false, false] rfl rfl (by kernel_rfl) (fun _ _ _ h => h) (Or.inl ⟨by rfl, ?_⟩) ?_ ?_
        rotate_left
        · intro w'
          go_simp
          with_reducible rfl
        rotate_left
        · simp only [Act.put, List.setIfInBounds_toArray, List.set_cons_zero, List.set_cons_succ, i64_w, i32_w]
          rfl
        refine pure_ (i := 15) (N := some 45) (v := ?_) (a' := ?_) #[true, true, true, true, true, true, true, true, true, true, true, true, true, true, true, true, false, false, false, false, false, false, false] rfl rfl (by kernel_rfl) (fun _ _ _ h => h) (Or.inl ⟨by rfl, ?_⟩) ?_ ?_
        rotate_left
        · intro w'
          go_simp
          with_reducible rfl
        rotate_left
        · simp only [Act.put, List.setIfInBounds_toArray, List.set_cons_zero, List.set_cons_succ, i64_w, i32_w]
          rfl
        refine take_ (i := 16) (N := some 46) (v := ?_) (a' := ?_) #[true, true, true, true, true, true, true, true, true, true, true, true, true, true, true, true, true, false, false, false, false, false, false] rfl rfl (by kernel_rfl) (fun _ _ _ h => h) (Or.inl ⟨by rfl, ?_⟩) hHeld ?_ ?_
        rotate_left
        · rintro w' ⟨s0, s1, s2, s3, s4⟩
          first | (go_simp; with_reducible rfl) | (simp only [add_plain] at s0 s1 s2 s3 s4; go_simp; with_reducible rfl)
        rotate_left
        · simp only [Act.put, List.setIfInBounds_toArray, List.set_cons_zero, List.set_cons_succ, i64_w, i32_w]
          rfl
        refine one_ (i := 17) (N := some 47) #[true, true, true, true, true, true, true, true, true, true, true, true, true, true, true, true, true, true, false, false, false, false, false] rfl rfl (by kernel_rfl) (by decide) (fun K hK => ?_)
        refine goes_ Try.func114 (by kernel_rfl) rfl #[.pointer (some ⟨gb, 0, none⟩), .agg #[.int .i64 x, .int .i64 y]] (by rfl) rfl rfl (by simp only [List.map_toArray, List.map_cons, List.map_nil]; rfl) ?_
        with_reducible refine (impl_knowing_left.calls S x y gb cl mv As cs _ ((HB.out.block _ (blk_lt HG.out)).trans HG.out) (Kd.C_below HS.out HB.out) HL.out).mono ?_
        rintro e w8 ⟨rfl, hb⟩
        refine ⟨_, rfl, ?_⟩
        have n0_ := Aside0.mk ((hb.block _ (blk_lt HK.out)).trans HK.out)
        have n1_ := Aside0.mk ((hb.block _ (blk_lt HA.out)).trans HA.out)
        have n2_ := Aside0.mk ((hb.block _ (blk_lt HBk.out)).trans HBk.out)
        have n3_ := Aside0.mk ((hb.block _ (blk_lt H6.out)).trans H6.out)
        have n4_ := Aside0.mk ((hb.block _ (blk_lt H7.out)).trans H7.out)
        have n5_ := Aside0.mk (below_step HB.out hb)
        clear HK HA HBk H6 H7 HB
        have HK := n0_
        have HA := n1_
        have HBk := n2_
        have H6 := n3_
        have H7 := n4_
        have HB := n5_
        clear n0_ n1_ n2_ n3_ n4_ n5_
        clear hb
        refine hK.out _ _ ⟨(blk_cell HK.out 0).trans rfl, (blk_cell HA.out 0).trans rfl, (blk_cell HA.out 1).trans rfl, (blk_cell HBk.out 0).trans rfl, (blk_cell HBk.out 1).trans rfl⟩ (fun hHeld => ?_)
        clear hK K
        refine norm_ (a' := ?_) ?_ ?_
        rotate_left
        · show Act.put _ (some 47) _ = _
          simp only [Act.put, List.setIfInBounds_toArray, List.set_cons_zero, List.set_cons_succ, i64_w, i32_w]
          rfl
        refine pure_ (i := 18) (N := some 48) (v := ?_) (a' := ?_) #[true, true, true, true, true, true, true, true, true, true, true, true, true, true, true, true, true, true, true, false, false, false, false] rfl rfl (by kernel_rfl) (fun _ _ _ h => h) (Or.inl ⟨by rfl, ?_⟩) ?_ ?_
        rotate_left
        · intro w'
          go_simp
          with_reducible rfl
        rotate_left
        · simp only [Act.put, List.setIfInBounds_toArray, List.set_cons_zero, List.set_cons_succ, i64_w, i32_w]
          rfl
        refine pure_ (i := 19) (N := some 49) (v := ?_) (a' := ?_) #[true, true, true, true, true, true, true, true, true, true, true, true, true, true, true, true, true, true, true, true, false, false, false] rfl rfl (by kernel_rfl) (fun _ _ _ h => h) (Or.inl ⟨by rfl, ?_⟩) ?_ ?_
        rotate_left
        · intro w'
          go_simp
          with_reducible rfl
        rotate_left
        · simp only [Act.put, List.setIfInBounds_toArray, List.set_cons_zero, List.set_cons_succ, i64_w, i32_w]
          rfl
        refine one_ (i := 20) (N := none) #[true, true, true, true, true, true, true, true, true, true, true, true, true, true, true, true, true, true, true, true, true, false, false] rfl rfl (by kernel_rfl) (by decide) (fun K hK => ?_)
        have hc0 := (blk_cell H6.out 0).trans (show _ = some (Value.int .i64 0) from rfl)
        have hc1 := (blk_cell H6.out 1).trans (show _ = some (Value.int .i64 0) from rfl)
        have hf0 := blk_frozen H6.out 0
        have hf1 := blk_frozen H6.out 1
        refine skip_ (w1 := ?_) (by rfl) rfl ?_ ?_
        rotate_left
        · go_simp
          rfl
        have n0_ := Aside0.mk (blk_put (blk_put H6.out 0 (.int .i64 x) rfl) 1 (.int .i64 c) rfl)
        have n1_ := Aside0.mk (blk_far (p := ⟨w.heap.size + 1, 1, none⟩) (blk_far (p := ⟨w.heap.size + 1, 0, none⟩) HK.out (show (w.heap.size : Nat) ≠ w.heap.size + 1 by have := HN.out.1; have := HN.out.2.1; omega) (.int .i64 x)) (show (w.heap.size : Nat) ≠ w.heap.size + 1 by have := HN.out.1; have := HN.out.2.1; omega) (.int .i64 c))
        have n2_ := Aside0.mk (blk_far (p := ⟨w.heap.size + 1, 1, none⟩) (blk_far (p := ⟨w.heap.size + 1, 0, none⟩) HA.out (show (bA : Nat) ≠ w.heap.size + 1 by have := HN.out.1; have := HN.out.2.1; omega) (.int .i64 x)) (show (bA : Nat) ≠ w.heap.size + 1 by have := HN.out.1; have := HN.out.2.1; omega) (.int .i64 c))
        have n3_ := Aside0.mk (blk_far (p := ⟨w.heap.size + 1, 1, none⟩) (blk_far (p := ⟨w.heap.size + 1, 0, none⟩) HBk.out (show (bB : Nat) ≠ w.heap.size + 1 by have := HN.out.1; have := HN.out.2.1; omega) (.int .i64 x)) (show (bB : Nat) ≠ w.heap.size + 1 by have := HN.out.1; have := HN.out.2.1; omega) (.int .i64 c))
        have n4_ := Aside0.mk (blk_far (p := ⟨w.heap.size + 1, 1, none⟩) (blk_far (p := ⟨w.heap.size + 1, 0, none⟩) H7.out (show (w.heap.size + 1 + 1 : Nat) ≠ w.heap.size + 1 by have := HN.out.1; have := HN.out.2.1; omega) (.int .i64 x)) (show (w.heap.size + 1 + 1 : Nat) ≠ w.heap.size + 1 by have := HN.out.1; have := HN.out.2.1; omega) (.int .i64 c))
        have n5_ := Aside0.mk (below_set (j := 1) (v := .int .i64 c) (below_set (j := 0) (v := .int .i64 x) HB.out (show w.heap.size ≤ w.heap.size + 1 by omega)) (show w.heap.size ≤ w.heap.size + 1 by omega))
        clear H6 HK HA HBk H7 HB
        have H6 := n0_
        have HK := n1_
        have HA := n2_
        have HBk := n3_
        have H7 := n4_
        have HB := n5_
        clear n0_ n1_ n2_ n3_ n4_ n5_
        clear hc0 hc1 hf0 hf1
        refine hK.out _ _ ⟨(blk_cell HK.out 0).trans rfl, (blk_cell HA.out 0).trans rfl, (blk_cell HA.out 1).trans rfl, (blk_cell HBk.out 0).trans rfl, (blk_cell HBk.out 1).trans rfl⟩ (fun hHeld => ?_)
        clear hK K
        refine one_ (i := 21) (N := none) #[true, true, true, true, true, true, true, true, true, true, true, true, true, true, true, true, true, true, true, true, true, true, false] rfl rfl (by kernel_rfl) (by decide) (fun K hK => ?_)
        have hc0 := (blk_cell H7.out 0).trans (show _ = some (Value.int .i64 0) from rfl)
        have hc1 := (blk_cell H7.out 1).trans (show _ = some (Value.int .i64 0) from rfl)
        have hf0 := blk_frozen H7.out 0
        have hf1 := blk_frozen H7.out 1
        refine skip_ (w1 := ?_) (by rfl) rfl ?_ ?_
        rotate_left
        · go_simp
          rfl
        have n0_ := Aside0.mk (blk_put (blk_put H7.out 0 (.int .i64 x) rfl) 1 (.int .i64 y) rfl)
        have n1_ := Aside0.mk (blk_far (p := ⟨w.heap.size + 1 + 1, 1, none⟩) (blk_far (p := ⟨w.heap.size + 1 + 1, 0, none⟩) HK.out (show (w.heap.size : Nat) ≠ w.heap.size + 1 + 1 by have := HN.out.1; have := HN.out.2.1; omega) (.int .i64 x)) (show (w.heap.size : Nat) ≠ w.heap.size + 1 + 1 by have := HN.out.1; have := HN.out.2.1; omega) (.int .i64 y))
        have n2_ := Aside0.mk (blk_far (p := ⟨w.heap.size + 1 + 1, 1, none⟩) (blk_far (p := ⟨w.heap.size + 1 + 1, 0, none⟩) HA.out (show (bA : Nat) ≠ w.heap.size + 1 + 1 by have := HN.out.1; have := HN.out.2.1; omega) (.int .i64 x)) (show (bA : Nat) ≠ w.heap.size + 1 + 1 by have := HN.out.1; have := HN.out.2.1; omega) (.int .i64 y))
        have n3_ := Aside0.mk (blk_far (p := ⟨w.heap.size + 1 + 1, 1, none⟩) (blk_far (p := ⟨w.heap.size + 1 + 1, 0, none⟩) HBk.out (show (bB : Nat) ≠ w.heap.size + 1 + 1 by have := HN.out.1; have := HN.out.2.1; omega) (.int .i64 x)) (show (bB : Nat) ≠ w.heap.size + 1 + 1 by have := HN.out.1; have := HN.out.2.1; omega) (.int .i64 y))
        have n4_ := Aside0.mk (blk_far (p := ⟨w.heap.size + 1 + 1, 1, none⟩) (blk_far (p := ⟨w.heap.size + 1 + 1, 0, none⟩) H6.out (show (w.heap.size + 1 : Nat) ≠ w.heap.size + 1 + 1 by have := HN.out.1; have := HN.out.2.1; omega) (.int .i64 x)) (show (w.heap.size + 1 : Nat) ≠ w.heap.size + 1 + 1 by have := HN.out.1; have := HN.out.2.1; omega) (.int .i64 y))
        have n5_ := Aside0.mk (below_set (j := 1) (v := .int .i64 y) (below_set (j := 0) (v := .int .i64 x) HB.out (show w.heap.size ≤ w.heap.size + 1 + 1 by omega)) (show w.heap.size ≤ w.heap.size + 1 + 1 by omega))
        clear H7 HK HA HBk H6 HB
        have H7 := n0_
        have HK := n1_
        have HA := n2_
        have HBk := n3_
        have H6 := n4_
        have HB := n5_
        clear n0_ n1_ n2_ n3_ n4_ n5_
        clear hc0 hc1 hf0 hf1
        refine hK.out _ _ ⟨(blk_cell HK.out 0).trans rfl, (blk_cell HA.out 0).trans rfl, (blk_cell HA.out 1).trans rfl, (blk_cell HBk.out 0).trans rfl, (blk_cell HBk.out 1).trans rfl⟩ (fun hHeld => ?_)
        clear hK K
        refine pure_ (i := 22) (N := some 8) (v := ?_) (a' := ?_) #[true, true, true, true, true, true, true, true, true, true, true, true, true, true, true, true, true, true, true, true, true, true, true] rfl rfl (by kernel_rfl) (fun _ _ _ h => h) (Or.inl ⟨by rfl, ?_⟩) ?_ ?_
        rotate_left
        · intro w'
          go_simp
          with_reducible rfl
        rotate_left
        · simp only [Act.put, List.setIfInBounds_toArray, List.set_cons_zero, List.set_cons_succ, i64_w, i32_w]
          rfl
        refine done_ (by kernel_rfl) ?_
        go_wp2
        refine bodyPost_ret (results_cct rfl _ _ (w.heap.size + 1) (w.heap.size + 1 + 1) 81 81 #[.int .i64 x, .int .i64 c] #[.int .i64 x, .int .i64 y] (0, 0) (0, 0) _ _ rfl H6.out Try.underlying81 rfl (by kernel_rfl) rfl H7.out Try.underlying81 rfl (by kernel_rfl)) rfl ?_
        exact ⟨by rw [HP.out, b0, b1, b2]; rfl, HB.out⟩
    · have b1 : decide (0 < kleft S x c) = false := decide_eq_false c1
      have n0_ := Aside0.mk (blk_drew HK.out)
      have n1_ := Aside0.mk (blk_drew H6.out)
      have n2_ := Aside0.mk (blk_drew H7.out)
      have n3_ := Aside0.mk (blk_drew HA.out)
      have n4_ := Aside0.mk (blk_drew HBk.out)
      have n5_ := Aside0.mk (below_drew1 HB.out)
      clear HK H6 H7 HA HBk HB
      have HK := n0_
      have H6 := n1_
      have H7 := n2_
      have HA := n3_
      have HBk := n4_
      have HB := n5_
      clear n0_ n1_ n2_ n3_ n4_ n5_
      refine start_ (n := 23) (S := fun w' => w'.cell? ⟨w.heap.size, 0, none⟩ = some (.int .i64 a) ∧ w'.cell? ⟨bA, 0, none⟩ = some (.int .i64 x) ∧ w'.cell? ⟨bA, 1, none⟩ = some (.int .i64 c) ∧ w'.cell? ⟨bB, 0, none⟩ = some (.int .i64 x) ∧ w'.cell? ⟨bB, 1, none⟩ = some (.int .i64 y)) (ds := []) #[false, false, false, false, false, false, false, false, false, false, false, false, false, false, false, false, false, false, false, false, false, false, false] (by kernel_rfl) rfl rfl ⟨(blk_cell HK.out 0).trans rfl, (blk_cell HA.out 0).trans rfl, (blk_cell HA.out 1).trans rfl, (blk_cell HBk.out 0).trans rfl, (blk_cell HBk.out 1).trans rfl⟩ (fun hHeld => ?_)
      generalize wq.drew = w6 at HK H6 H7 HA HBk HB hHeld ⊢
      refine pure_ (i := 2) (N := some 32) (v := ?_) (a' := ?_) #[false, false, true, false, false, false, false, false, false, false, false, false, false, false, false, false, false, false, false, false, false, false, false] rfl rfl (by kernel_rfl) (fun _ _ _ h => h) (Or.inl ⟨by rfl, ?_⟩) ?_ ?_
      rotate_left
      · intro w'
        go_simp
        with_reducible rfl
      rotate_left
      · simp only [Act.put, List.setIfInBounds_toArray, List.set_cons_zero, List.set_cons_succ, i64_w, i32_w]
        rfl
      refine pure_ (i := 4) (N := some 34) (v := ?_) (a' := ?_) #[false, false, true, false, true, false, false, false, false, false, false, false, false, false, false, false, false, false, false, false, false, false, false] rfl rfl (by kernel_rfl) (fun _ _ _ h => h) (Or.inl ⟨by rfl, ?_⟩) ?_ ?_
      rotate_left
      · intro w'
        go_simp
        with_reducible rfl
      rotate_left
      · simp only [Act.put, List.setIfInBounds_toArray, List.set_cons_zero, List.set_cons_succ, i64_w, i32_w]
        rfl
      refine take_ (i := 0) (N := some 30) (v := ?_) (a' := ?_) #[true, false, true, false, true, false, false, false, false, false, false, false, false, false, false, false, false, false, false, false, false, false, false] rfl rfl (by kernel_rfl) (fun _ _ _ h => h) (Or.inl ⟨by rfl, ?_⟩) hHeld ?_ ?_
      rotate_left
      · rintro w' ⟨s0, s1, s2, s3, s4⟩
        first | (go_simp; with_reducible rfl) | (simp only [add_plain] at s0 s1 s2 s3 s4; go_simp; with_reducible rfl)
      rotate_left
      · simp only [Act.put, List.setIfInBounds_toArray, List.set_cons_zero, List.set_cons_succ, i64_w, i32_w]
        rfl
      refine take_ (i := 1) (N := some 31) (v := ?_) (a' := ?_) #[true, true, true, false, true, false, false, false, false, false, false, false, false, false, false, false, false, false, false, false, false, false, false] rfl rfl (by kernel_rfl) (fun _ _ _ h => h) (Or.inl ⟨by rfl, ?_⟩) hHeld ?_ ?_
      rotate_left
      · rintro w' ⟨s0, s1, s2, s3, s4⟩
        first | (go_simp; with_reducible rfl) | (simp only [add_plain] at s0 s1 s2 s3 s4; go_simp; with_reducible rfl)
      rotate_left
      · simp only [Act.put, List.setIfInBounds_toArray, List.set_cons_zero, List.set_cons_succ, i64_w, i32_w]
        rfl
      refine take_ (i := 3) (N := some 33) (v := ?_) (a' := ?_) #[true, true, true, true, true, false, false, false, false, false, false, false, false, false, false, false, false, false, false, false, false, false, false] rfl rfl (by kernel_rfl) (fun _ _ _ h => h) (Or.inl ⟨by rfl, ?_⟩) hHeld ?_ ?_
      rotate_left
      · rintro w' ⟨s0, s1, s2, s3, s4⟩
        first | (go_simp; with_reducible rfl) | (simp only [add_plain] at s0 s1 s2 s3 s4; go_simp; with_reducible rfl)
      rotate_left
      · simp only [Act.put, List.setIfInBounds_toArray, List.set_cons_zero, List.set_cons_succ, i64_w, i32_w]
        rfl
      refine pure_ (i := 5) (N := some 35) (v := ?_) (a' := ?_) #[true, true, true, true, true, true, false, false, false, false, false, false, false, false, false, false, false, false, false, false, false, false, false] rfl rfl (by kernel_rfl) (fun _ _ _ h => h) (Or.inl ⟨by rfl, ?_⟩) ?_ ?_
      rotate_left
      · intro w'
        go_simp
        with_reducible rfl
      rotate_left
      · simp only [Act.put, List.setIfInBounds_toArray, List.set_cons_zero, List.set_cons_succ, i64_w, i32_w]
        rfl
      refine pure_ (i := 6) (N := some 36) (v := ?_) (a' := ?_) #[true, true, true, true, true, true, true, false, false, false, false, false, false, false, false, false, false, false, false, false, false, false, false] rfl rfl (by kernel_rfl) (fun _ _ _ h => h) (Or.inl ⟨by rfl, ?_⟩) ?_ ?_
      rotate_left
      · intro w'
        go_simp
        with_reducible rfl
      rotate_left
      · simp only [Act.put, List.setIfInBounds_toArray, List.set_cons_zero, List.set_cons_succ, i64_w, i32_w]
        rfl
      refine pure_ (i := 7) (N := some 37) (v := ?_) (a' := ?_) #[true, true, true, true, true, true, true, true, false, false, false, false, false, false, false, false, false, false, false, false, false, false, false] rfl rfl (by kernel_rfl) (fun _ _ _ h => h) (Or.inl ⟨by rfl, ?_⟩) ?_ ?_
      rotate_left
      · intro w'
        go_simp
        with_reducible rfl
      rotate_left
      · simp only [Act.put, List.setIfInBounds_toArray, List.set_cons_zero, List.set_cons_succ, i64_w, i32_w]
        rfl
      refine pure_ (i := 8) (N := some 38) (v := ?_) (a' := ?_) #[true, true, true, true, true, true, true, true, true, false, false, false, false, false, false, false, false, false, false, false, false, false, false] rfl rfl (by kernel_rfl) (fun _ _ _ h => h) (Or.inl ⟨by rfl, ?_⟩) ?_ ?_
      rotate_left
      · intro w'
        go_simp
        with_reducible rfl
      rotate_left
      · simp only [Act.put, List.setIfInBounds_toArray, List.set_cons_zero, List.set_cons_succ, i64_w, i32_w]
        rfl
      refine pure_ (i := 9) (N := some 39) (v := ?_) (a' := ?_) #[true, true, true, true, true, true, true, true, true, true, false, false, false, false, false, false, false, false, false, false, false, false, false] rfl rfl (by kernel_rfl) (fun _ _ _ h => h) (Or.inl ⟨by rfl, ?_⟩) ?_ ?_
      rotate_left
      · intro w'
        go_simp
        with_reducible rfl
      rotate_left
      · simp only [Act.put, List.setIfInBounds_toArray, List.set_cons_zero, List.set_cons_succ, i64_w, i32_w]
        rfl
      refine take_ (i := 10) (N := some 40) (v := ?_) (a' := ?_) #[true, true, true, true, true, true, true, true, true, true, true, false, false, false, false, false, false, false, false, false, false, false, false] rfl rfl (by kernel_rfl) (fun _ _ _ h => h) (Or.inl ⟨by rfl, ?_⟩) hHeld ?_ ?_
      rotate_left
      · rintro w' ⟨s0, s1, s2, s3, s4⟩
        first | (go_simp; with_reducible rfl) | (simp only [add_plain] at s0 s1 s2 s3 s4; go_simp; with_reducible rfl)
      rotate_left
      · simp only [Act.put, List.setIfInBounds_toArray, List.set_cons_zero, List.set_cons_succ, i64_w, i32_w]
        rfl
      refine one_ (i := 11) (N := some 41) #[true, true, true, true, true, true, true, true, true, true, true, true, false, false, false, false, false, false, false, false, false, false, false] rfl rfl (by kernel_rfl) (by decide) (fun K hK => ?_)
      refine goes_ Try.func114 (by kernel_rfl) rfl #[.pointer (some ⟨gb, 0, none⟩), .agg #[.int .i64 x, .int .i64 c]] (by rfl) rfl rfl (by simp only [List.map_toArray, List.map_cons, List.map_nil]; rfl) ?_
      with_reducible refine (impl_knowing_left.calls S x c gb cl mv As cs _ ((HB.out.block _ (blk_lt HG.out)).trans HG.out) (Kd.C_below HS.out HB.out) HL.out).mono ?_
      rintro e w7 ⟨rfl, hb⟩
      refine ⟨_, rfl, ?_⟩
      have n0_ := Aside0.mk ((hb.block _ (blk_lt HK.out)).trans HK.out)
      have n1_ := Aside0.mk ((hb.block _ (blk_lt HA.out)).trans HA.out)
      have n2_ := Aside0.mk ((hb.block _ (blk_lt HBk.out)).trans HBk.out)
      have n3_ := Aside0.mk ((hb.block _ (blk_lt H6.out)).trans H6.out)
      have n4_ := Aside0.mk ((hb.block _ (blk_lt H7.out)).trans H7.out)
      have n5_ := Aside0.mk (below_step HB.out hb)
      clear HK HA HBk H6 H7 HB
      have HK := n0_
      have HA := n1_
      have HBk := n2_
      have H6 := n3_
      have H7 := n4_
      have HB := n5_
      clear n0_ n1_ n2_ n3_ n4_ n5_
      clear hb
      refine hK.out _ _ ⟨(blk_cell HK.out 0).trans rfl, (blk_cell HA.out 0).trans rfl, (blk_cell HA.out 1).trans rfl, (blk_cell HBk.out 0).trans rfl, (blk_cell HBk.out 1).trans rfl⟩ (fun hHeld => ?_)
      clear hK K
      refine norm_ (a' := ?_) ?_ ?_
      rotate_left
      · show Act.put _ (some 41) _ = _
        simp only [Act.put, List.setIfInBounds_toArray, List.set_cons_zero, List.set_cons_succ, i64_w, i32_w]
        rfl
      refine pure_ (i := 12) (N := some 42) (v := ?_) (a' := ?_) #[true, true, true, true, true, true, true, true, true, true, true, true, true, false, false, false, false, false, false, false, false, false, false] rfl rfl (by kernel_rfl) (fun _ _ _ h => h) (Or.inl ⟨by rfl, ?_⟩) ?_ ?_
      rotate_left
      · intro w'
        go_simp
        with_reducible rfl
      rotate_left
      · simp only [Act.put, List.setIfInBounds_toArray, List.set_cons_zero, List.set_cons_succ, i64_w, i32_w]
        rfl
      refine pure_ (i := 13) (N := some 43) (v := ?_) (a' := ?_) #[true, true, true, true, true, true, true, true, true, true, true, true, true, true, false, false, false, false, false, false, false, false, false] rfl rfl (by kernel_rfl) (fun _ _ _ h => h) (Or.inl ⟨by rfl, ?_⟩) ?_ ?_
      rotate_left
      · intro w'
        go_simp
        with_reducible rfl
      rotate_left
      · simp only [Act.put, List.setIfInBounds_toArray, List.set_cons_zero, List.set_cons_succ, i64_w, i32_w]
        rfl
      refine pure_ (i := 14) (N := some 44) (v := ?_) (a' := ?_) #[true, true, true, true, true, true, true, true, true, true, true, true, true, true, true, false, false, false, false, false, false, false, false] rfl rfl (by kernel_rfl) (fun _ _ _ h => h) (Or.inl ⟨by rfl, ?_⟩) ?_ ?_
      rotate_left
      · intro w'
        go_simp
        with_reducible rfl
      rotate_left
      · simp only [Act.put, List.setIfInBounds_toArray, List.set_cons_zero, List.set_cons_succ, i64_w, i32_w]
        rfl
      refine pure_ (i := 15) (N := some 45) (v := undef) (a' := ?_) #[true, true, true, true, true, true, true, true, true, true, true, true, true, true, true, true, false, false, false, false, false, false, false] rfl rfl (by kernel_rfl) (fun _ _ _ h => h) (Or.inr ⟨by rfl, rfl⟩) ?_ ?_
      rotate_left
      · simp only [Act.put, List.setIfInBounds_toArray, List.set_cons_zero, List.set_cons_succ, i64_w, i32_w]
        rfl
      refine pure_ (i := 16) (N := some 46) (v := undef) (a' := ?_) #[true, true, true, true, true, true, true, true, true, true, true, true, true, true, true, true, true, false, false, false, false, false, false] rfl rfl (by kernel_rfl) (fun _ _ _ h => h) (Or.inr ⟨by rfl, rfl⟩) ?_ ?_
      rotate_left
      · simp only [Act.put, List.setIfInBounds_toArray, List.set_cons_zero, List.set_cons_succ, i64_w, i32_w]
        rfl
      refine pure_ (i := 17) (N := some 47) (v := undef) (a' := ?_) #[true, true, true, true, true, true, true, true, true, true, true, true, true, true, true, true, true, true, false, false, false, false, false] rfl rfl (by kernel_rfl) (fun _ _ _ h => h) (Or.inr ⟨by rfl, rfl⟩) ?_ ?_
      rotate_left
      · simp only [Act.put, List.setIfInBounds_toArray, List.set_cons_zero, List.set_cons_succ, i64_w, i32_w]
        rfl
      refine pure_ (i := 18) (N := some 48) (v := undef) (a' := ?_) #[true, true, true, true, true, true, true, true, true, true, true, true, true, true, true, true, true, true, true, false, false, false, false] rfl rfl (by kernel_rfl) (fun _ _ _ h => h) (Or.inr ⟨by rfl, rfl⟩) ?_ ?_
      rotate_left
      · simp only [Act.put, List.setIfInBounds_toArray, List.set_cons_zero, List.set_cons_succ, i64_w, i32_w]
        rfl
      refine pure_ (i := 19) (N := some 49) (v := ?_) (a' := ?_) #[true, true, true, true, true, true, true, true, true, true, true, true, true, true, true, true, true, true, true, true, false, false, false] rfl rfl (by kernel_rfl) (fun _ _ _ h => h) (Or.inl ⟨by rfl, ?_⟩) ?_ ?_
      rotate_left
      · intro w'
        go_simp
        with_reducible rfl
      rotate_left
      · simp only [Act.put, List.setIfInBounds_toArray, List.set_cons_zero, List.set_cons_succ, i64_w, i32_w]
        rfl
      refine one_ (i := 20) (N := none) #[true, true, true, true, true, true, true, true, true, true, true, true, true, true, true, true, true, true, true, true, true, false, false] rfl rfl (by kernel_rfl) (by decide) (fun K hK => ?_)
      have hc0 := (blk_cell H6.out 0).trans (show _ = some (Value.int .i64 0) from rfl)
      have hc1 := (blk_cell H6.out 1).trans (show _ = some (Value.int .i64 0) from rfl)
      have hf0 := blk_frozen H6.out 0
      have hf1 := blk_frozen H6.out 1
      refine skip_ (w1 := ?_) (by rfl) rfl ?_ ?_
      rotate_left
      · go_simp
        rfl
      have n0_ := Aside0.mk (blk_put (blk_put H6.out 0 (.int .i64 x) rfl) 1 (.int .i64 c) rfl)
      have n1_ := Aside0.mk (blk_far (p := ⟨w.heap.size + 1, 1, none⟩) (blk_far (p := ⟨w.heap.size + 1, 0, none⟩) HK.out (show (w.heap.size : Nat) ≠ w.heap.size + 1 by have := HN.out.1; have := HN.out.2.1; omega) (.int .i64 x)) (show (w.heap.size : Nat) ≠ w.heap.size + 1 by have := HN.out.1; have := HN.out.2.1; omega) (.int .i64 c))
      have n2_ := Aside0.mk (blk_far (p := ⟨w.heap.size + 1, 1, none⟩) (blk_far (p := ⟨w.heap.size + 1, 0, none⟩) HA.out (show (bA : Nat) ≠ w.heap.size + 1 by have := HN.out.1; have := HN.out.2.1; omega) (.int .i64 x)) (show (bA : Nat) ≠ w.heap.size + 1 by have := HN.out.1; have := HN.out.2.1; omega) (.int .i64 c))
      have n3_ := Aside0.mk (blk_far (p := ⟨w.heap.size + 1, 1, none⟩) (blk_far (p := ⟨w.heap.size + 1, 0, none⟩) HBk.out (show (bB : Nat) ≠ w.heap.size + 1 by have := HN.out.1; have := HN.out.2.1; omega) (.int .i64 x)) (show (bB : Nat) ≠ w.heap.size + 1 by have := HN.out.1; have := HN.out.2.1; omega) (.int .i64 c))
      have n4_ := Aside0.mk (blk_far (p := ⟨w.heap.size + 1, 1, none⟩) (blk_far (p := ⟨w.heap.size + 1, 0, none⟩) H7.out (show (w.heap.size + 1 + 1 : Nat) ≠ w.heap.size + 1 by have := HN.out.1; have := HN.out.2.1; omega) (.int .i64 x)) (show (w.heap.size + 1 + 1 : Nat) ≠ w.heap.size + 1 by have := HN.out.1; have := HN.out.2.1; omega) (.int .i64 c))
      have n5_ := Aside0.mk (below_set (j := 1) (v := .int .i64 c) (below_set (j := 0) (v := .int .i64 x) HB.out (show w.heap.size ≤ w.heap.size + 1 by omega)) (show w.heap.size ≤ w.heap.size + 1 by omega))
      clear H6 HK HA HBk H7 HB
      have H6 := n0_
      have HK := n1_
      have HA := n2_
      have HBk := n3_
      have H7 := n4_
      have HB := n5_
      clear n0_ n1_ n2_ n3_ n4_ n5_
      clear hc0 hc1 hf0 hf1
      refine hK.out _ _ ⟨(blk_cell HK.out 0).trans rfl, (blk_cell HA.out 0).trans rfl, (blk_cell HA.out 1).trans rfl, (blk_cell HBk.out 0).trans rfl, (blk_cell HBk.out 1).trans rfl⟩ (fun hHeld => ?_)
      clear hK K
      refine one_ (i := 21) (N := none) #[true, true, true, true, true, true, true, true, true, true, true, true, true, true, true, true, true, true, true, true, true, true, false] rfl rfl (by kernel_rfl) (by decide) (fun K hK => ?_)
      have hc0 := (blk_cell H7.out 0).trans (show _ = some (Value.int .i64 0) from rfl)
      have hc1 := (blk_cell H7.out 1).trans (show _ = some (Value.int .i64 0) from rfl)
      have hf0 := blk_frozen H7.out 0
      have hf1 := blk_frozen H7.out 1
      refine skip_ (w1 := ?_) (by rfl) rfl ?_ ?_
      rotate_left
      · go_simp
        rfl
      have n0_ := Aside0.mk (blk_put (blk_put H7.out 0 (.int .i64 x) rfl) 1 (.int .i64 y) rfl)
      have n1_ := Aside0.mk (blk_far (p := ⟨w.heap.size + 1 + 1, 1, none⟩) (blk_far (p := ⟨w.heap.size + 1 + 1, 0, none⟩) HK.out (show (w.heap.size : Nat) ≠ w.heap.size + 1 + 1 by have := HN.out.1; have := HN.out.2.1; omega) (.int .i64 x)) (show (w.heap.size : Nat) ≠ w.heap.size + 1 + 1 by have := HN.out.1; have := HN.out.2.1; omega) (.int .i64 y))
      have n2_ := Aside0.mk (blk_far (p := ⟨w.heap.size + 1 + 1, 1, none⟩) (blk_far (p := ⟨w.heap.size + 1 + 1, 0, none⟩) HA.out (show (bA : Nat) ≠ w.heap.size + 1 + 1 by have := HN.out.1; have := HN.out.2.1; omega) (.int .i64 x)) (show (bA : Nat) ≠ w.heap.size + 1 + 1 by have := HN.out.1; have := HN.out.2.1; omega) (.int .i64 y))
      have n3_ := Aside0.mk (blk_far (p := ⟨w.heap.size + 1 + 1, 1, none⟩) (blk_far (p := ⟨w.heap.size + 1 + 1, 0, none⟩) HBk.out (show (bB : Nat) ≠ w.heap.size + 1 + 1 by have := HN.out.1; have := HN.out.2.1; omega) (.int .i64 x)) (show (bB : Nat) ≠ w.heap.size + 1 + 1 by have := HN.out.1; have := HN.out.2.1; omega) (.int .i64 y))
      have n4_ := Aside0.mk (blk_far (p := ⟨w.heap.size + 1 + 1, 1, none⟩) (blk_far (p := ⟨w.heap.size + 1 + 1, 0, none⟩) H6.out (show (w.heap.size + 1 : Nat) ≠ w.heap.size + 1 + 1 by have := HN.out.1; have := HN.out.2.1; omega) (.int .i64 x)) (show (w.heap.size + 1 : Nat) ≠ w.heap.size + 1 + 1 by have := HN.out.1; have := HN.out.2.1; omega) (.int .i64 y))
      have n5_ := Aside0.mk (below_set (j := 1) (v := .int .i64 y) (below_set (j := 0) (v := .int .i64 x) HB.out (show w.heap.size ≤ w.heap.size + 1 + 1 by omega)) (show w.heap.size ≤ w.heap.size + 1 + 1 by omega))
      clear H7 HK HA HBk H6 HB
      have H7 := n0_
      have HK := n1_
      have HA := n2_
      have HBk := n3_
      have H6 := n4_
      have HB := n5_
      clear n0_ n1_ n2_ n3_ n4_ n5_
      clear hc0 hc1 hf0 hf1
      refine hK.out _ _ ⟨(blk_cell HK.out 0).trans rfl, (blk_cell HA.out 0).trans rfl, (blk_cell HA.out 1).trans rfl, (blk_cell HBk.out 0).trans rfl, (blk_cell HBk.out 1).trans rfl⟩ (fun hHeld => ?_)
      clear hK K
      refine pure_ (i := 22) (N := some 8) (v := ?_) (a' := ?_) #[true, true, true, true, true, true, true, true, true, true, true, true, true, true, true, true, true, true, true, true, true, true, true] rfl rfl (by kernel_rfl) (fun _ _ _ h => h) (Or.inl ⟨by rfl, ?_⟩) ?_ ?_
      rotate_left
      · intro w'
        go_simp
        with_reducible rfl
      rotate_left
      · simp only [Act.put, List.setIfInBounds_toArray, List.set_cons_zero, List.set_cons_succ, i64_w, i32_w]
        rfl
      refine done_ (by kernel_rfl) ?_
      go_wp2
      refine bodyPost_ret (results_cct rfl _ _ (w.heap.size + 1) (w.heap.size + 1 + 1) 81 81 #[.int .i64 x, .int .i64 c] #[.int .i64 x, .int .i64 y] (0, 0) (0, 0) _ _ rfl H6.out Try.underlying81 rfl (by kernel_rfl) rfl H7.out Try.underlying81 rfl (by kernel_rfl)) rfl ?_
      exact ⟨by rw [HP.out, b0, b1]; rfl, HB.out⟩
  · have b0 : (q == 0) = false := beq_eq_false_iff_ne.2 cq
    have n0_ := Aside0.mk (blk_drew HK.out)
    have n1_ := Aside0.mk (blk_drew H6.out)
    have n2_ := Aside0.mk (blk_drew H7.out)
    have n3_ := Aside0.mk (blk_drew HA.out)
    have n4_ := Aside0.mk (blk_drew HBk.out)
    have n5_ := Aside0.mk (below_drew1 HB.out)
    clear HK H6 H7 HA HBk HB
    have HK := n0_
    have H6 := n1_
    have H7 := n2_
    have HA := n3_
    have HBk := n4_
    have HB := n5_
    clear n0_ n1_ n2_ n3_ n4_ n5_
    refine start_ (n := 23) (S := fun w' => w'.cell? ⟨w.heap.size, 0, none⟩ = some (.int .i64 a) ∧ w'.cell? ⟨bA, 0, none⟩ = some (.int .i64 x) ∧ w'.cell? ⟨bA, 1, none⟩ = some (.int .i64 c) ∧ w'.cell? ⟨bB, 0, none⟩ = some (.int .i64 x) ∧ w'.cell? ⟨bB, 1, none⟩ = some (.int .i64 y)) (ds := []) #[false, false, false, false, false, false, false, false, false, false, false, false, false, false, false, false, false, false, false, false, false, false, false] (by kernel_rfl) rfl rfl ⟨(blk_cell HK.out 0).trans rfl, (blk_cell HA.out 0).trans rfl, (blk_cell HA.out 1).trans rfl, (blk_cell HBk.out 0).trans rfl, (blk_cell HBk.out 1).trans rfl⟩ (fun hHeld => ?_)
    generalize wq.drew = w6 at HK H6 H7 HA HBk HB hHeld ⊢
    refine pure_ (i := 2) (N := some 32) (v := ?_) (a' := ?_) #[false, false, true, false, false, false, false, false, false, false, false, false, false, false, false, false, false, false, false, false, false, false, false] rfl rfl (by kernel_rfl) (fun _ _ _ h => h) (Or.inl ⟨by rfl, ?_⟩) ?_ ?_
    rotate_left
    · intro w'
      go_simp
      with_reducible rfl
    rotate_left
    · simp only [Act.put, List.setIfInBounds_toArray, List.set_cons_zero, List.set_cons_succ, i64_w, i32_w]
      rfl
    refine pure_ (i := 4) (N := some 34) (v := ?_) (a' := ?_) #[false, false, true, false, true, false, false, false, false, false, false, false, false, false, false, false, false, false, false, false, false, false, false] rfl rfl (by kernel_rfl) (fun _ _ _ h => h) (Or.inl ⟨by rfl, ?_⟩) ?_ ?_
    rotate_left
    · intro w'
      go_simp
      with_reducible rfl
    rotate_left
    · simp only [Act.put, List.setIfInBounds_toArray, List.set_cons_zero, List.set_cons_succ, i64_w, i32_w]
      rfl
    refine take_ (i := 0) (N := some 30) (v := ?_) (a' := ?_) #[true, false, true, false, true, false, false, false, false, false, false, false, false, false, false, false, false, false, false, false, false, false, false] rfl rfl (by kernel_rfl) (fun _ _ _ h => h) (Or.inl ⟨by rfl, ?_⟩) hHeld ?_ ?_
    rotate_left
    · rintro w' ⟨s0, s1, s2, s3, s4⟩
      first | (go_simp; with_reducible rfl) | (simp only [add_plain] at s0 s1 s2 s3 s4; go_simp; with_reducible rfl)
    rotate_left
    · simp only [Act.put, List.setIfInBounds_toArray, List.set_cons_zero, List.set_cons_succ, i64_w, i32_w]
      rfl
    refine take_ (i := 1) (N := some 31) (v := ?_) (a' := ?_) #[true, true, true, false, true, false, false, false, false, false, false, false, false, false, false, false, false, false, false, false, false, false, false] rfl rfl (by kernel_rfl) (fun _ _ _ h => h) (Or.inl ⟨by rfl, ?_⟩) hHeld ?_ ?_
    rotate_left
    · rintro w' ⟨s0, s1, s2, s3, s4⟩
      first | (go_simp; with_reducible rfl) | (simp only [add_plain] at s0 s1 s2 s3 s4; go_simp; with_reducible rfl)
    rotate_left
    · simp only [Act.put, List.setIfInBounds_toArray, List.set_cons_zero, List.set_cons_succ, i64_w, i32_w]
      rfl
    refine take_ (i := 3) (N := some 33) (v := ?_) (a' := ?_) #[true, true, true, true, true, false, false, false, false, false, false, false, false, false, false, false, false, false, false, false, false, false, false] rfl rfl (by kernel_rfl) (fun _ _ _ h => h) (Or.inl ⟨by rfl, ?_⟩) hHeld ?_ ?_
    rotate_left
    · rintro w' ⟨s0, s1, s2, s3, s4⟩
      first | (go_simp; with_reducible rfl) | (simp only [add_plain] at s0 s1 s2 s3 s4; go_simp; with_reducible rfl)
    rotate_left
    · simp only [Act.put, List.setIfInBounds_toArray, List.set_cons_zero, List.set_cons_succ, i64_w, i32_w]
      rfl
    refine pure_ (i := 5) (N := some 35) (v := ?_) (a' := ?_) #[true, true, true, true, true, true, false, false, false, false, false, false, false, false, false, false, false, false, false, false, false, false, false] rfl rfl (by kernel_rfl) (fun _ _ _ h => h) (Or.inl ⟨by rfl, ?_⟩) ?_ ?_
    rotate_left
    · intro w'
      go_simp
      with_reducible rfl
    rotate_left
    · simp only [Act.put, List.setIfInBounds_toArray, List.set_cons_zero, List.set_cons_succ, i64_w, i32_w]
      rfl
    refine pure_ (i := 6) (N := some 36) (v := ?_) (a' := ?_) #[true, true, true, true, true, true, true, false, false, false, false, false, false, false, false, false, false, false, false, false, false, false, false] rfl rfl (by kernel_rfl) (fun _ _ _ h => h) (Or.inl ⟨by rfl, ?_⟩) ?_ ?_
    rotate_left
    · intro w'
      go_simp
      with_reducible rfl
    rotate_left
    · simp only [Act.put, List.setIfInBounds_toArray, List.set_cons_zero, List.set_cons_succ, i64_w, i32_w]
      rfl
    refine pure_ (i := 7) (N := some 37) (v := ?_) (a' := ?_) #[true, true, true, true, true, true, true, true, false, false, false, false, false, false, false, false, false, false, false, false, false, false, false] rfl rfl (by kernel_rfl) (fun _ _ _ h => h) (Or.inl ⟨by rfl, ?_⟩) ?_ ?_
    rotate_left
    · intro w'
      go_simp
      with_reducible rfl
    rotate_left
    · simp only [Act.put, List.setIfInBounds_toArray, List.set_cons_zero, List.set_cons_succ, i64_w, i32_w]
      rfl
    refine pure_ (i := 8) (N := some 38) (v := ?_) (a' := ?_) #[true, true, true, true, true, true, true, true, true, false, false, false, false, false, false, false, false, false, false, false, false, false, false] rfl rfl (by kernel_rfl) (fun _ _ _ h => h) (Or.inl ⟨by rfl, ?_⟩) ?_ ?_
    rotate_left
    · intro w'
      go_simp
      with_reducible rfl
    rotate_left
    · simp only [Act.put, List.setIfInBounds_toArray, List.set_cons_zero, List.set_cons_succ, i64_w, i32_w]
      rfl
    refine pure_ (i := 9) (N := some 39) (v := undef) (a' := ?_) #[true, true, true, true, true, true, true, true, true, true, false, false, false, false, false, false, false, false, false, false, false, false, false] rfl rfl (by kernel_rfl) (fun _ _ _ h => h) (Or.inr ⟨by rfl, rfl⟩) ?_ ?_
    rotate_left
    · simp only [Act.put, List.setIfInBounds_toArray, List.set_cons_zero, List.set_cons_succ, i64_w, i32_w]
      rfl
    refine pure_ (i := 10) (N := some 40) (v := undef) (a' := ?_) #[true, true, true, true, true, true, true, true, true, true, true, false, false, false, false, false, false, false, false, false, false, false, false] rfl rfl (by kernel_rfl) (fun _ _ _ h => h) (Or.inr ⟨by rfl, rfl⟩) ?_ ?_
    rotate_left
    · simp only [Act.put, List.setIfInBounds_toArray, List.set_cons_zero, List.set_cons_succ, i64_w, i32_w]
      rfl
    refine pure_ (i := 11) (N := some 41) (v := undef) (a' := ?_) #[true, true, true, true, true, true, true, true, true, true, true, true, false, false, false, false, false, false, false, false, false, false, false] rfl rfl (by kernel_rfl) (fun _ _ _ h => h) (Or.inr ⟨by rfl, rfl⟩) ?_ ?_
    rotate_left
    · simp only [Act.put, List.setIfInBounds_toArray, List.set_cons_zero, List.set_cons_succ, i64_w, i32_w]
      rfl
    refine pure_ (i := 12) (N := some 42) (v := undef) (a' := ?_) #[true, true, true, true, true, true, true, true, true, true, true, true, true, false, false, false, false, false, false, false, false, false, false] rfl rfl (by kernel_rfl) (fun _ _ _ h => h) (Or.inr ⟨by rfl, rfl⟩) ?_ ?_
    rotate_left
    · simp only [Act.put, List.setIfInBounds_toArray, List.set_cons_zero, List.set_cons_succ, i64_w, i32_w]
      rfl
    refine pure_ (i := 13) (N := some 43) (v := ?_) (a' := ?_) #[true, true, true, true, true, true, true, true, true, true, true, true, true, true, false, false, false, false, false, false, false, false, false] rfl rfl (by kernel_rfl) (fun _ _ _ h => h) (Or.inl ⟨by rfl, ?_⟩) ?_ ?_
    rotate_left
    · intro w'
      go_simp
      with_reducible rfl
    rotate_left
    · simp only [Act.put, List.setIfInBounds_toArray, List.set_cons_zero, List.set_cons_succ, i64_w, i32_w]
      rfl
    refine pure_ (i := 14) (N := some 44) (v := ?_) (a' := ?_) #[true, true, true, true, true, true, true, true, true, true, true, true, true, true, true, false, false, false, false, false, false, false, false] rfl rfl (by kernel_rfl) (fun _ _ _ h => h) (Or.inl ⟨by rfl, ?_⟩) ?_ ?_
    rotate_left
    · intro w'
      go_simp
      with_reducible rfl
    rotate_left
    · simp only [Act.put, List.setIfInBounds_toArray, List.set_cons_zero, List.set_cons_succ, i64_w, i32_w]
      rfl
    refine pure_ (i := 15) (N := some 45) (v := undef) (a' := ?_) #[true, true, true, true, true, true, true, true, true, true, true, true, true, true, true, true, false, false, false, false, false, false, false] rfl rfl (by kernel_rfl) (fun _ _ _ h => h) (Or.inr ⟨by rfl, rfl⟩) ?_ ?_
    rotate_left
    · simp only [Act.put, List.setIfInBounds_toArray, List.set_cons_zero, List.set_cons_succ, i64_w, i32_w]
      rfl
    refine pure_ (i := 16) (N := some 46) (v := undef) (a' := ?_) #[true, true, true, true, true, true, true, true, true, true, true, true, true, true, true, true, true, false, false, false, false, false, false] rfl rfl (by kernel_rfl) (fun _ _ _ h => h) (Or.inr ⟨by rfl, rfl⟩) ?_ ?_
    rotate_left
    · simp only [Act.put, List.setIfInBounds_toArray, List.set_cons_zero, List.set_cons_succ, i64_w, i32_w]
      rfl
    refine pure_ (i := 17) (N := some 47) (v := undef) (a' := ?_) #[true, true, true, true, true, true, true, true, true, true, true, true, true, true, true, true, true, true, false, false, false, false, false] rfl rfl (by kernel_rfl) (fun _ _ _ h => h) (Or.inr ⟨by rfl, rfl⟩) ?_ ?_
    rotate_left
    · simp only [Act.put, List.setIfInBounds_toArray, List.set_cons_zero, List.set_cons_succ, i64_w, i32_w]
      rfl
    refine pure_ (i := 18) (N := some 48) (v := undef) (a' := ?_) #[true, true, true, true, true, true, true, true, true, true, true, true, true, true, true, true, true, true, true, false, false, false, false] rfl rfl (by kernel_rfl) (fun _ _ _ h => h) (Or.inr ⟨by rfl, rfl⟩) ?_ ?_
    rotate_left
    · simp only [Act.put, List.setIfInBounds_toArray, List.set_cons_zero, List.set_cons_succ, i64_w, i32_w]
      rfl
    refine pure_ (i := 19) (N := some 49) (v := ?_) (a' := ?_) #[true, true, true, true, true, true, true, true, true, true, true, true, true, true, true, true, true, true, true, true, false, false, false] rfl rfl (by kernel_rfl) (fun _ _ _ h => h) (Or.inl ⟨by rfl, ?_⟩) ?_ ?_
    rotate_left
    · intro w'
      go_simp
      with_reducible rfl
    rotate_left
    · simp only [Act.put, List.setIfInBounds_toArray, List.set_cons_zero, List.set_cons_succ, i64_w, i32_w]
      rfl
    refine one_ (i := 20) (N := none) #[true, true, true, true, true, true, true, true, true, true, true, true, true, true, true, true, true, true, true, true, true, false, false] rfl rfl (by kernel_rfl) (by decide) (fun K hK => ?_)
    have hc0 := (blk_cell H6.out 0).trans (show _ = some (Value.int .i64 0) from rfl)
    have hc1 := (blk_cell H6.out 1).trans (show _ = some (Value.int .i64 0) from rfl)
    have hf0 := blk_frozen H6.out 0
    have hf1 := blk_frozen H6.out 1
    refine skip_ (w1 := ?_) (by rfl) rfl ?_ ?_
    rotate_left
    · go_simp
      rfl
    have n0_ := Aside0.mk (blk_put (blk_put H6.out 0 (.int .i64 x) rfl) 1 (.int .i64 c) rfl)
    have n1_ := Aside0.mk (blk_far (p := ⟨w.heap.size + 1, 1, none⟩) (blk_far (p := ⟨w.heap.size + 1, 0, none⟩) HK.out (show (w.heap.size : Nat) ≠ w.heap.size + 1 by have := HN.out.1; have := HN.out.2.1; omega) (.int .i64 x)) (show (w.heap.size : Nat) ≠ w.heap.size + 1 by have := HN.out.1; have := HN.out.2.1; omega) (.int .i64 c))
    have n2_ := Aside0.mk (blk_far (p := ⟨w.heap.size + 1, 1, none⟩) (blk_far (p := ⟨w.heap.size + 1, 0, none⟩) HA.out (show (bA : Nat) ≠ w.heap.size + 1 by have := HN.out.1; have := HN.out.2.1; omega) (.int .i64 x)) (show (bA : Nat) ≠ w.heap.size + 1 by have := HN.out.1; have := HN.out.2.1; omega) (.int .i64 c))
    have n3_ := Aside0.mk (blk_far (p := ⟨w.heap.size + 1, 1, none⟩) (blk_far (p := ⟨w.heap.size + 1, 0, none⟩) HBk.out (show (bB : Nat) ≠ w.heap.size + 1 by have := HN.out.1; have := HN.out.2.1; omega) (.int .i64 x)) (show (bB : Nat) ≠ w.heap.size + 1 by have := HN.out.1; have := HN.out.2.1; omega) (.int .i64 c))
    have n4_ := Aside0.mk (blk_far (p := ⟨w.heap.size + 1, 1, none⟩) (blk_far (p := ⟨w.heap.size + 1, 0, none⟩) H7.out (show (w.heap.size + 1 + 1 : Nat) ≠ w.heap.size + 1 by have := HN.out.1; have := HN.out.2.1; omega) (.int .i64 x)) (show (w.heap.size + 1 + 1 : Nat) ≠ w.heap.size + 1 by have := HN.out.1; have := HN.out.2.1; omega) (.int .i64 c))
    have n5_ := Aside0.mk (below_set (j := 1) (v := .int .i64 c) (below_set (j := 0) (v := .int .i64 x) HB.out (show w.heap.size ≤ w.heap.size + 1 by omega)) (show w.heap.size ≤ w.heap.size + 1 by omega))
    clear H6 HK HA HBk H7 HB
    have H6 := n0_
    have HK := n1_
    have HA := n2_
    have HBk := n3_
    have H7 := n4_
    have HB := n5_
    clear n0_ n1_ n2_ n3_ n4_ n5_
    clear hc0 hc1 hf0 hf1
    refine hK.out _ _ ⟨(blk_cell HK.out 0).trans rfl, (blk_cell HA.out 0).trans rfl, (blk_cell HA.out 1).trans rfl, (blk_cell HBk.out 0).trans rfl, (blk_cell HBk.out 1).trans rfl⟩ (fun hHeld => ?_)
    clear hK K
    refine one_ (i := 21) (N := none) #[true, true, true, true, true, true, true, true, true, true, true, true, true, true, true, true, true, true, true, true, true, true, false] rfl rfl (by kernel_rfl) (by decide) (fun K hK => ?_)
    have hc0 := (blk_cell H7.out 0).trans (show _ = some (Value.int .i64 0) from rfl)
    have hc1 := (blk_cell H7.out 1).trans (show _ = some (Value.int .i64 0) from rfl)
    have hf0 := blk_frozen H7.out 0
    have hf1 := blk_frozen H7.out 1
    refine skip_ (w1 := ?_) (by rfl) rfl ?_ ?_
    rotate_left
    · go_simp
      rfl
    have n0_ := Aside0.mk (blk_put (blk_put H7.out 0 (.int .i64 x) rfl) 1 (.int .i64 y) rfl)
    have n1_ := Aside0.mk (blk_far (p := ⟨w.heap.size + 1 + 1, 1, none⟩) (blk_far (p := ⟨w.heap.size + 1 + 1, 0, none⟩) HK.out (show (w.heap.size : Nat) ≠ w.heap.size + 1 + 1 by have := HN.out.1; have := HN.out.2.1; omega) (.int .i64 x)) (show (w.heap.size : Nat) ≠ w.heap.size + 1 + 1 by have := HN.out.1; have := HN.out.2.1; omega) (.int .i64 y))
    have n2_ := Aside0.mk (blk_far (p := ⟨w.heap.size + 1 + 1, 1, none⟩) (blk_far (p := ⟨w.heap.size + 1 + 1, 0, none⟩) HA.out (show (bA : Nat) ≠ w.heap.size + 1 + 1 by have := HN.out.1; have := HN.out.2.1; omega) (.int .i64 x)) (show (bA : Nat) ≠ w.heap.size + 1 + 1 by have := HN.out.1; have := HN.out.2.1; omega) (.int .i64 y))
    have n3_ := Aside0.mk (blk_far (p := ⟨w.heap.size + 1 + 1, 1, none⟩) (blk_far (p := ⟨w.heap.size + 1 + 1, 0, none⟩) HBk.out (show (bB : Nat) ≠ w.heap.size + 1 + 1 by have := HN.out.1; have := HN.out.2.1; omega) (.int .i64 x)) (show (bB : Nat) ≠ w.heap.size + 1 + 1 by have := HN.out.1; have := HN.out.2.1; omega) (.int .i64 y))
    have n4_ := Aside0.mk (blk_far (p := ⟨w.heap.size + 1 + 1, 1, none⟩) (blk_far (p := ⟨w.heap.size + 1 + 1, 0, none⟩) H6.out (show (w.heap.size + 1 : Nat) ≠ w.heap.size + 1 + 1 by have := HN.out.1; have := HN.out.2.1; omega) (.int .i64 x)) (show (w.heap.size + 1 : Nat) ≠ w.heap.size + 1 + 1 by have := HN.out.1; have := HN.out.2.1; omega) (.int .i64 y))
    have n5_ := Aside0.mk (below_set (j := 1) (v := .int .i64 y) (below_set (j := 0) (v := .int .i64 x) HB.out (show w.heap.size ≤ w.heap.size + 1 + 1 by omega)) (show w.heap.size ≤ w.heap.size + 1 + 1 by omega))
    clear H7 HK HA HBk H6 HB
    have H7 := n0_
    have HK := n1_
    have HA := n2_
    have HBk := n3_
    have H6 := n4_
    have HB := n5_
    clear n0_ n1_ n2_ n3_ n4_ n5_
    clear hc0 hc1 hf0 hf1
    refine hK.out _ _ ⟨(blk_cell HK.out 0).trans rfl, (blk_cell HA.out 0).trans rfl, (blk_cell HA.out 1).trans rfl, (blk_cell HBk.out 0).trans rfl, (blk_cell HBk.out 1).trans rfl⟩ (fun hHeld => ?_)
    clear hK K
    refine pure_ (i := 22) (N := some 8) (v := ?_) (a' := ?_) #[true, true, true, true, true, true, true, true, true, true, true, true, true, true, true, true, true, true, true, true, true, true, true] rfl rfl (by kernel_rfl) (fun _ _ _ h => h) (Or.inl ⟨by rfl, ?_⟩) ?_ ?_
    rotate_left
    · intro w'
      go_simp
      with_reducible rfl
    rotate_left
    · simp only [Act.put, List.setIfInBounds_toArray, List.set_cons_zero, List.set_cons_succ, i64_w, i32_w]
      rfl
    refine done_ (by kernel_rfl) ?_
    go_wp2
    refine bodyPost_ret (results_cct rfl _ _ (w.heap.size + 1) (w.heap.size + 1 + 1) 81 81 #[.int .i64 x, .int .i64 c] #[.int .i64 x, .int .i64 y] (0, 0) (0, 0) _ _ rfl H6.out Try.underlying81 rfl (by kernel_rfl) rfl H7.out Try.underlying81 rfl (by kernel_rfl)) rfl ?_
    exact ⟨by rw [HP.out, b0]; rfl, HB.out⟩
abbrev KK : TypeId := 81
theorem kn_law : Go.Maps.Keyed Try.prog KK := Go.Maps.Keyed.of_law (deep_law_laid (by kernel_rfl) (m := 2) (by omega) (of_decide_eq_true (by kernel_rfl)) (by kernel_rfl) (by rw [Try.underlying81]))
def kkey (a c : Int) : Lit := .string (keyBytes [.int .i64 a, .int .i64 c])
theorem kkey_inj {a c a' c' : Int} (h1 : (Lit.int .i64 a).wf = true) (h2 : (Lit.int .i64 c).wf = true) (h3 : (Lit.int .i64 a').wf = true) (h4 : (Lit.int .i64 c').wf = true) (h : kkey a c = kkey a' c') : a = a' ∧ c = c' := by
  unfold kkey at h
  injection h with h
  have := Go.keyBytes_inj (l := [.int .i64 a, .int .i64 c]) (l' := [.int .i64 a', .int .i64 c']) ⟨rfl, rfl, trivial⟩ (fun x hx => by simp at hx; rcases hx with rfl | rfl <;> assumption) (fun x hx => by simp at hx; rcases hx with rfl | rfl <;> assumption) h
  simpa using this
theorem kkey_any {P : Program} {K E : TypeId} {fs : Array Field} (hu : P.underlying K = some (.struct fs)) (hall : fs.all (·.name != "_") = true) (hfs : fs.toList.map (fun f => (f.type, f.offset)) = [(E, 0), (E, 1)]) (hE : P.underlying E = some (.int .i64)) (hk : P.keyType K = true) (hc : P.cellsOf K = 2) (hc3 : P.cellsOf E = 1) (N : Nat) (hN : P.types.size = N + 1)
    (a c : Int) (h1 : (Lit.int .i64 a).wf = true) (h2 : (Lit.int .i64 c).wf = true) : keyOf P K (.agg #[.int .i64 a, .int .i64 c]) = some (kkey a c) := by
  unfold keyOf
  rw [hu]
  have hf : (Value.agg #[.int .i64 a, .int .i64 c]).formed P K = true := by simp [Value.formed, hu, hc]
  obtain ⟨f0, f1, e1, t0, o0, t1, o1⟩ : ∃ f0 f1, fs.toList = [f0, f1] ∧ f0.type = E ∧ f0.offset = 0 ∧ f1.type = E ∧ f1.offset = 1 := by
    cases e : fs.toList with
    | nil => rw [e] at hfs; simp at hfs
    | cons f0 r =>
      cases r with
      | nil => rw [e] at hfs; simp at hfs
      | cons f1 r =>
        cases r with
        | nil => rw [e] at hfs; simp at hfs; exact ⟨f0, f1, rfl, hfs.1.1, hfs.1.2, hfs.2.1, hfs.2.2⟩
        | cons f2 r => rw [e] at hfs; simp at hfs
  simp [hk, hf, hN, Program.keyLits, hu, hc, hc3, hE, h1, h2, kkey, Value.cells, e1, t0, o0, t1, o1]
  exact fun i hi => by simpa using Array.all_eq_true.1 hall i hi
theorem kkey_of (a c : Int) (h1 : (Lit.int .i64 a).wf = true) (h2 : (Lit.int .i64 c).wf = true) : keyOf Try.prog KK (.agg #[.int .i64 a, .int .i64 c]) = some (kkey a c) := by
  obtain ⟨N, hN⟩ : ∃ N, Try.prog.types.size = N + 1 := ⟨Try.prog.types.size - 1, by have h0 : 0 < Try.prog.types.size := of_decide_eq_true (by kernel_rfl); generalize Try.prog.types.size = n at h0 ⊢; omega⟩
  exact kkey_any Try.underlying81 (by kernel_rfl) (by kernel_rfl) Try.underlying3 (by kernel_rfl) (by kernel_rfl) (by kernel_rfl) N hN a c h1 h2
theorem kgrown_drew (w : World) (row : Option Nat) : w.grownBy w.drew row := ⟨rfl, rfl, rfl, Nat.le_refl _, fun _ _ _ => rfl⟩
theorem kgrown_below {w w1 w2 : World} {row : Option Nat} (h : w.grownBy w1 row) (hb : Below w1.heap.size w1 w2) : w.grownBy w2 row :=
  ⟨hb.os.trans h.os, hb.tape.trans h.tape, hb.output.trans h.output, Nat.le_trans h.size hb.size, fun k hk hr => (hb.block k (Nat.lt_of_lt_of_le hk h.size)).trans (h.block k hk hr)⟩
theorem kgrown_then {w w1 w2 : World} {row : Option Nat} (h : w.grownBy w1 row) (h2 : w1.grownBy w2 row) : w.grownBy w2 row :=
  ⟨h2.os.trans h.os, h2.tape.trans h.tape, h2.output.trans h.output, Nat.le_trans h.size h2.size, fun k hk hr => (h2.block k (Nat.lt_of_lt_of_le hk h.size) hr).trans (h.block k hk hr)⟩
theorem kgrown_blk {w w1 : World} {mb g : Nat} {o : Obj} (hg : w.heap[g]? = some o) (h : w.grownBy w1 (some mb)) (hne : g ≠ mb) : w1.heap[g]? = some o :=
  (h.block g (blk_lt hg) (fun e => hne (by injection e))).trans hg
theorem kgrown_cell {w w1 : World} {mb : Nat} {p : Addr} {v : Value} (hg : w.cell? p = some v) (h : w.grownBy w1 (some mb)) (hne : p.block ≠ mb) : w1.cell? p = some v :=
  (World.cell?_of_block (h.block _ (World.block_lt_of_cell? _ _ hg) (fun e => hne (by injection e)))).trans hg
/-- A map of numbers that are what V says. -/
def Memo (V : Int → Int → Int → Prop) (w : World) (mb n : Nat) : Prop := ∃ D : DataW Unit, w.ownsMap Try.prog KK (plainElem Try.prog 3) mb n D ∧
  ∀ a c, (Lit.int .i64 a).wf = true → (Lit.int .i64 c).wf = true → Maps.has D (kkey a c) = true → ∃ v, D.atKey (kkey a c) (.lit (.int .i64 0)) = .lit (.int .i64 v) ∧ V a c v
theorem Memo.grown {V : Int → Int → Int → Prop} {w w1 : World} {mb n : Nat} {row : Option Nat} (h : Memo V w mb n) (hg : w.grownBy w1 row) (hr : some mb ≠ row) : Memo V w1 mb n := by
  obtain ⟨D, h1, h2⟩ := h
  exact ⟨D, h1.kept hg hr, h2⟩
theorem Memo.below {V : Int → Int → Int → Prop} {w w1 : World} {mb n : Nat} (h : Memo V w mb n) (hb : Below w.heap.size w w1) : Memo V w1 mb n :=
  h.grown (row := none) ⟨hb.os, hb.tape, hb.output, hb.size, fun k hk _ => hb.block k hk⟩ (by simp)
theorem Memo.drew {V : Int → Int → Int → Prop} {w : World} {mb n : Nat} (h : Memo V w mb n) : Memo V w.drew mb n := h.grown (kgrown_drew w none) (by simp)
theorem Memo.mono {V : Int → Int → Int → Prop} {w : World} {mb n n' : Nat} (h : Memo V w mb n) (hn : n ≤ n') : Memo V w mb n' := by
  obtain ⟨D, h1, h2⟩ := h
  exact ⟨D, h1.mono hn, h2⟩
theorem Memo.made (V : Int → Int → Int → Prop) {w : World} {mb : Nat} (h : w.heap[mb]? = some (.map #[] 0)) : Memo V w mb 0 := by
  refine ⟨.map [], ⟨#[], 0, h, ?_, Nat.le_refl _, rfl⟩, fun a c _ _ h => by simp [Maps.has] at h⟩
  obtain ⟨es, clock, h1, h2, _⟩ := World.ownsMap_made (H := Unit) w Try.prog KK (plainElem Try.prog 3)
  rw [heap_alloc_new] at h1
  cases h1
  exact h2
theorem Memo.look {V : Int → Int → Int → Prop} {w : World} {mb n : Nat} (h : Memo V w mb n) (a c : Int) (h1 : (Lit.int .i64 a).wf = true) (h2 : (Lit.int .i64 c).wf = true) :
    ∃ v b, (∀ w1 : World, w1.heap[mb]? = w.heap[mb]? → (Instr.lookup 101 (.map (some mb)) (.agg #[.int .i64 a, .int .i64 c]) true).run Try.prog w1 = .ok (.tuple #[.int .i64 v, .bool b]) w1) ∧ (b = true → V a c v) := by
  obtain ⟨D, ⟨es, clock, hb, F, hs, hD⟩, hV⟩ := h
  have one : ∀ w1 : World, w1.heap[mb]? = w.heap[mb]? → ∃ v, (Instr.lookup 101 (.map (some mb)) (.agg #[.int .i64 a, .int .i64 c]) true).run Try.prog w1 = .ok (.tuple #[.int .i64 v, .bool (Maps.has D (kkey a c))]) w1 ∧ D.atKey (kkey a c) (.lit (.int .i64 0)) = .lit (.int .i64 v) := by
    intro w1 e
    have ho : w1.ownsMap Try.prog KK (plainElem Try.prog 3) mb n D := ⟨es, clock, e.trans hb, F, hs, hD⟩
    obtain ⟨v, ps, hr, hv⟩ := ho.look_ok kn_law Try.underlying101 (z := .int .i64 0) (by kernel_rfl) (zd := .lit (.int .i64 0)) (zp := []) (plainElem_int Try.underlying3 (by decide)) (kkey_of a c h1 h2)
    obtain ⟨x, rfl, hx, _⟩ := plainElem_int_inv Try.underlying3 hv
    exact ⟨x, hr, congrArg Prod.fst hx⟩
  obtain ⟨v, hr, hat⟩ := one w rfl
  refine ⟨v, Maps.has D (kkey a c), fun w1 e => ?_, fun hb' => ?_⟩
  · obtain ⟨v', hr', hat'⟩ := one w1 e
    have e2 : v = v' := (Lit.int.inj (DataW.lit.inj (hat.symm.trans hat'))).2
    rw [e2]; exact hr'
  · obtain ⟨v', hat', hv⟩ := hV a c h1 h2 hb'
    have e2 : v = v' := (Lit.int.inj (DataW.lit.inj (hat.symm.trans hat'))).2
    rw [e2]; exact hv
theorem Memo.store {V : Int → Int → Int → Prop} {w : World} {mb n : Nat} (h : Memo V w mb n) (hn : n < maxLen) (a c v : Int) (h1 : (Lit.int .i64 a).wf = true) (h2 : (Lit.int .i64 c).wf = true) (h3 : (Lit.int .i64 v).wf = true) (hv : V a c v) :
    ∃ w', (Instr.mapUpdate 101 (.map (some mb)) (.agg #[.int .i64 a, .int .i64 c]) (.int .i64 v)).run Try.prog w = .ok () w' ∧ Memo V w' mb (n + 1) ∧ w.grownBy w' (some mb) := by
  obtain ⟨D, ho, hV⟩ := h
  obtain ⟨w', hr, ho', hg⟩ := ho.update kn_law Try.underlying101 hn (kkey_of a c h1 h2) (plainElem_int Try.underlying3 h3)
  have hK : WideAt.IsKeyLit (kkey a c) := by unfold kkey; exact trivial
  refine ⟨w', hr, ⟨_, ho', fun a' c' h1' h2' hh => ?_⟩, hg⟩
  by_cases e : kkey a' c' = kkey a c
  · obtain ⟨rfl, rfl⟩ := kkey_inj h1' h2' h1 h2 e
    exact ⟨v, Maps.atKey_put_same ho.isMap hK _ _, hv⟩
  · rw [Maps.has_put_other e] at hh
    obtain ⟨v', hat, hv'⟩ := hV a' c' h1' h2' hh
    exact ⟨v', (Maps.atKey_put_other e _ _).trans hat, hv'⟩
/-- One place more. -/
def kst (ask : Bool) (most x y : Int) : Int :=
  if ask = true then (if wrap64 (1 + if x < y then y else x) < most then wrap64 (1 + if x < y then y else x) else most) else (if most < wrap64 (1 + if y < x then y else x) then wrap64 (1 + if y < x then y else x) else most)
def kstep (ask : Bool) (S : List Int) (g : Int → Int → Option Int) (a c : Int) (most : Int) (i : Nat) : Option Int :=
  if kparts S a c i = true then (g (kadd a i) c).bind fun x => (g (kadd a i) (kadd c i)).bind fun y => some (kst ask most x y) else some most
/-- What 'mistakes' (or 'questions') returns: k calls deep. -/
def knq (ask : Bool) (S : List Int) (m : Nat) : Nat → Int → Int → Option Int
  | 0, _, _ => none
  | k + 1, a, c => if (0 ≤ a ∧ a < 256) ∧ (0 ≤ c ∧ c < 256) then
      (if ask = true ∧ ¬ (kleft S a c > 1) then some 0 else ((List.range m).foldlM (kstep ask S (knq ask S m k) a c) (if ask = true then 8 else 0)).bind fun r => if 0 ≤ r ∧ r ≤ 99 then some r else none)
    else none
theorem kfold_mono {σ α : Type} {f g : σ → α → Option σ} (h : ∀ s x, LeO (f s x) (g s x)) : ∀ (l : List α) (s : σ), LeO (l.foldlM f s) (l.foldlM g s) := by
  intro l
  induction l with
  | nil => intro s; exact LeO.refl _
  | cons x l ih => intro s; simp only [List.foldlM_cons]; exact LeO.bind (h s x) fun t => ih t
theorem kfold_take {σ α : Type} (f : σ → α → Option σ) (l : List α) (i : Nat) (x : α) (s : σ) (h : l[i]? = some x) : (l.take (i + 1)).foldlM f s = ((l.take i).foldlM f s).bind fun t => f t x := by
  have hi := (List.getElem?_eq_some_iff.1 h).1
  rw [List.take_succ_eq_append_getElem hi, List.foldlM_append, (List.getElem?_eq_some_iff.1 h).2]
  cases List.foldlM f s (List.take i l) <;> simp
theorem kfold_pre {σ α : Type} (f : σ → α → Option σ) (l : List α) (i : Nat) (s r : σ) (h : l.foldlM f s = some r) : ∃ t, (l.take i).foldlM f s = some t := by
  rw [← List.take_append_drop i l, List.foldlM_append] at h
  cases e : List.foldlM f s (List.take i l) with
  | none => rw [e] at h; cases h
  | some t => exact ⟨t, rfl⟩
theorem knq_mono (ask : Bool) (S : List Int) (m : Nat) : ∀ k a c, LeO (knq ask S m k a c) (knq ask S m (k + 1) a c) := by
  intro k
  induction k with
  | zero => intro a c r h; cases h
  | succ k ih =>
    intro a c
    rw [show knq ask S m (k + 1) a c = _ from rfl, show knq ask S m (k + 1 + 1) a c = _ from rfl]
    unfold knq
    refine LeO.ite (LeO.ite (LeO.refl _) (LeO.bind (kfold_mono (fun s x => ?_) _ _) fun _ => LeO.refl _)) (LeO.refl _)
    unfold kstep
    refine LeO.ite (LeO.bind ?_ fun _ => LeO.bind ?_ fun _ => LeO.refl _) (LeO.refl _)
    · exact ih _ _
    · exact ih _ _
theorem knq_le (ask : Bool) (S : List Int) (m : Nat) (a c r : Int) : ∀ d k, knq ask S m k a c = some r → knq ask S m (k + d) a c = some r := by
  intro d
  induction d with
  | zero => intro k h; exact h
  | succ d ih => intro k h; exact knq_mono ask S m (k + d) a c r (ih k h)
theorem knq_det {ask : Bool} {S : List Int} {m : Nat} {a c u v : Int} {j k : Nat} (h1 : knq ask S m j a c = some u) (h2 : knq ask S m k a c = some v) : u = v := by
  have e1 := knq_le ask S m a c u k j h1
  have e2 := knq_le ask S m a c v j k h2
  rw [Nat.add_comm] at e2
  rw [e1] at e2
  injection e2
def kcost : Nat → Nat
  | 0 => 0
  | k + 1 => 1 + 16 * kcost k
/-- The play as it lies: the class's first row has m numbers. -/
def KW (S : List Int) (m gb mb : Nat) (cA : Addr) (nL cC : Nat) (Ah : Option Addr) (ch : Nat) (As : Option Addr) (cs : Nat) (w : World) : Prop :=
  w.heap[gb]? = some (.cells #[.slice (some cA) nL cC, .slice As S.length cs, .map (some mb)] 103 (0, 0)) ∧ Kd.F (Kd.int .i64) w (fun k => k ≠ mb) As S.length S ∧ w.cell? cA = some (.slice Ah m ch)
theorem KW.mk {S : List Int} {m gb mb : Nat} {cA : Addr} {nL cC : Nat} {Ah : Option Addr} {ch : Nat} {As : Option Addr} {cs : Nat} {w : World} (h1 : w.heap[gb]? = some (.cells #[.slice (some cA) nL cC, .slice As S.length cs, .map (some mb)] 103 (0, 0)))
    (h2 : Kd.F (Kd.int .i64) w (fun k => k ≠ mb) As S.length S) (h3 : w.cell? cA = some (.slice Ah m ch)) : KW S m gb mb cA nL cC Ah ch As cs w := ⟨h1, h2, h3⟩
theorem KW.grown {S : List Int} {m gb mb : Nat} {cA : Addr} {nL cC : Nat} {Ah : Option Addr} {ch : Nat} {As : Option Addr} {cs : Nat} {w w1 : World} (h : KW S m gb mb cA nL cC Ah ch As cs w) (hgm : gb ≠ mb) (hcm : cA.block ≠ mb) (hg : w.grownBy w1 (some mb)) : KW S m gb mb cA nL cC Ah ch As cs w1 :=
  ⟨kgrown_blk h.1 hg hgm, Kd.F_grown h.2.1 hg (fun k hk e => hk (by injection e)), kgrown_cell h.2.2 hg hcm⟩
theorem KW.below {S : List Int} {m gb mb : Nat} {cA : Addr} {nL cC : Nat} {Ah : Option Addr} {ch : Nat} {As : Option Addr} {cs : Nat} {w w1 : World} (h : KW S m gb mb cA nL cC Ah ch As cs w) (hb : Below w.heap.size w w1) : KW S m gb mb cA nL cC Ah ch As cs w1 :=
  ⟨(hb.block _ (blk_lt h.1)).trans h.1, Kd.F_below h.2.1 hb, (World.cell?_of_block (hb.block _ (World.block_lt_of_cell? _ _ h.2.2))).trans h.2.2⟩
theorem ksets_len (l : List (List Int)) : (ksets l).length = l.length := by simp [ksets]
theorem kn_start {l : List (List Int)} {A0 : Option Addr} {c0 gb mb : Nat} {vs : Value} {w w3 : World} (hr : Kd.C (Kd.slice 3 (Kd.int .i64)) w A0 l.length l) (hl : 0 < l.length) (hB : Below w.heap.size w w3) (h1 : w.heap.size ≤ mb)
    (h2 : w3.heap[gb]? = some (.cells #[.slice A0 l.length c0, vs, .map (some mb)] 103 (0, 0))) (h3 : Kd.R (Kd.int .i64) 3 w3 w.heap.size (fun k => k ≠ mb ∧ k ≠ gb) vs (ksets l)) :
    ∃ (ad : Addr) (Ah : Option Addr) (ch : Nat) (As : Option Addr) (cs : Nat), A0 = some ad ∧ ad.block ≠ mb ∧ KW (ksets l) (rd_L1 l 0).length gb mb ad l.length c0 Ah ch As cs w3 := by
  obtain ⟨ad, Ah, ch, e, hc, _, _⟩ := at_L1 hr 0 (by omega) (by omega)
  have e0 : ad.add (0 : Int).toNat = ad := by simp [Addr.add]
  rw [e0] at hc
  have hlt := World.block_lt_of_cell? _ _ hc
  subst e
  obtain ⟨As, cs, rfl⟩ := Kd.R_slice h3
  refine ⟨ad, Ah, ch, As, cs, rfl, by omega, h2, Kd.F_mono (Kd.R_F h3) (fun _ hk => hk.1), (World.cell?_of_block (hB.block _ hlt)).trans hc⟩
theorem kn_below {w w3 w4 : World} {mb : Nat} (hB : Below w.heap.size w w3) (h1 : w.heap.size ≤ mb) (hg : w3.grownBy w4 (some mb)) : Below w.heap.size w w4 :=
  ⟨hg.os.trans hB.os, hg.tape.trans hB.tape, hg.output.trans hB.output, Nat.le_trans hB.size hg.size, fun k hk => (hg.block k (Nat.lt_of_lt_of_le hk hB.size) (fun e => by injection e with e; omega)).trans (hB.block k hk)⟩
theorem kcost9 : kcost 9 ≤ 5000000000 := by decide

end Go.Proofs.Ytddpdeoflaigeaa.PFnExactFirstQuestion
